/- IncMoves: the law. -/
import Derived.Test.YtbmcdphiolidkaaDoorIL4
set_option maxRecDepth 100000
set_option linter.unusedSimpArgs false
set_option linter.unusedVariables false
set_option linter.unusedSectionVars false
namespace Go.Ab.tNearU
open Go Go.Proofs

theorem rl_nrm0 (a : AV) : rl (nrm a) = rl a := by
  unfold nrm
  split <;> rfl
theorem cutI_nrm {N : Nat} {a : AV} (h : Row N 1 a) {j : Nat} (hj : j ≤ rl a) : cut (cutI (nrm a) j) = cut (cutI a j) := by
  obtain rfl | ⟨n, cs, rfl, h1, h2, h3⟩ := h
  · rfl
  · cases n with
    | zero =>
      have : j = 0 := Nat.le_zero.1 hj
      subst this
      rfl
    | succ n => rfl
theorem cutW_nrm {N : Nat} {a : AV} (h : Row N 2 a) {j : Nat} (hj : j ≤ rl a) : cut (cutW (nrm a) j) = cut (cutW a j) ∧ rl (cutW (nrm a) j) = rl (cutW a j) := by
  obtain rfl | ⟨n, cs, rfl, h1, h2, h3⟩ := h
  · exact ⟨rfl, rfl⟩
  · cases n with
    | zero =>
      have : j = 0 := Nat.le_zero.1 hj
      subst this
      refine ⟨?_, rfl⟩
      show [] = List.take (0 * 2) cs
      rw [Nat.zero_mul, List.take_zero]
    | succ n => exact ⟨rfl, rfl⟩
theorem inx_r {m m' : M} (h1 : m'.pre = m.pre) (h2 : cut m'.r = cut m.r) (x : Nat) : inx m' x = inx m x := by
  unfold inx M.kind
  rw [h1, h2]
theorem refV_norm {m : M} (hg : Good 1000 m) (nl na : M × Bool) (part : Int) : refV nl na m.norm part = refV nl na m part ∧ refE m.norm part = refE m part := by
  have hE : refE m.norm part = refE m part := by
    unfold refE
    rw [show rl m.norm.r = rl m.r from rl_nrm0 _]
    rfl
  refine ⟨?_, hE⟩
  unfold refV
  rw [hE]
  by_cases he : refE m part = 0
  · rw [if_pos he, if_pos he]
    have hj : part.toNat ≤ rl m.r := by
      unfold refE at he
      split at he
      · cases he
      · rename_i hno
        have : ¬ ((rl m.r : Int) < part) := fun h => hno (.inr h)
        omega
    have hi : ∀ x, inx (m.norm.cutR part.toNat) x = inx (m.cutR part.toNat) x := fun x => inx_r (m := m.cutR part.toNat) (m' := m.norm.cutR part.toNat) rfl (cutI_nrm hg.r hj) x
    have hk : m.norm.kind = m.kind := rfl
    unfold ref1 ref2
    rw [hk, hi, hi]
  · rw [if_neg he, if_neg he]
theorem sizeV_cv {m m' : M} (h1 : m'.pre = m.pre) (h2 : cut m'.v = cut m.v) (h3 : rl m'.v = rl m.v) (blk : Nat) (vert : Bool) : sizeV m' blk vert = sizeV m blk vert := by
  have hc : ∀ p, m'.cov p = m.cov p := fun p => by unfold M.cov sb M.kind; rw [h1]
  have hs : ∀ n p, sizeP m' blk vert n p = sizeP m blk vert n p := by
    intro n
    induction n with
    | zero => intro p; rfl
    | succ n ih =>
      intro p
      simp only [sizeP, mvA]
      rw [hc, h2, ih]
  have hr : m'.rects = m.rects := by unfold M.rects sb M.kind; rw [h1]
  have hk : m'.kind = m.kind := by unfold M.kind; rw [h1]
  unfold sizeV
  rw [hk, hr, h3, hs]
theorem mvdV_norm {m : M} (hg : Good 1000 m) (nl na : M × Bool) (part : Int) (vert : Bool) : mvdV nl na m.norm part vert = mvdV nl na m part vert ∧ mvdE m.norm part = mvdE m part := by
  have hE : mvdE m.norm part = mvdE m part := by
    unfold mvdE
    rw [show rl m.norm.v = rl m.v from rl_nrm0 _]
    rfl
  refine ⟨?_, hE⟩
  unfold mvdV
  rw [hE]
  by_cases he : mvdE m part = 0
  · rw [if_pos he, if_pos he]
    have hj : part.toNat ≤ rl m.v := by
      unfold mvdE at he
      split at he
      · cases he
      · rename_i hno
        have : ¬ ((rl m.v : Int) < part) := fun h => hno (.inr h)
        omega
    obtain ⟨c1, c2⟩ := cutW_nrm hg.v hj
    have hs : ∀ x, sizeV (m.norm.cutV part.toNat) x vert = sizeV (m.cutV part.toNat) x vert := fun x => sizeV_cv (m := m.cutV part.toNat) (m' := m.norm.cutV part.toNat) rfl c1 c2 x vert
    have hc : m.norm.cov part.toNat = m.cov part.toNat := rfl
    unfold msum
    rw [hc, hs, hs]
  · rw [if_neg he, if_neg he]
set_option maxHeartbeats 4000000 in
theorem incMoves_c {B : CallF} (hB : KnownR B) (k : Nat) {a : AV} {ms : List M} (ha : ∀ S, Rd S a ms) (hl : ms.length ≤ maxLen) (hA : ∀ m ∈ ms, Arg m) {m : M} (hm : Arg m) (fi w i : Int) (b : Bool) :
    ∃ S', Cn B (k + 9) f_spindlelaw16_IncMoves 0 [.int .i64 fi, .int .i64 w, a, .agg m.cells, .int .i64 i, .bool b] S0 = some (.bool true, S') := by
  have hK := hB.toKnown
  rw [c_spindlelaw16_IncMoves _ _ _ _ _ _ _ _ _ (hB.no _ _ _ _ (by decide)), T_spindlelaw16_IncMoves]
  have hgM := hm.good
  have l29 := M.len hgM.pre
  have t29 : List.take 29 m.cells = m.cells := M.t29 hgM.pre
  have h29 : (29 : Nat) ≤ 29 := by omega
  have z29 := M.z hgM.pre
  have hmx := maxLen_is
  obtain ⟨b1, f1, f1'⟩ := few_c hB.no (k + 7) (ha S0) (fun x hx => (hA x hx).good) hl 8
  obtain ⟨b2, f2, f2'⟩ := few_c hB.no (k + 7) (rd_one m S0) (fun x hx => by rw [List.mem_singleton] at hx; subst hx; exact hgM) (by rw [List.length_singleton]; omega) 1
  cases b1 with
  | false =>
    simp only [bO_s, gB_t, asBool_b, asInt_i, asAgg_a, asTup_a, asStr_s, asCons_c, nthA_0, nthA_s, aggCells_a, addV_p, seeV_p, seeV_i, same_nil, tr_same, eql4, neq4, decide_true, decide_false, Bool.false_eq_true, if_false, if_true, Bool.not_true, Bool.not_false, Bool.and_true, Bool.true_and, Bool.and_self, List.getElem?_cons_zero, List.getElem?_cons_succ, Nat.zero_add, Nat.add_zero, beq_self_eq_true, bne_self_eq_false, Int.reduceBNe, Int.reduceBEq, Int.reduceLT, Int.reduceGT, Int.reduceLE, Int.reduceGE, Nat.reduceAdd, Nat.reduceMul, Nat.reduceLeDiff, l29, f1]
    exact ⟨_, rfl⟩
  | true =>
    cases b2 with
    | false =>
      simp only [bO_s, gB_t, asBool_b, asInt_i, asAgg_a, asTup_a, asStr_s, asCons_c, nthA_0, nthA_s, aggCells_a, addV_p, seeV_p, seeV_i, same_nil, tr_same, eql4, neq4, decide_true, decide_false, Bool.false_eq_true, if_false, if_true, Bool.not_true, Bool.not_false, Bool.and_true, Bool.true_and, Bool.and_self, List.getElem?_cons_zero, List.getElem?_cons_succ, Nat.zero_add, Nat.add_zero, beq_self_eq_true, bne_self_eq_false, Int.reduceBNe, Int.reduceBEq, Int.reduceLT, Int.reduceGT, Int.reduceLE, Int.reduceGE, Nat.reduceAdd, Nat.reduceMul, Nat.reduceLeDiff, l29, f1, List.drop_zero, t29, h29, z29, f2]
      exact ⟨_, rfl⟩
    | true =>
      obtain ⟨len8, g60⟩ := f1' rfl
      obtain ⟨_, gm60⟩ := f2' rfl
      have hg : Good 1000 m := (gm60 m (List.mem_singleton.2 rfl)).mono (by omega)
      have hgs : ∀ x ∈ ms, Good 1000 x := fun x hx => (g60 x hx).mono (by omega)
      have hb : Byt m := hm.byt hgM.pre
      have hs : Bys m := hm.pre
      obtain ⟨z, U0, ap, hrd, hE0⟩ := app_two ha hgs (by omega) (l2 := [m]) (fun y hy => by
        rw [List.mem_singleton] at hy
        subst hy
        exact hg) (by simp) S0
      have hgall : ∀ y ∈ [m] ++ ms, Good 1000 y := fun y hy => by
        rcases List.mem_append.1 hy with hy | hy
        · rw [List.mem_singleton] at hy
          subst hy
          exact hg
        · exact hgs y hy
      obtain ⟨b3, f3, f3'⟩ := still_c hB.no (k + 7) hrd hgall (by simp; omega)
      have l1' : ([m] : List M).length = 1 := rfl
      have fl1 : flat [m] = m.cells := by unfold flat; rw [List.flatMap_cons, List.flatMap_nil, List.append_nil]
      rw [l1', fl1] at ap
      have e9 := fun T => awake_c hK (k + 8) T
      simp only [bO_s, gB_t, asBool_b, asInt_i, asAgg_a, asTup_a, asStr_s, asCons_c, nthA_0, nthA_s, aggCells_a, addV_p, seeV_p, seeV_i, same_nil, tr_same, eql4, neq4, decide_true, decide_false, Bool.false_eq_true, if_false, if_true, Bool.not_true, Bool.not_false, Bool.and_true, Bool.true_and, Bool.and_self, List.getElem?_cons_zero, List.getElem?_cons_succ, Nat.zero_add, Nat.add_zero, beq_self_eq_true, bne_self_eq_false, Int.reduceBNe, Int.reduceBEq, Int.reduceLT, Int.reduceGT, Int.reduceLE, Int.reduceGE, Nat.reduceAdd, Nat.reduceMul, Nat.reduceLeDiff, l29, f1, List.drop_zero, t29, h29, z29, f2, ap, f3]
      cases b3 with
      | false =>
        simp only [bO_s, gB_t, asBool_b, asInt_i, asAgg_a, asTup_a, asStr_s, asCons_c, nthA_0, nthA_s, aggCells_a, addV_p, seeV_p, seeV_i, same_nil, tr_same, eql4, neq4, decide_true, decide_false, Bool.false_eq_true, if_false, if_true, Bool.not_true, Bool.not_false, Bool.and_true, Bool.true_and, Bool.and_self, List.getElem?_cons_zero, List.getElem?_cons_succ, Nat.zero_add, Nat.add_zero, beq_self_eq_true, bne_self_eq_false, Int.reduceBNe, Int.reduceBEq, Int.reduceLT, Int.reduceGT, Int.reduceLE, Int.reduceGE, Nat.reduceAdd, Nat.reduceMul, Nat.reduceLeDiff]
        first | exact ⟨_, rfl⟩ | exact some_tr _ _ _
      | true =>
        have hnl : (ms.map M.norm).length = ms.length := List.length_map _
        have hbs : ∀ y ∈ ms.map M.norm, Byt y := fun y hy => by
          obtain ⟨u, hu, rfl⟩ := List.mem_map.1 hy
          exact ⟨((hA u hu).byt (hA u hu).good.pre).k, (hA u hu).cb⟩
        have hss : ∀ y ∈ ms.map M.norm, Bys y := fun y hy => by
          obtain ⟨u, hu, rfl⟩ := List.mem_map.1 hy
          exact (hA u hu).pre
        have hcxU : U0.cx.1 = none := by rw [hE0.2.1]; rfl
        rcases both_c (fi := fi) (w := w) hB.no (k + 2) (S := U0) ha hgs (by omega) with ⟨hok, V, q1, q1', c1, hV, hE1⟩ | ⟨hno, c1⟩
        · have hO := hV.a
          have hR := hV.b
          have hcx : V.cx.1 = none := by rw [hE1.2.1]; exact hcxU
          have e2 := copyMb_c hB.no (k + 5) hg V
          have hgn := hg.norm
          have hbn : Byt m.norm := ⟨hb.k, hb.c⟩
          have hsn : Bys m.norm := hs
          have ln := M.len hgn.pre
          have cn := hgn.cell
          have zn := M.z hgn.pre
          have tn : List.take 29 m.norm.cells = m.norm.cells := M.t29 hgn.pre
          obtain ⟨mn, hmn⟩ : ∃ mn, mn = m.norm := ⟨_, rfl⟩
          have n1 : ∀ part, refV (lf fi w (ms.map M.norm)) (fa fi (ms.map M.norm) (fi + (ms.map M.norm).length - w)) mn part = refV (lf fi w (ms.map M.norm)) (fa fi (ms.map M.norm) (fi + (ms.map M.norm).length - w)) m part ∧ refE mn part = refE m part := fun part => by rw [hmn]; exact refV_norm hg _ _ part
          have n2 : ∀ part, mvdV (lf fi w (ms.map M.norm)) (fa fi (ms.map M.norm) (fi + (ms.map M.norm).length - w)) mn part b = mvdV (lf fi w (ms.map M.norm)) (fa fi (ms.map M.norm) (fi + (ms.map M.norm).length - w)) m part b ∧ mvdE mn part = mvdE m part := fun part => by rw [hmn]; exact mvdV_norm hg _ _ part b
          have e3 : Cn B (k + 8) f_spindlekit_EqualMb 0 [.agg mn.cells, .agg m.cells] V = some (.bool true, V) := equalMb_c hB.no (k + 5) (by rw [hmn]; exact hgn) hg (by rw [hmn]; exact hg.sim) V
          rw [← hmn] at e2 hgn hbn hsn ln cn zn tn
          simp only [bO_s, gB_t, asBool_b, asInt_i, asAgg_a, asTup_a, asStr_s, asCons_c, nthA_0, nthA_s, aggCells_a, addV_p, seeV_p, seeV_i, same_nil, tr_same, eql4, neq4, decide_true, decide_false, Bool.false_eq_true, if_false, if_true, Bool.not_true, Bool.not_false, Bool.and_true, Bool.true_and, Bool.and_self, List.getElem?_cons_zero, List.getElem?_cons_succ, Nat.zero_add, Nat.add_zero, beq_self_eq_true, bne_self_eq_false, Int.reduceBNe, Int.reduceBEq, Int.reduceLT, Int.reduceGT, Int.reduceLE, Int.reduceGE, Nat.reduceAdd, Nat.reduceMul, Nat.reduceLeDiff, c1, eql_ptr, l29, h29, List.drop_zero, t29, e2, ln, cn, zn]
          refine loop_ex (fun (o : Option (AV × Heap)) => ∃ S', o = some (.bool true, S'))
            (fun j s => s = ([.int .i64 i, .bool b, .agg m.cells, .ptr U0.next 0, .ptr (U0.next + 1) 0, .agg mn.cells, .int .i64 ((j : Int) - 1)], V))
            (fun x => x = (0, [.agg m.cells, .agg mn.cells], V)) 19 rfl ?_ ?_
          · rintro j s hj rfl
            by_cases hjn : j < 19
            · have hle : (j : Int) - 1 ≤ 17 := by omega
              have hw : IntKind.wrap .i64 ((j : Int) - 1 + 1) = ((j + 1 : Nat) : Int) - 1 := by rw [wr _ (by omega)]; omega
              refine .inr ⟨hjn, ([.int .i64 i, .bool b, .agg m.cells, .ptr U0.next 0, .ptr (U0.next + 1) 0, .agg mn.cells, .int .i64 (((j + 1 : Nat) : Int) - 1)], V), ?_, rfl⟩
              obtain ⟨pt, hpt⟩ : ∃ pt : Int, pt = if ((j : Int) - 1 == 17) = true then i else (j : Int) - 1 := ⟨_, rfl⟩
              have r1 := ref_c hK (k + 2) hO hbs hcx hgn hbn pt
              have r2 := rref_c hK (k + 1) hR hbs hg hb pt
              have r3 := mvd_c hB.toKnownP (k + 2) hO hbs hss hgn hbn hsn pt b
              have r4 := rmvd_c hB (k + 1) hR hbs hss hg hb hs pt b
              rw [(n1 pt).1, (n1 pt).2] at r1
              rw [(n2 pt).1, (n2 pt).2] at r3
              cases h17 : ((j : Int) - 1 == 17) with
              | true =>
                rw [h17, if_pos rfl] at hpt
                subst hpt
                simp only [bO_s, gB_t, asBool_b, asInt_i, asAgg_a, asTup_a, asStr_s, asCons_c, nthA_0, nthA_s, aggCells_a, addV_p, seeV_p, seeV_i, same_nil, tr_same, eql4, neq4, decide_true, decide_false, Bool.false_eq_true, if_false, if_true, Bool.not_true, Bool.not_false, Bool.and_true, Bool.true_and, Bool.and_self, List.getElem?_cons_zero, List.getElem?_cons_succ, Nat.zero_add, Nat.add_zero, beq_self_eq_true, bne_self_eq_false, Int.reduceBNe, Int.reduceBEq, Int.reduceLT, Int.reduceGT, Int.reduceLE, Int.reduceGE, Nat.reduceAdd, Nat.reduceMul, Nat.reduceLeDiff, hle, h17, ln, l29, h29, List.drop_zero, t29, tn, r1, r2, r3, r4, hw]
              | false =>
                rw [h17, if_neg (by decide)] at hpt
                rw [hpt] at r1 r2 r3 r4
                simp only [bO_s, gB_t, asBool_b, asInt_i, asAgg_a, asTup_a, asStr_s, asCons_c, nthA_0, nthA_s, aggCells_a, addV_p, seeV_p, seeV_i, same_nil, tr_same, eql4, neq4, decide_true, decide_false, Bool.false_eq_true, if_false, if_true, Bool.not_true, Bool.not_false, Bool.and_true, Bool.true_and, Bool.and_self, List.getElem?_cons_zero, List.getElem?_cons_succ, Nat.zero_add, Nat.add_zero, beq_self_eq_true, bne_self_eq_false, Int.reduceBNe, Int.reduceBEq, Int.reduceLT, Int.reduceGT, Int.reduceLE, Int.reduceGE, Nat.reduceAdd, Nat.reduceMul, Nat.reduceLeDiff, hle, h17, ln, l29, h29, List.drop_zero, t29, tn, r1, r2, r3, r4, hw]
            · have hle : ¬ (j : Int) - 1 ≤ 17 := by omega
              exact .inl ⟨_, by simp only [bO_s, gB_t, asBool_b, asInt_i, asAgg_a, asTup_a, asStr_s, asCons_c, nthA_0, nthA_s, aggCells_a, addV_p, seeV_p, seeV_i, same_nil, tr_same, eql4, neq4, decide_true, decide_false, Bool.false_eq_true, if_false, if_true, Bool.not_true, Bool.not_false, Bool.and_true, Bool.true_and, Bool.and_self, List.getElem?_cons_zero, List.getElem?_cons_succ, Nat.zero_add, Nat.add_zero, beq_self_eq_true, bne_self_eq_false, Int.reduceBNe, Int.reduceBEq, Int.reduceLT, Int.reduceGT, Int.reduceLE, Int.reduceGE, Nat.reduceAdd, Nat.reduceMul, Nat.reduceLeDiff, hle], rfl⟩
          · rintro x rfl
            simp only [bO_s, gB_t, asBool_b, asInt_i, asAgg_a, asTup_a, asStr_s, asCons_c, nthA_0, nthA_s, aggCells_a, addV_p, seeV_p, seeV_i, same_nil, tr_same, eql4, neq4, decide_true, decide_false, Bool.false_eq_true, if_false, if_true, Bool.not_true, Bool.not_false, Bool.and_true, Bool.true_and, Bool.and_self, List.getElem?_cons_zero, List.getElem?_cons_succ, Nat.zero_add, Nat.add_zero, beq_self_eq_true, bne_self_eq_false, Int.reduceBNe, Int.reduceBEq, Int.reduceLT, Int.reduceGT, Int.reduceLE, Int.reduceGE, Nat.reduceAdd, Nat.reduceMul, Nat.reduceLeDiff, sel, ln, l29, h29, List.drop_zero, t29, tn, e3, e9]
            first | exact ⟨_, rfl⟩ | exact some_tr _ _ _
        · simp only [bO_s, gB_t, asBool_b, asInt_i, asAgg_a, asTup_a, asStr_s, asCons_c, nthA_0, nthA_s, aggCells_a, addV_p, seeV_p, seeV_i, same_nil, tr_same, eql4, neq4, decide_true, decide_false, Bool.false_eq_true, if_false, if_true, Bool.not_true, Bool.not_false, Bool.and_true, Bool.true_and, Bool.and_self, List.getElem?_cons_zero, List.getElem?_cons_succ, Nat.zero_add, Nat.add_zero, beq_self_eq_true, bne_self_eq_false, Int.reduceBNe, Int.reduceBEq, Int.reduceLT, Int.reduceGT, Int.reduceLE, Int.reduceGE, Nat.reduceAdd, Nat.reduceMul, Nat.reduceLeDiff, c1, eql_nilp, e9]
          first | exact ⟨_, rfl⟩ | exact some_tr _ _ _
theorem arg4 {a : AV} (h : argOk Tryd.prog maxLen 16 4 a) : ∃ b : Bool, a = .bool b := by
  unfold argOk at h
  rw [Tryd.underlying4] at h
  unfold avOk at h
  rw [Tryd.underlying4] at h
  simp only at h
  obtain ⟨b, h⟩ := h
  exact ⟨b, by simpa using h⟩
theorem incMoves_law (xs : List AV) (h : argsOk Tryd.prog maxLen 16 Tryd.f3.params.toList xs) : ∃ (C : CallF) (S' : Heap), NOk Tryd.prog Gk C ∧ C 3 0 xs S0 = some (.bool true, S') := by
  rw [Tryd.params3] at h
  obtain ⟨a, r, rfl, h1, b, r2, rfl, h2, c, r3, rfl, h3, d, r4, rfl, h4, e, r5, rfl, h5, f, r6, rfl, h6, rfl⟩ := h
  obtain ⟨fi, rfl, hfi⟩ := arg3 h1
  obtain ⟨w, rfl, hw⟩ := arg3 h2
  obtain ⟨ms, ha, hl, hA⟩ := arg22 h3
  obtain ⟨m, rfl, hm⟩ := arg29 h4
  obtain ⟨i, rfl, _⟩ := arg3 h5
  obtain ⟨b, rfl⟩ := arg4 h6
  obtain ⟨S', hS⟩ := incMoves_c Br_known 0 ha hl hA hm fi w i b
  exact ⟨Cn Br 9, S', Cr_ok 9, hS⟩
end Go.Ab.tNearU
