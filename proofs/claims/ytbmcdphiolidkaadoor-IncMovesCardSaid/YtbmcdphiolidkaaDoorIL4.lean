/- The reference's sum of differences nearby. -/
import Derived.Test.YtbmcdphiolidkaaDoorIL3
set_option maxRecDepth 100000
set_option linter.unusedSimpArgs false
set_option linter.unusedVariables false
set_option linter.unusedSectionVars false
namespace Go.Ab.tNearU
open Go Go.Proofs

theorem sc_cells {x y : M} (hx : x.pre.length = 23) (hy : y.pre.length = 23) : setCells x.cells 0 y.cells = y.cells := by
  have := setCells_append y.cells [] x.cells [] (by rw [M.len hx, M.len hy])
  simpa using this
theorem sizeV_t (x : M) (kk : Nat) : sizeV x kk true = absW (dif x kk).2 := sizeV_dif x kk true
theorem sizeV_f (x : M) (kk : Nat) : sizeV x kk false = absW (dif x kk).1 := sizeV_dif x kk false
set_option maxHeartbeats 4000000 in
theorem rmvd_c {B : CallF} (hB : KnownR B) (k : Nat) {T : Heap} {p q : Nat} {fi w : Int} {ms : List M} (h : Obj T p q fi w ms) (hby : ∀ m ∈ ms, Byt m) (hbs : ∀ m ∈ ms, Bys m) {m : M} (hg : Good 1000 m) (hb : Byt m) (hs : Bys m) (part : Int) (vert : Bool) :
    Cn B (k + 7) f_spindleref16_Mvd 0 [.ptr p 0, .agg m.cells, .int .i64 part, .bool vert] T = some (.tup [.int .i64 (mvdV (lf fi w ms) (fa fi ms (fi + ms.length - w)) m part vert), .int .i64 (mvdE m part : Int)], T) := by
  rw [c_spindleref16_Mvd _ _ _ _ _ _ _ (hB.no _ _ _ _ (by decide)), T_spindleref16_Mvd]
  have l29 := M.len hg.pre
  have g0 := kind_0 hg hb
  have g24 := M.g24 hg.pre
  have h29 : (29 : Nat) ≤ 29 := by omega
  have h23 : (23 : Nat) ≤ 29 := by omega
  have t29 : List.take 29 m.cells = m.cells := M.t29 hg.pre
  have e1 := rmpieces_c hB (k + 5) hg hb hs T
  obtain ⟨q1, _⟩ := rkinds_c hB.toKnown (k + 6) (kind_le hb) T
  have l26 := rl26 hg.v
  simp only [bO_s, gB_t, asBool_b, asInt_i, asAgg_a, asTup_a, asStr_s, asCons_c, nthA_0, nthA_s, aggCells_a, addV_p, seeV_p, seeV_i, same_nil, tr_same, eql4, neq4, decide_true, decide_false, Bool.false_eq_true, if_false, if_true, Bool.not_true, Bool.not_false, Bool.and_true, Bool.true_and, Bool.and_self, List.getElem?_cons_zero, List.getElem?_cons_succ, Nat.zero_add, Nat.add_zero, beq_self_eq_true, bne_self_eq_false, Int.reduceBNe, Int.reduceBEq, Int.reduceLT, Int.reduceGT, Int.reduceLE, Int.reduceGE, Nat.reduceAdd, Nat.reduceMul, Nat.reduceLeDiff, l29, eql_ptr46, g0, h23, e1, q1]
  cases hmv : isMv m.kind with
  | false =>
    have hE : mvdE m part = 2 := by unfold mvdE; rw [if_pos (.inl (pErr_mv hmv))]
    have hV : mvdV (lf fi w ms) (fa fi ms (fi + ms.length - w)) m part vert = 0 := by unfold mvdV; rw [hE, if_neg (by decide)]
    rw [hE, hV]
    simp only [bO_s, gB_t, asBool_b, asInt_i, asAgg_a, asTup_a, asStr_s, asCons_c, nthA_0, nthA_s, aggCells_a, addV_p, seeV_p, seeV_i, same_nil, tr_same, eql4, neq4, decide_true, decide_false, Bool.false_eq_true, if_false, if_true, Bool.not_true, Bool.not_false, Bool.and_true, Bool.true_and, Bool.and_self, List.getElem?_cons_zero, List.getElem?_cons_succ, Nat.zero_add, Nat.add_zero, beq_self_eq_true, bne_self_eq_false, Int.reduceBNe, Int.reduceBEq, Int.reduceLT, Int.reduceGT, Int.reduceLE, Int.reduceGE, Nat.reduceAdd, Nat.reduceMul, Nat.reduceLeDiff]
    rfl
  | true =>
    by_cases hpe : m.pErr = 0
    · have hpe0 : ((m.pErr : Int) != 0) = false := by rw [hpe]; rfl
      by_cases hlt : (rl m.v : Int) < part
      · have hE : mvdE m part = 2 := by unfold mvdE; rw [if_pos (.inr hlt)]
        have hV : mvdV (lf fi w ms) (fa fi ms (fi + ms.length - w)) m part vert = 0 := by unfold mvdV; rw [hE, if_neg (by decide)]
        rw [hE, hV]
        simp only [bO_s, gB_t, asBool_b, asInt_i, asAgg_a, asTup_a, asStr_s, asCons_c, nthA_0, nthA_s, aggCells_a, addV_p, seeV_p, seeV_i, same_nil, tr_same, eql4, neq4, decide_true, decide_false, Bool.false_eq_true, if_false, if_true, Bool.not_true, Bool.not_false, Bool.and_true, Bool.true_and, Bool.and_self, List.getElem?_cons_zero, List.getElem?_cons_succ, Nat.zero_add, Nat.add_zero, beq_self_eq_true, bne_self_eq_false, Int.reduceBNe, Int.reduceBEq, Int.reduceLT, Int.reduceGT, Int.reduceLE, Int.reduceGE, Nat.reduceAdd, Nat.reduceMul, Nat.reduceLeDiff, hpe0, g24, l26, hlt]
        rfl
      · have hno : ¬ (m.pErr ≠ 0 ∨ (rl m.v : Int) < part) := by rintro (h | h) <;> omega
        by_cases hneg : part < 0
        · have hE : mvdE m part = 3 := by unfold mvdE; rw [if_neg hno, if_pos (.inl hneg)]
          have hV : mvdV (lf fi w ms) (fa fi ms (fi + ms.length - w)) m part vert = 0 := by unfold mvdV; rw [hE, if_neg (by decide)]
          rw [hE, hV]
          simp only [bO_s, gB_t, asBool_b, asInt_i, asAgg_a, asTup_a, asStr_s, asCons_c, nthA_0, nthA_s, aggCells_a, addV_p, seeV_p, seeV_i, same_nil, tr_same, eql4, neq4, decide_true, decide_false, Bool.false_eq_true, if_false, if_true, Bool.not_true, Bool.not_false, Bool.and_true, Bool.true_and, Bool.and_self, List.getElem?_cons_zero, List.getElem?_cons_succ, Nat.zero_add, Nat.add_zero, beq_self_eq_true, bne_self_eq_false, Int.reduceBNe, Int.reduceBEq, Int.reduceLT, Int.reduceGT, Int.reduceLE, Int.reduceGE, Nat.reduceAdd, Nat.reduceMul, Nat.reduceLeDiff, hpe0, g24, l26, hlt, hneg]
          rfl
        · by_cases hge : part ≥ (m.rects.length : Int)
          · have hE : mvdE m part = 3 := by unfold mvdE; rw [if_neg hno, if_pos (.inr hge)]
            have hV : mvdV (lf fi w ms) (fa fi ms (fi + ms.length - w)) m part vert = 0 := by unfold mvdV; rw [hE, if_neg (by decide)]
            rw [hE, hV]
            simp only [bO_s, gB_t, asBool_b, asInt_i, asAgg_a, asTup_a, asStr_s, asCons_c, nthA_0, nthA_s, aggCells_a, addV_p, seeV_p, seeV_i, same_nil, tr_same, eql4, neq4, decide_true, decide_false, Bool.false_eq_true, if_false, if_true, Bool.not_true, Bool.not_false, Bool.and_true, Bool.true_and, Bool.and_self, List.getElem?_cons_zero, List.getElem?_cons_succ, Nat.zero_add, Nat.add_zero, beq_self_eq_true, bne_self_eq_false, Int.reduceBNe, Int.reduceBEq, Int.reduceLT, Int.reduceGT, Int.reduceLE, Int.reduceGE, Nat.reduceAdd, Nat.reduceMul, Nat.reduceLeDiff, hpe0, g24, l26, hlt, hneg, hge]
            rfl
          · have hE : mvdE m part = 0 := by unfold mvdE; rw [if_neg hno, if_neg (by rintro (h | h) <;> omega)]
            obtain ⟨j, rfl⟩ := Int.eq_ofNat_of_zero_le (show 0 ≤ part by omega)
            have hV : mvdV (lf fi w ms) (fa fi ms (fi + ms.length - w)) m (j : Int) vert = msum (m.cutV j) (fa fi ms (fi + ms.length - w)) true ((m.cov j).headD 0) vert (msum (m.cutV j) (lf fi w ms) false ((m.cov j).headD 0) vert 0) := by unfold mvdV; rw [hE, if_pos rfl]; rfl
            rw [hE, hV]
            have hj : j < m.rects.length := by omega
            have hjr : j ≤ rl m.v := by omega
            obtain ⟨l0, hl0, h16, hhd⟩ := cov_0 hj
            rw [hhd]
            have hsl := slice26 hg.v hjr
            have hgc := cutV_good hg hjr
            have hbc : Byt (m.cutV j) := ⟨hb.k, hb.c⟩
            have hsc : Bys (m.cutV j) := hs
            have s24 : setCells m.cells 24 [cutW m.v j] = (m.cutV j).cells := M.s24 hg.pre _
            have hcc : cell (cutW m.v j) = true := (cutW_row hg.v hjr).cell
            have e3 := rmcov_c hB (k + 6) hg hb hs T hj
            generalize hL : m.cov j = L at hl0 e3
            obtain ⟨mc, hmc⟩ : ∃ mc, mc = m.cutV j := ⟨_, rfl⟩
            rw [← hmc] at hgc hbc hsc s24 ⊢
            have lc := M.len hgc.pre
            have tc : List.take 29 mc.cells = mc.cells := M.t29 hgc.pre
            have cc := hgc.cell
            have gl := (lf_good (fi := fi) (w := w) h.good).1
            have bl : Byt (lf fi w ms).1 := lf_byt hby
            have zs : Bys zM := fun i hi => by
              have : i = 0 := by simp [zM] at hi; exact hi
              omega
            have fs : ∀ a, Bys (fa fi ms a).1 := fun a => by
              unfold fa
              split
              · exact hbs _ (List.getElem_mem _)
              · exact zs
            have sl : Bys (lf fi w ms).1 := by
              unfold lf
              split
              · exact zs
              · exact fs _
            have ga := (fa_good (fi := fi) h.good (fi + ms.length - w)).1
            have ba : Byt (fa fi ms (fi + ms.length - w)).1 := fa_byt hby _
            have sa := fs (fi + ms.length - w)
            have n1 := left14_c hB.no (k + 1) h
            have n2 := above14_c hB.no (k + 1) h
            have st1 := (place_l hB.toKnown (k + 6) h16 T).2
            have st2 := (place_a hB.toKnown (k + 6) h16 T).2
            generalize lf fi w ms = nl at *
            generalize fa fi ms (fi + ms.length - w) = na at *
            obtain ⟨nlm, nlb⟩ := nl
            obtain ⟨nam, nab⟩ := na
            unfold pair at n1 n2
            unfold stpA at st1 st2
            dsimp only at n1 n2 gl bl sl ga ba sa
            have ll := M.len gl.pre
            have la := M.len ga.pre
            have cl := gl.cell
            have ca := ga.cell
            have zl := M.z gl.pre
            have za := M.z ga.pre
            have scla := sc_cells gl.pre ga.pre
            have sclm := sc_cells gl.pre hgc.pre
            have scam := sc_cells ga.pre hgc.pre
            have tl : List.take 29 nlm.cells = nlm.cells := M.t29 gl.pre
            have ta : List.take 29 nam.cells = nam.cells := M.t29 ga.pre
            have ix0 : aIdx 1 (isN L) 0 = some (.iptr (L.map iN)) := by
              have : 0 < L.length := by
                rcases Nat.eq_zero_or_pos L.length with h0 | h0
                · rw [List.eq_nil_of_length_eq_zero h0] at hl0; cases hl0
                · exact h0
              simp [aIdx, this, isN]
            have at0 : (L.map iN)[0]? = some (.int .i64 (l0 : Int)) := by
              rw [List.getElem?_map, hl0]; rfl
            have df : ∀ (x : M) (kk : Nat), Good 1000 x → Byt x → Bys x → Cn B (k + 6) f_spindleref16_difference 0 [.agg x.cells, .int .i64 (kk : Int)] T = some (.agg [.int .i64 (dif x kk).1, .int .i64 (dif x kk).2], T) := fun x kk h1 h2 h3 => rdif_c hB (k + 4) h1 h2 h3 kk T
            have ab : ∀ z : Int, Cn B (k + 6) f_spindleref16_abs 0 [.int .i64 z] T = some (.int .i64 (absW z), T) := fun z => rabs_c hB.toKnown (k + 5) z T
            have l2 : ∀ x y : Int, ([.int .i64 x, .int .i64 y] : List AV).length = 2 := fun _ _ => rfl
            have c2 : ∀ x y : Int, ([.int .i64 x, .int .i64 y] : List AV).all cell = true := fun _ _ => rfl
            have s2 : ∀ x y : Int, setCells [.int .i64 0, .int .i64 0] 0 ([.int .i64 x, .int .i64 y] : List AV) = [.int .i64 x, .int .i64 y] := fun _ _ => rfl
            have h22 : (2 : Nat) ≤ 2 := by omega
            have h25 : (25 : Nat) ≤ 29 := by omega
            have z29 := M.z hg.pre
            have hcell := hg.cell
            obtain ⟨v1, hv1⟩ : ∃ v1, v1 = msum mc (nlm, nlb) false l0 vert 0 := ⟨_, rfl⟩
            rw [← hv1]
            obtain ⟨v2, hv2⟩ : ∃ v2, v2 = msum mc (nam, nab) true l0 vert v1 := ⟨_, rfl⟩
            rw [← hv2]
            unfold msum at hv1 hv2
            generalize (stp false false l0).1 = k1 at *
            generalize (stp false false l0).2 = o1 at *
            generalize (stp false true l0).1 = k2 at *
            generalize (stp false true l0).2 = o2 at *
            have dc1 := df mc k1 hgc hbc hsc
            have dc2 := df mc k2 hgc hbc hsc
            have dl1 := df nlm k1 gl bl sl
            have da2 := df nam k2 ga ba sa
            have ofn : ∀ n : Nat, (Int.ofNat n : Int) = (n : Int) := fun _ => rfl
            have w01 : IntKind.wrap .i64 ((0 : Int) + 1) = 1 := by rw [wr _ (by omega)]; rfl
            have w11 : IntKind.wrap .i64 ((1 : Int) + 1) = 2 := by rw [wr _ (by omega)]; rfl
            have lt0 : ((0 : Int) < 2) := by omega
            have lt1 : ((1 : Int) < 2) := by omega
            have lt2 : ¬ ((2 : Int) < 2) := by omega
            simp only [bO_s, gB_t, asBool_b, asInt_i, asAgg_a, asTup_a, asStr_s, asCons_c, nthA_0, nthA_s, aggCells_a, addV_p, seeV_p, seeV_i, same_nil, tr_same, eql4, neq4, decide_true, decide_false, Bool.false_eq_true, if_false, if_true, Bool.not_true, Bool.not_false, Bool.and_true, Bool.true_and, Bool.and_self, List.getElem?_cons_zero, List.getElem?_cons_succ, Nat.zero_add, Nat.add_zero, beq_self_eq_true, bne_self_eq_false, Int.reduceBNe, Int.reduceBEq, Int.reduceLT, Int.reduceGT, Int.reduceLE, Int.reduceGE, Nat.reduceAdd, Nat.reduceMul, Nat.reduceLeDiff, hpe0, g24, l26, hlt, hneg, hge, l29, h29, List.drop_zero, t29, hcell, hsl, hcc, List.all_cons, List.all_nil, z29, h25, g0, h23, e3, s24]
            dsimp only at hv1 hv2
            have lits : ((0 : Nat) : Int) = 0 ∧ ((1 : Nat) : Int) = 1 ∧ ((2 : Nat) : Int) = 2 := ⟨rfl, rfl, rfl⟩
            obtain ⟨li0, li1, li2⟩ := lits
            refine loop_ex (fun (o : Option (AV × Heap)) => o = some (.tup [.int .i64 v2, .int .i64 ((0 : Nat) : Int)], T))
              (fun i s => ∃ z, s = ([.ptr p 0, .bool vert, .agg mc.cells, isN L, .int .i64 z, .int .i64 (i : Int)], T) ∧ (i = 0 → z = 0) ∧ (i = 1 → z = v1) ∧ (i = 2 → z = v2))
              (fun x => x = (0, [.int .i64 v2], T)) 2 ⟨0, rfl, (fun _ => rfl), (fun h => by cases h), (fun h => by cases h)⟩ ?_ ?_
            · rintro i s hi ⟨z, rfl, z0, z1, z2⟩
              rcases (show i = 0 ∨ i = 1 ∨ i = 2 by omega) with rfl | rfl | rfl
              · obtain rfl := z0 rfl
                refine .inr ⟨by omega, ([.ptr p 0, .bool vert, .agg mc.cells, isN L, .int .i64 v1, .int .i64 1], T), ?_, v1, rfl, (fun h => by cases h), (fun _ => rfl), (fun h => by cases h)⟩
                have e01 : ((0 : Int) == 1) = false := rfl
                rw [hv1]
                cases o1 <;> cases nlb <;> cases vert <;> simp only [bO_s, gB_t, asBool_b, asInt_i, asAgg_a, asTup_a, asStr_s, asCons_c, nthA_0, nthA_s, aggCells_a, addV_p, seeV_p, seeV_i, same_nil, tr_same, eql4, neq4, decide_true, decide_false, Bool.false_eq_true, if_false, if_true, Bool.not_true, Bool.not_false, Bool.and_true, Bool.true_and, Bool.and_self, List.getElem?_cons_zero, List.getElem?_cons_succ, Nat.zero_add, Nat.add_zero, beq_self_eq_true, bne_self_eq_false, Int.reduceBNe, Int.reduceBEq, Int.reduceLT, Int.reduceGT, Int.reduceLE, Int.reduceGE, Nat.reduceAdd, Nat.reduceMul, Nat.reduceLeDiff, li0, lt0, ix0, at0, st1, n1, ll, cl, zl, tl, h29, ofn, lc, tc, cc, sclm, dc1, dl1, l2, c2, s2, h22, ab, sizeV_t, sizeV_f, w01, List.drop_zero, e01]
              · obtain rfl := z1 rfl
                refine .inr ⟨by omega, ([.ptr p 0, .bool vert, .agg mc.cells, isN L, .int .i64 v2, .int .i64 2], T), ?_, v2, rfl, (fun h => by cases h), (fun h => by cases h), (fun _ => rfl)⟩
                rw [hv2]
                cases o2 <;> cases nab <;> cases vert <;> simp only [bO_s, gB_t, asBool_b, asInt_i, asAgg_a, asTup_a, asStr_s, asCons_c, nthA_0, nthA_s, aggCells_a, addV_p, seeV_p, seeV_i, same_nil, tr_same, eql4, neq4, decide_true, decide_false, Bool.false_eq_true, if_false, if_true, Bool.not_true, Bool.not_false, Bool.and_true, Bool.true_and, Bool.and_self, List.getElem?_cons_zero, List.getElem?_cons_succ, Nat.zero_add, Nat.add_zero, beq_self_eq_true, bne_self_eq_false, Int.reduceBNe, Int.reduceBEq, Int.reduceLT, Int.reduceGT, Int.reduceLE, Int.reduceGE, Nat.reduceAdd, Nat.reduceMul, Nat.reduceLeDiff, li1, lt1, ix0, at0, st1, n1, ll, cl, zl, tl, h29, ofn, lc, tc, cc, st2, n2, la, ca, za, ta, scla, scam, dc2, da2, l2, c2, s2, h22, ab, sizeV_t, sizeV_f, w11, List.drop_zero]
              · obtain rfl := z2 rfl
                exact .inl ⟨_, by simp only [bO_s, gB_t, asBool_b, asInt_i, asAgg_a, asTup_a, asStr_s, asCons_c, nthA_0, nthA_s, aggCells_a, addV_p, seeV_p, seeV_i, same_nil, tr_same, eql4, neq4, decide_true, decide_false, Bool.false_eq_true, if_false, if_true, Bool.not_true, Bool.not_false, Bool.and_true, Bool.true_and, Bool.and_self, List.getElem?_cons_zero, List.getElem?_cons_succ, Nat.zero_add, Nat.add_zero, beq_self_eq_true, bne_self_eq_false, Int.reduceBNe, Int.reduceBEq, Int.reduceLT, Int.reduceGT, Int.reduceLE, Int.reduceGE, Nat.reduceAdd, Nat.reduceMul, Nat.reduceLeDiff, li2, lt2], rfl⟩
            · rintro x rfl
              simp only [bO_s, gB_t, asBool_b, asInt_i, asAgg_a, asTup_a, asStr_s, asCons_c, nthA_0, nthA_s, aggCells_a, addV_p, seeV_p, seeV_i, same_nil, tr_same, eql4, neq4, decide_true, decide_false, Bool.false_eq_true, if_false, if_true, Bool.not_true, Bool.not_false, Bool.and_true, Bool.true_and, Bool.and_self, List.getElem?_cons_zero, List.getElem?_cons_succ, Nat.zero_add, Nat.add_zero, beq_self_eq_true, bne_self_eq_false, Int.reduceBNe, Int.reduceBEq, Int.reduceLT, Int.reduceGT, Int.reduceLE, Int.reduceGE, Nat.reduceAdd, Nat.reduceMul, Nat.reduceLeDiff, sel]
              rfl
    · have hpe0 : ((m.pErr : Int) != 0) = true := by rw [bne_iff_ne]; omega
      have hE : mvdE m part = 2 := by unfold mvdE; rw [if_pos (.inl hpe)]
      have hV : mvdV (lf fi w ms) (fa fi ms (fi + ms.length - w)) m part vert = 0 := by unfold mvdV; rw [hE, if_neg (by decide)]
      rw [hE, hV]
      simp only [bO_s, gB_t, asBool_b, asInt_i, asAgg_a, asTup_a, asStr_s, asCons_c, nthA_0, nthA_s, aggCells_a, addV_p, seeV_p, seeV_i, same_nil, tr_same, eql4, neq4, decide_true, decide_false, Bool.false_eq_true, if_false, if_true, Bool.not_true, Bool.not_false, Bool.and_true, Bool.true_and, Bool.and_self, List.getElem?_cons_zero, List.getElem?_cons_succ, Nat.zero_add, Nat.add_zero, beq_self_eq_true, bne_self_eq_false, Int.reduceBNe, Int.reduceBEq, Int.reduceLT, Int.reduceGT, Int.reduceLE, Int.reduceGE, Nat.reduceAdd, Nat.reduceMul, Nat.reduceLeDiff, hpe0]
      rfl
end Go.Ab.tNearU
