/- What Ref returns. -/
import Derived.Test.YtbmcdphiolidkaaDoorII3
set_option maxRecDepth 100000
set_option linter.unusedSimpArgs false
set_option linter.unusedVariables false
set_option linter.unusedSectionVars false
namespace Go.Ab.tNearU
open Go Go.Proofs

def cutI (a : AV) (n : Nat) : AV := match a with
  | .is _ cs => .is n (cs.take n)
  | _ => .nils
theorem slice25 {N : Nat} {a : AV} (h : Row N 1 a) {j : Nat} (hj : j ≤ rl a) : aSlice Tryd.prog 25 a none (some (.int .i64 (j : Int))) = some (cutI a j) := by
  have hu : Tryd.prog.underlying 25 = some (.slice 3) := by kernel_rfl
  have hs : tsize Tryd.prog 3 = some 1 := by kernel_rfl
  obtain rfl | ⟨n, cs, rfl, h1, h2, h3⟩ := h
  · have : j = 0 := Nat.le_zero.1 hj
    subst this
    simp [aSlice, hu, hs, aNat, cutI]
  · have hj' : j ≤ n := hj
    have h2' : cs.length = n := by omega
    simp [aSlice, hu, hs, aNat, hj', h2', cutI]
theorem cutI_row {N : Nat} {a : AV} (h : Row N 1 a) {j : Nat} (hj : j ≤ rl a) : Row N 1 (cutI a j) := by
  obtain rfl | ⟨n, cs, rfl, h1, h2, h3⟩ := h
  · exact .inl rfl
  · have hj' : j ≤ n := hj
    exact .inr ⟨j, cs.take j, rfl, by omega, by rw [List.length_take]; omega, fun c hc => h3 c (List.mem_of_mem_take hc)⟩
def M.cutR (m : M) (j : Nat) : M := { m with r := cutI m.r j }
theorem cutR_good {N : Nat} {m : M} (hg : Good N m) {j : Nat} (hj : j ≤ rl m.r) : Good N (m.cutR j) := ⟨hg.pre, cutI_row hg.r hj, hg.v, hg.b⟩
theorem cutR_byt {m : M} (hb : Byt m) (j : Nat) : Byt (m.cutR j) := ⟨hb.k, hb.c⟩
def refE (m : M) (part : Int) : Nat := if isMv m.kind = false ∨ (rl m.r : Int) < part then 2 else if part < 0 ∨ part ≥ partsN m.kind then 3 else 0
def refQ (kind part : Nat) : Nat := if kind = 4 then 2 * part else part
def refV (nl na : M × Bool) (m : M) (part : Int) : Nat := if refE m part = 0 then ref1 nl na (m.cutR part.toNat) (refQ m.kind part.toNat) + ref2 nl na (m.cutR part.toNat) (refQ m.kind part.toNat) else 0
theorem refV_le {nl na : M × Bool} {m : M} {part : Int} : refV nl na m part ≤ 3 := by
  unfold refV
  split
  · have h1 := ref1_le (nl := nl) (na := na) (m := m.cutR part.toNat) (j := refQ m.kind part.toNat)
    have h2 := ref2_le (nl := nl) (na := na) (m := m.cutR part.toNat) (j := refQ m.kind part.toNat)
    omega
  · omega
theorem partsN_le (a : Nat) : partsN a ≤ 4 := by unfold partsN; split <;> omega
theorem partsN_4 {a j : Nat} (h : a = 4) (hj : j < partsN a) : j ≤ 1 := by subst h; have : j < 2 := hj; omega
set_option maxHeartbeats 1000000 in
theorem ref_c {B : CallF} (hB : Known B) (k : Nat) {T : Heap} {p q : Nat} {fi w : Int} {ms : List M} (h : Obj T p q fi w ms) (hby : ∀ m ∈ ms, Byt m) (hcx : T.cx.1 = none) {m : M} (hg : Good 1000 m) (hb : Byt m) (part : Int) :
    Cn B (k + 6) f_inc_Ref 0 [.ptr p 0, .agg m.cells, .int .i64 part] T = some (.tup [.int .i64 (refV (lf fi w ms) (fa fi ms (fi + ms.length - w)) m part : Int), .int .i64 (refE m part : Int)], T) := by
  rw [c_inc_Ref _ _ _ _ _ _ (hB.no _ _ _ _ (by decide)), T_inc_Ref]
  have l29 := M.len hg.pre
  have g0 := kind_0 hg hb
  have g23 := M.g23 hg.pre
  have h29 : (29 : Nat) ≤ 29 := by omega
  have t29 : List.take 29 m.cells = m.cells := M.t29 hg.pre
  obtain ⟨q1, q2, _⟩ := kinds3_c hB (k + 5) (kind_le hb) T
  have hl := rl25 hg.r
  have e22 : ((2 : Nat) : Int) = 2 := rfl
  have e33 : ((3 : Nat) : Int) = 3 := rfl
  simp only [bO_s, gB_t, asBool_b, asInt_i, asAgg_a, asTup_a, asStr_s, asCons_c, nthA_0, nthA_s, aggCells_a, addV_p, seeV_p, seeV_i, same_nil, tr_same, eql4, neq4, decide_true, decide_false, Bool.false_eq_true, if_false, if_true, Bool.not_true, Bool.not_false, Bool.and_true, Bool.true_and, Bool.and_self, List.getElem?_cons_zero, List.getElem?_cons_succ, Nat.zero_add, Nat.add_zero, beq_self_eq_true, bne_self_eq_false, Int.reduceBNe, Int.reduceBEq, Int.reduceLT, Int.reduceGT, Int.reduceLE, Int.reduceGE, Nat.reduceAdd, Nat.reduceMul, Nat.reduceLeDiff, l29, eql_ptr, g0, q1]
  cases hmv : isMv m.kind with
  | false =>
    have hE : refE m part = 2 := by unfold refE; rw [if_pos (.inl hmv)]
    have hV : refV (lf fi w ms) (fa fi ms (fi + ms.length - w)) m part = 0 := by unfold refV; rw [hE, if_neg (by decide)]
    rw [hE, hV]
    simp only [bO_s, gB_t, asBool_b, asInt_i, asAgg_a, asTup_a, asStr_s, asCons_c, nthA_0, nthA_s, aggCells_a, addV_p, seeV_p, seeV_i, same_nil, tr_same, eql4, neq4, decide_true, decide_false, Bool.false_eq_true, if_false, if_true, Bool.not_true, Bool.not_false, Bool.and_true, Bool.true_and, Bool.and_self, List.getElem?_cons_zero, List.getElem?_cons_succ, Nat.zero_add, Nat.add_zero, beq_self_eq_true, bne_self_eq_false, Int.reduceBNe, Int.reduceBEq, Int.reduceLT, Int.reduceGT, Int.reduceLE, Int.reduceGE, Nat.reduceAdd, Nat.reduceMul, Nat.reduceLeDiff]
    rfl
  | true =>
    by_cases hlt : (rl m.r : Int) < part
    · have hE : refE m part = 2 := by unfold refE; rw [if_pos (.inr hlt)]
      have hV : refV (lf fi w ms) (fa fi ms (fi + ms.length - w)) m part = 0 := by unfold refV; rw [hE, if_neg (by decide)]
      rw [hE, hV]
      simp only [bO_s, gB_t, asBool_b, asInt_i, asAgg_a, asTup_a, asStr_s, asCons_c, nthA_0, nthA_s, aggCells_a, addV_p, seeV_p, seeV_i, same_nil, tr_same, eql4, neq4, decide_true, decide_false, Bool.false_eq_true, if_false, if_true, Bool.not_true, Bool.not_false, Bool.and_true, Bool.true_and, Bool.and_self, List.getElem?_cons_zero, List.getElem?_cons_succ, Nat.zero_add, Nat.add_zero, beq_self_eq_true, bne_self_eq_false, Int.reduceBNe, Int.reduceBEq, Int.reduceLT, Int.reduceGT, Int.reduceLE, Int.reduceGE, Nat.reduceAdd, Nat.reduceMul, Nat.reduceLeDiff, g23, hl, hlt]
      rfl
    · have hno : ¬ (isMv m.kind = false ∨ (rl m.r : Int) < part) := by rw [hmv]; simp; omega
      by_cases hneg : part < 0
      · have hE : refE m part = 3 := by unfold refE; rw [if_neg hno, if_pos (.inl hneg)]
        have hV : refV (lf fi w ms) (fa fi ms (fi + ms.length - w)) m part = 0 := by unfold refV; rw [hE, if_neg (by decide)]
        rw [hE, hV]
        simp only [bO_s, gB_t, asBool_b, asInt_i, asAgg_a, asTup_a, asStr_s, asCons_c, nthA_0, nthA_s, aggCells_a, addV_p, seeV_p, seeV_i, same_nil, tr_same, eql4, neq4, decide_true, decide_false, Bool.false_eq_true, if_false, if_true, Bool.not_true, Bool.not_false, Bool.and_true, Bool.true_and, Bool.and_self, List.getElem?_cons_zero, List.getElem?_cons_succ, Nat.zero_add, Nat.add_zero, beq_self_eq_true, bne_self_eq_false, Int.reduceBNe, Int.reduceBEq, Int.reduceLT, Int.reduceGT, Int.reduceLE, Int.reduceGE, Nat.reduceAdd, Nat.reduceMul, Nat.reduceLeDiff, g23, hl, hlt, hneg]
        rfl
      · by_cases hge : part ≥ (partsN m.kind : Int)
        · have hE : refE m part = 3 := by unfold refE; rw [if_neg hno, if_pos (.inr hge)]
          have hV : refV (lf fi w ms) (fa fi ms (fi + ms.length - w)) m part = 0 := by unfold refV; rw [hE, if_neg (by decide)]
          rw [hE, hV]
          simp only [bO_s, gB_t, asBool_b, asInt_i, asAgg_a, asTup_a, asStr_s, asCons_c, nthA_0, nthA_s, aggCells_a, addV_p, seeV_p, seeV_i, same_nil, tr_same, eql4, neq4, decide_true, decide_false, Bool.false_eq_true, if_false, if_true, Bool.not_true, Bool.not_false, Bool.and_true, Bool.true_and, Bool.and_self, List.getElem?_cons_zero, List.getElem?_cons_succ, Nat.zero_add, Nat.add_zero, beq_self_eq_true, bne_self_eq_false, Int.reduceBNe, Int.reduceBEq, Int.reduceLT, Int.reduceGT, Int.reduceLE, Int.reduceGE, Nat.reduceAdd, Nat.reduceMul, Nat.reduceLeDiff, g23, hl, hlt, hneg, g0, q2, hge]
          rfl
        · have hE : refE m part = 0 := by unfold refE; rw [if_neg hno, if_neg (by rintro (h | h) <;> omega)]
          have hV : refV (lf fi w ms) (fa fi ms (fi + ms.length - w)) m part = ref1 (lf fi w ms) (fa fi ms (fi + ms.length - w)) (m.cutR part.toNat) (refQ m.kind part.toNat) + ref2 (lf fi w ms) (fa fi ms (fi + ms.length - w)) (m.cutR part.toNat) (refQ m.kind part.toNat) := by unfold refV; rw [hE, if_pos rfl]
          rw [hE, hV]
          obtain ⟨j, rfl⟩ := Int.eq_ofNat_of_zero_le (show 0 ≤ part by omega)
          have hjp : j < partsN m.kind := by omega
          have hj4 := partsN_le m.kind
          have hjr : j ≤ rl m.r := by omega
          have htn : Int.toNat (Int.ofNat j) = j := rfl
          rw [show Int.toNat (j : Int) = j from rfl]
          have e1 := mbCopy_c hB.no (k + 3) hg T
          have hset : setCells m.cells 0 m.cells = m.cells := setCells_all rfl
          have hsl := slice25 hg.r hjr
          have hgc := cutR_good hg hjr
          have hbc := cutR_byt hb j
          have s23 : setCells m.cells 23 [cutI m.r j] = (m.cutR j).cells := M.s23 hg.pre _
          have hcc : cell (cutI m.r j) = true := (cutI_row hg.r hjr).cell
          have g0c := kind_0 hgc hbc
          have hkc : (m.cutR j).kind = m.kind := rfl
          rw [hkc] at g0c
          have lc := M.len hgc.pre
          have tc : List.take 29 (m.cutR j).cells = (m.cutR j).cells := M.t29 hgc.pre
          have h24 : (24 : Nat) ≤ 29 := by omega
          obtain ⟨qn, hq, hqn⟩ : ∃ qn, refQ m.kind j = qn ∧ qn ≤ 3 := ⟨_, rfl, by unfold refQ; split; (rename_i h4; have := partsN_4 h4 hjp; omega); omega⟩
          rw [hq]
          have hcell := hg.cell
          generalize m.cutR j = mc at *
          have hquart : ∀ (K : LSt → Option (AV × Heap)), bO (α := LSt) (if ((m.kind : Int) == 4) = true then some ([.ptr p 0, .agg mc.cells, .int .i64 (IntKind.wrap .i64 (2 * (j : Int)))], T) else some ([.ptr p 0, .agg mc.cells, .int .i64 (j : Int)], T)) K = K ([.ptr p 0, .agg mc.cells, .int .i64 (qn : Int)], T) := by
            intro K
            rw [← hq]
            unfold refQ
            by_cases h4 : m.kind = 4
            · have : ((m.kind : Int) == 4) = true := by rw [h4]; rfl
              have w2 : IntKind.wrap .i64 (2 * (j : Int)) = ((2 * j : Nat) : Int) := by rw [wr _ (by omega)]; omega
              rw [if_pos this, if_pos h4, w2]; rfl
            · have : ((m.kind : Int) == 4) = false := by rw [beq_eq_false_iff_ne]; omega
              rw [if_neg h4, this]; rfl
          have hm : Int.tmod (qn : Int) 2 = ((qn % 2 : Nat) : Int) := rfl
          have w1 : IntKind.wrap .i64 ((qn : Int) + 1) = ((qn + 1 : Nat) : Int) := by rw [wr _ (by omega)]; omega
          have w2 : IntKind.wrap .i64 ((qn : Int) + 2) = ((qn + 2 : Nat) : Int) := by rw [wr _ (by omega)]; omega
          have hyl : ¬ yldId ≤ f_inc_Ref_1 := by decide
          have l1 := ref1_le (nl := lf fi w ms) (na := fa fi ms (fi + ms.length - w)) (m := mc) (j := qn)
          have l2 := ref2_le (nl := lf fi w ms) (na := fa fi ms (fi + ms.length - w)) (m := mc) (j := qn)
          obtain ⟨T1, hT1, hO1, hc1, e2⟩ : ∃ T1, Ext T T1 ∧ Obj T1 p q fi w ms ∧ T1.cx.1 = none ∧ ∀ (K : LSt → Option (AV × Heap)), bO (α := LSt) (if (Int.tmod (qn : Int) 2 == 0) = true then bO (Cn B (k + 5) f_inc_Ref_1 0 [.int .i64 (IntKind.wrap .i64 ((qn : Int) + 1))] T) fun t31 => bO (Cn B (k + 5) f_inc_weigh 0 [.ptr p 0, t31.1, .is 2 [.int .i64 1, .int .i64 0]] t31.2) fun t32 => asInt .i64 t32.1 fun i33 => some ([.ptr p 0, .agg mc.cells, .int .i64 (qn : Int), .fn f_inc_Ref_1 [] [], .int .i64 i33], t32.2) else bO (Cn B (k + 5) f_inc_index 0 [.agg mc.cells, .int .i64 (IntKind.wrap .i64 ((qn : Int) - 1))] T) fun t34 => asInt .i64 t34.1 fun i35 => bO (α := LSt) (if decide ((i35 : Int) > 0) = true then some ([.ptr p 0, .agg mc.cells, .int .i64 (qn : Int), .fn f_inc_Ref_1 [] [], .int .i64 1], t34.2) else some ([.ptr p 0, .agg mc.cells, .int .i64 (qn : Int), .fn f_inc_Ref_1 [] [], .int .i64 0], t34.2)) fun r36 => asInt .i64 (nthA r36.1 2) fun i37 => asInt .i64 (nthA r36.1 4) fun i38 => some ([nthA r36.1 0, .agg (aggCells (nthA r36.1 1)), .int .i64 i37, nthA r36.1 3, .int .i64 i38], r36.2)) K =
            K ([.ptr p 0, .agg mc.cells, .int .i64 (qn : Int), .fn f_inc_Ref_1 [] [], .int .i64 (ref1 (lf fi w ms) (fa fi ms (fi + ms.length - w)) mc qn : Int)], T1) := by
            unfold ref1
            rw [hm]
            by_cases h0 : qn % 2 = 0
            · have a1 := refF_c hB (k + 4) ((qn + 1 : Nat) : Int) T
              have a2 := refW hB k h hby hcx (j := qn + 1) (by omega) (w0 := 1) (w1 := 0) (by omega) (by omega)
              simp only [Int.natCast_one, Int.natCast_zero] at a2
              refine ⟨T.alloc [.int .i64 ((qn + 1 : Nat) : Int)], Ext.alloc T _, h.alloc _, hcx, fun K => ?_⟩
              rw [if_pos h0, h0]
              simp only [bO_s, gB_t, asBool_b, asInt_i, asAgg_a, asTup_a, asStr_s, asCons_c, nthA_0, nthA_s, aggCells_a, addV_p, seeV_p, seeV_i, same_nil, tr_same, eql4, neq4, decide_true, decide_false, Bool.false_eq_true, if_false, if_true, Bool.not_true, Bool.not_false, Bool.and_true, Bool.true_and, Bool.and_self, List.getElem?_cons_zero, List.getElem?_cons_succ, Nat.zero_add, Nat.add_zero, beq_self_eq_true, bne_self_eq_false, Int.reduceBNe, Int.reduceBEq, Int.reduceLT, Int.reduceGT, Int.reduceLE, Int.reduceGE, Nat.reduceAdd, Nat.reduceMul, Nat.reduceLeDiff, show (((0 : Nat) : Int) == 0) = true from rfl, w1, a1, a2]
            · have h1 : qn % 2 = 1 := by omega
              have wm : IntKind.wrap .i64 ((qn : Int) - 1) = ((qn - 1 : Nat) : Int) := by rw [wr _ (by omega)]; omega
              have a1 := inx_c hB (k + 3) hgc hbc (q := qn - 1) (by omega) T
              refine ⟨T, Ext.refl T, h, hcx, fun K => ?_⟩
              rw [if_neg h0, h1]
              by_cases hz : inx mc (qn - 1) > 0 <;> simp only [bO_s, gB_t, asBool_b, asInt_i, asAgg_a, asTup_a, asStr_s, asCons_c, nthA_0, nthA_s, aggCells_a, addV_p, seeV_p, seeV_i, same_nil, tr_same, eql4, neq4, decide_true, decide_false, Bool.false_eq_true, if_false, if_true, Bool.not_true, Bool.not_false, Bool.and_true, Bool.true_and, Bool.and_self, List.getElem?_cons_zero, List.getElem?_cons_succ, Nat.zero_add, Nat.add_zero, beq_self_eq_true, bne_self_eq_false, Int.reduceBNe, Int.reduceBEq, Int.reduceLT, Int.reduceGT, Int.reduceLE, Int.reduceGE, Nat.reduceAdd, Nat.reduceMul, Nat.reduceLeDiff, show (((1 : Nat) : Int) == 0) = false from rfl, wm, a1, hz] <;> rfl
          obtain ⟨T2, hT2, e3⟩ : ∃ T2, Ext T T2 ∧ ∀ (s : Nat) (K : LSt → Option (AV × Heap)), s ≤ 1 → bO (α := LSt) (if decide ((qn : Int) < 2) = true then callK (Cn B (k + 5)) .none (.fn f_inc_Ref_1 [] []) [.int .i64 (IntKind.wrap .i64 ((qn : Int) + 2))] T1 fun v42 S43 => bO (Cn B (k + 5) f_inc_weigh 0 [.ptr p 0, v42, .is 2 [.int .i64 0, .int .i64 2]] S43) fun t44 => asInt .i64 t44.1 fun i45 => some ([.int .i64 (IntKind.wrap .i64 ((s : Int) + i45))], t44.2) else bO (Cn B (k + 5) f_inc_index 0 [.agg mc.cells, .int .i64 (IntKind.wrap .i64 ((qn : Int) - 2))] T1) fun t46 => asInt .i64 t46.1 fun i47 => bO (α := LSt) (if decide ((i47 : Int) > 0) = true then some ([.int .i64 (IntKind.wrap .i64 ((s : Int) + 2))], t46.2) else some ([.int .i64 (s : Int)], t46.2)) fun r48 => asInt .i64 (nthA r48.1 0) fun i49 => some ([.int .i64 i49], r48.2)) K =
            K ([.int .i64 ((s + ref2 (lf fi w ms) (fa fi ms (fi + ms.length - w)) mc qn : Nat) : Int)], T2) := by
            unfold ref2 at l2 ⊢
            by_cases h0 : qn < 2
            · have a1 := refF_c hB (k + 4) ((qn + 2 : Nat) : Int) T1
              have a2 := refW hB k hO1 hby hc1 (j := qn + 2) (by omega) (w0 := 0) (w1 := 2) (by omega) (by omega)
              simp only [Int.natCast_zero, show ((2 : Nat) : Int) = 2 from rfl] at a2
              rw [if_pos h0] at l2 ⊢
              refine ⟨T1.alloc [.int .i64 ((qn + 2 : Nat) : Int)], hT1.trans (Ext.alloc T1 _), fun s K hs1 => ?_⟩
              have hlt : (qn : Int) < 2 := by omega
              have wsum : IntKind.wrap .i64 ((s : Int) + ((wv (lf fi w ms) (aboveH (qn + 2)) 0 + wv (fa fi ms (fi + ms.length - w)) (aboveH (qn + 2)) 2 : Nat) : Int)) = ((s + (wv (lf fi w ms) (aboveH (qn + 2)) 0 + wv (fa fi ms (fi + ms.length - w)) (aboveH (qn + 2)) 2) : Nat) : Int) := by rw [wr _ (by omega)]; omega
              simp only [bO_s, gB_t, asBool_b, asInt_i, asAgg_a, asTup_a, asStr_s, asCons_c, nthA_0, nthA_s, aggCells_a, addV_p, seeV_p, seeV_i, same_nil, tr_same, eql4, neq4, decide_true, decide_false, Bool.false_eq_true, if_false, if_true, Bool.not_true, Bool.not_false, Bool.and_true, Bool.true_and, Bool.and_self, List.getElem?_cons_zero, List.getElem?_cons_succ, Nat.zero_add, Nat.add_zero, beq_self_eq_true, bne_self_eq_false, Int.reduceBNe, Int.reduceBEq, Int.reduceLT, Int.reduceGT, Int.reduceLE, Int.reduceGE, Nat.reduceAdd, Nat.reduceMul, Nat.reduceLeDiff, hlt, callK_f _ hyl, w2, List.append_nil, a1, a2, wsum]
            · have hlt : ¬ ((qn : Int) < 2) := by omega
              have wm : IntKind.wrap .i64 ((qn : Int) - 2) = ((qn - 2 : Nat) : Int) := by rw [wr _ (by omega)]; omega
              have a1 := inx_c hB (k + 3) hgc hbc (q := qn - 2) (by omega) T1
              refine ⟨T1, hT1, fun s K hs1 => ?_⟩
              rw [if_neg h0]
              have wsum : IntKind.wrap .i64 ((s : Int) + 2) = ((s + 2 : Nat) : Int) := by rw [wr _ (by omega)]; omega
              by_cases hz : inx mc (qn - 2) > 0 <;> simp only [bO_s, gB_t, asBool_b, asInt_i, asAgg_a, asTup_a, asStr_s, asCons_c, nthA_0, nthA_s, aggCells_a, addV_p, seeV_p, seeV_i, same_nil, tr_same, eql4, neq4, decide_true, decide_false, Bool.false_eq_true, if_false, if_true, Bool.not_true, Bool.not_false, Bool.and_true, Bool.true_and, Bool.and_self, List.getElem?_cons_zero, List.getElem?_cons_succ, Nat.zero_add, Nat.add_zero, beq_self_eq_true, bne_self_eq_false, Int.reduceBNe, Int.reduceBEq, Int.reduceLT, Int.reduceGT, Int.reduceLE, Int.reduceGE, Nat.reduceAdd, Nat.reduceMul, Nat.reduceLeDiff, hlt, wm, a1, hz, wsum] <;> rfl
          simp only [bO_s, gB_t, asBool_b, asInt_i, asAgg_a, asTup_a, asStr_s, asCons_c, nthA_0, nthA_s, aggCells_a, addV_p, seeV_p, seeV_i, same_nil, tr_same, eql4, neq4, decide_true, decide_false, Bool.false_eq_true, if_false, if_true, Bool.not_true, Bool.not_false, Bool.and_true, Bool.true_and, Bool.and_self, List.getElem?_cons_zero, List.getElem?_cons_succ, Nat.zero_add, Nat.add_zero, beq_self_eq_true, bne_self_eq_false, Int.reduceBNe, Int.reduceBEq, Int.reduceLT, Int.reduceGT, Int.reduceLE, Int.reduceGE, Nat.reduceAdd, Nat.reduceMul, Nat.reduceLeDiff, g23, hl, hlt, hneg, g0, q2, hge, l29, h29, List.drop_zero, t29, e1, hcell, hset, hsl, hcc, List.all_cons, List.all_nil, h24, s23, g0c]
          rw [hquart]
          simp only [bO_s, gB_t, asBool_b, asInt_i, asAgg_a, asTup_a, asStr_s, asCons_c, nthA_0, nthA_s, aggCells_a, addV_p, seeV_p, seeV_i, same_nil, tr_same, eql4, neq4, decide_true, decide_false, Bool.false_eq_true, if_false, if_true, Bool.not_true, Bool.not_false, Bool.and_true, Bool.true_and, Bool.and_self, List.getElem?_cons_zero, List.getElem?_cons_succ, Nat.zero_add, Nat.add_zero, beq_self_eq_true, bne_self_eq_false, Int.reduceBNe, Int.reduceBEq, Int.reduceLT, Int.reduceGT, Int.reduceLE, Int.reduceGE, Nat.reduceAdd, Nat.reduceMul, Nat.reduceLeDiff, lc, h29, List.drop_zero, tc]
          rw [e2]
          simp only [bO_s, gB_t, asBool_b, asInt_i, asAgg_a, asTup_a, asStr_s, asCons_c, nthA_0, nthA_s, aggCells_a, addV_p, seeV_p, seeV_i, same_nil, tr_same, eql4, neq4, decide_true, decide_false, Bool.false_eq_true, if_false, if_true, Bool.not_true, Bool.not_false, Bool.and_true, Bool.true_and, Bool.and_self, List.getElem?_cons_zero, List.getElem?_cons_succ, Nat.zero_add, Nat.add_zero, beq_self_eq_true, bne_self_eq_false, Int.reduceBNe, Int.reduceBEq, Int.reduceLT, Int.reduceGT, Int.reduceLE, Int.reduceGE, Nat.reduceAdd, Nat.reduceMul, Nat.reduceLeDiff, lc, h29, List.drop_zero, tc]
          rw [e3 _ _ l1]
          simp only [bO_s, gB_t, asBool_b, asInt_i, asAgg_a, asTup_a, asStr_s, asCons_c, nthA_0, nthA_s, aggCells_a, addV_p, seeV_p, seeV_i, same_nil, tr_same, eql4, neq4, decide_true, decide_false, Bool.false_eq_true, if_false, if_true, Bool.not_true, Bool.not_false, Bool.and_true, Bool.true_and, Bool.and_self, List.getElem?_cons_zero, List.getElem?_cons_succ, Nat.zero_add, Nat.add_zero, beq_self_eq_true, bne_self_eq_false, Int.reduceBNe, Int.reduceBEq, Int.reduceLT, Int.reduceGT, Int.reduceLE, Int.reduceGE, Nat.reduceAdd, Nat.reduceMul, Nat.reduceLeDiff]
          rw [tr_S rfl hT2]
          rfl
end Go.Ab.tNearU
