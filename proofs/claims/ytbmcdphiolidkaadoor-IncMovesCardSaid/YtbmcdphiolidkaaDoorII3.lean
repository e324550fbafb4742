/- What Luma and Ref return. -/
import Derived.Test.YtbmcdphiolidkaaDoorII2
set_option maxRecDepth 100000
set_option linter.unusedSimpArgs false
set_option linter.unusedVariables false
set_option linter.unusedSectionVars false
namespace Go.Ab.tNearU
open Go Go.Proofs

theorem Obj.alloc {T : Heap} {p q : Nat} {fi w : Int} {ms : List M} (h : Obj T p q fi w ms) (c : List AV) : Obj (T.alloc c) p q fi w ms :=
  h.keep (Ext.alloc T c).1 ((Ext.alloc T c).2.2 _ h.lp) fun h0 => (Ext.alloc T c).2.2 _ (h.lq h0)
section
variable {B : CallF} (hB : Known B) (k : Nat) {T : Heap} {p q : Nat} {fi w : Int} {ms : List M} (h : Obj T p q fi w ms) (hby : ∀ m ∈ ms, Byt m) (hcx : T.cx.1 = none)
theorem lumaF_c (hB : Known B) (k : Nat) (j : Int) (S : Heap) : Cn B (k + 1) f_inc_Luma_1 0 [.int .i64 j] S = some (.fn f_inc_Luma_1_1 [] [.ptr S.next 0], S.alloc [.int .i64 j]) := by
  rw [c_inc_Luma_1 _ _ _ _ (hB.no _ _ _ _ (by decide)), T_inc_Luma_1]
  simp only [bO_s, gB_t, asBool_b, asInt_i, asAgg_a, asTup_a, asStr_s, asCons_c, nthA_0, nthA_s, aggCells_a, addV_p, seeV_p, seeV_i, same_nil, tr_same, eql4, neq4, decide_true, decide_false, Bool.false_eq_true, if_false, if_true, Bool.not_true, Bool.not_false, Bool.and_true, Bool.true_and, Bool.and_self, List.getElem?_cons_zero, List.getElem?_cons_succ, Nat.zero_add, Nat.add_zero, beq_self_eq_true, bne_self_eq_false, Int.reduceBNe, Int.reduceBEq, Int.reduceLT, Int.reduceGT, Int.reduceLE, Int.reduceGE, Nat.reduceAdd, Nat.reduceMul, Nat.reduceLeDiff]
  rw [tr_id2 rfl]
theorem refF_c (hB : Known B) (k : Nat) (j : Int) (S : Heap) : Cn B (k + 1) f_inc_Ref_1 0 [.int .i64 j] S = some (.fn f_inc_Ref_1_1 [] [.ptr S.next 0], S.alloc [.int .i64 j]) := by
  rw [c_inc_Ref_1 _ _ _ _ (hB.no _ _ _ _ (by decide)), T_inc_Ref_1]
  simp only [bO_s, gB_t, asBool_b, asInt_i, asAgg_a, asTup_a, asStr_s, asCons_c, nthA_0, nthA_s, aggCells_a, addV_p, seeV_p, seeV_i, same_nil, tr_same, eql4, neq4, decide_true, decide_false, Bool.false_eq_true, if_false, if_true, Bool.not_true, Bool.not_false, Bool.and_true, Bool.true_and, Bool.and_self, List.getElem?_cons_zero, List.getElem?_cons_succ, Nat.zero_add, Nat.add_zero, beq_self_eq_true, bne_self_eq_false, Int.reduceBNe, Int.reduceBEq, Int.reduceLT, Int.reduceGT, Int.reduceLE, Int.reduceGE, Nat.reduceAdd, Nat.reduceMul, Nat.reduceLeDiff]
  rw [tr_id2 rfl]
include hB h hby hcx
theorem lumaW (j : Nat) {w0 w1 : Nat} (h0 : w0 ≤ 10) (h1 : w1 ≤ 10) : Cn B (k + 5) f_inc_weigh 0 [.ptr p 0, .fn f_inc_Luma_1_1 [] [.ptr T.next 0], .is 2 [.int .i64 (w0 : Int), .int .i64 (w1 : Int)]] (T.alloc [.int .i64 (j : Int)]) =
    some (.int .i64 ((wv (lf fi w ms) (lumaH j) w0 + wv (fa fi ms (fi + ms.length - w)) (lumaH j) w1 : Nat) : Int), T.alloc [.int .i64 (j : Int)]) :=
  weigh_c hB k (h.alloc _) hby hcx (by decide) (lumaH j) h0 h1 fun m U gm bm hU => luma1_c hB (k + 3) gm bm U (by rw [hU _ (by rw [alloc_next]; omega)]; exact alloc_blk T _)
theorem refW {j : Nat} (hj : j ≤ 10) {w0 w1 : Nat} (h0 : w0 ≤ 10) (h1 : w1 ≤ 10) : Cn B (k + 5) f_inc_weigh 0 [.ptr p 0, .fn f_inc_Ref_1_1 [] [.ptr T.next 0], .is 2 [.int .i64 (w0 : Int), .int .i64 (w1 : Int)]] (T.alloc [.int .i64 (j : Int)]) =
    some (.int .i64 ((wv (lf fi w ms) (aboveH j) w0 + wv (fa fi ms (fi + ms.length - w)) (aboveH j) w1 : Nat) : Int), T.alloc [.int .i64 (j : Int)]) :=
  weigh_c hB k (h.alloc _) hby hcx (by decide) (aboveH j) h0 h1 fun m U gm bm hU => above1_c hB (k + 1) gm bm U hj (by rw [hU _ (by rw [alloc_next]; omega)]; exact alloc_blk T _)
end
def bitZ (cb : Int) (j : Nat) : Bool := andI .u8 (shrI .u8 cb (j : Int)) 1 == 0
def luma1 (nl na : M × Bool) (cb : Int) (j : Nat) : Nat := if j % 2 = 0 then wv nl (lumaH (j + 1)) 1 + wv na (lumaH (j + 1)) 0 else if bitZ cb (j - 1) = true then 1 else 0
def luma2 (nl na : M × Bool) (cb : Int) (j : Nat) : Nat := if j < 2 then wv nl (lumaH (j + 2)) 0 + wv na (lumaH (j + 2)) 2 else if bitZ cb (j - 2) = true then 2 else 0
theorem wv0 (nb : M × Bool) (h : M → Bool) : wv nb h 0 = 0 := by have := wv_le nb h 0; omega
theorem luma1_le {nl na : M × Bool} {cb : Int} {j : Nat} : luma1 nl na cb j ≤ 1 := by
  unfold luma1
  have := wv_le nl (lumaH (j + 1)) 1
  rw [wv0]
  split
  · omega
  · split <;> omega
theorem luma2_le {nl na : M × Bool} {cb : Int} {j : Nat} : luma2 nl na cb j ≤ 2 := by
  unfold luma2
  have := wv_le na (lumaH (j + 2)) 2
  rw [wv0]
  split
  · omega
  · split <;> omega
def ref1 (nl na : M × Bool) (m : M) (qn : Nat) : Nat := if qn % 2 = 0 then wv nl (aboveH (qn + 1)) 1 + wv na (aboveH (qn + 1)) 0 else if inx m (qn - 1) > 0 then 1 else 0
def ref2 (nl na : M × Bool) (m : M) (qn : Nat) : Nat := if qn < 2 then wv nl (aboveH (qn + 2)) 0 + wv na (aboveH (qn + 2)) 2 else if inx m (qn - 2) > 0 then 2 else 0
theorem ref1_le {nl na : M × Bool} {m : M} {j : Nat} : ref1 nl na m j ≤ 1 := by
  unfold ref1
  have := wv_le nl (aboveH (j + 1)) 1
  rw [wv0]
  split
  · omega
  · split <;> omega
theorem ref2_le {nl na : M × Bool} {m : M} {j : Nat} : ref2 nl na m j ≤ 2 := by
  unfold ref2
  have := wv_le na (aboveH (j + 2)) 2
  rw [wv0]
  split
  · omega
  · split <;> omega
section
variable {B : CallF} (hB : Known B) (k : Nat) {T : Heap} {p q : Nat} {fi w : Int} {ms : List M} (h : Obj T p q fi w ms) (hby : ∀ m ∈ ms, Byt m) (hcx : T.cx.1 = none)
include hB h hby hcx
theorem incLuma_c {cb : Int} {j : Nat} (hj : j ≤ 3) : Cn B (k + 6) f_inc_Luma 0 [.ptr p 0, .int .u8 cb, .int .i64 (j : Int)] T =
    some (.tup [.int .i64 ((luma1 (lf fi w ms) (fa fi ms (fi + ms.length - w)) cb j + luma2 (lf fi w ms) (fa fi ms (fi + ms.length - w)) cb j : Nat) : Int), .int .i64 0], T) := by
  rw [c_inc_Luma _ _ _ _ _ _ (hB.no _ _ _ _ (by decide)), T_inc_Luma]
  have hn1 : ¬ ((j : Int) < 0) := by omega
  have hn2 : ¬ ((j : Int) > 3) := by omega
  have hm : Int.tmod (j : Int) 2 = ((j % 2 : Nat) : Int) := rfl
  have w1 : IntKind.wrap .i64 ((j : Int) + 1) = ((j + 1 : Nat) : Int) := by rw [wr _ (by omega)]; omega
  have w2 : IntKind.wrap .i64 ((j : Int) + 2) = ((j + 2 : Nat) : Int) := by rw [wr _ (by omega)]; omega
  have hs : ∀ i : Nat, aShift .shr .u8 cb (i : Int) = some (.int .u8 (shrI .u8 cb (i : Int))) := fun i => by
    unfold aShift
    rw [if_neg (by omega)]
  have hyl : ¬ yldId ≤ f_inc_Luma_1 := by decide
  have l1 := luma1_le (nl := lf fi w ms) (na := fa fi ms (fi + ms.length - w)) (cb := cb) (j := j)
  have l2 := luma2_le (nl := lf fi w ms) (na := fa fi ms (fi + ms.length - w)) (cb := cb) (j := j)
  -- the first part
  obtain ⟨T1, hT1, hO1, hc1, e1⟩ : ∃ T1, Ext T T1 ∧ Obj T1 p q fi w ms ∧ T1.cx.1 = none ∧ ∀ (K : LSt → Option (AV × Heap)), bO (α := LSt) (if (Int.tmod (j : Int) 2 == 0) = true then bO (Cn B (k + 5) f_inc_Luma_1 0 [.int .i64 (IntKind.wrap .i64 ((j : Int) + 1))] T) fun t10 => bO (Cn B (k + 5) f_inc_weigh 0 [.ptr p 0, t10.1, .is 2 [.int .i64 1, .int .i64 0]] t10.2) fun t11 => asInt .i64 t11.1 fun i12 => some ([.ptr p 0, .int .u8 cb, .int .i64 (j : Int), .fn f_inc_Luma_1 [] [], .int .i64 i12], t11.2) else bO (aShift .shr .u8 cb (IntKind.wrap .i64 ((j : Int) - 1))) fun t13 => asInt .u8 t13 fun i14 => bO (α := LSt) (if (andI .u8 i14 1 == 0) = true then some ([.ptr p 0, .int .u8 cb, .int .i64 (j : Int), .fn f_inc_Luma_1 [] [], .int .i64 1], T) else some ([.ptr p 0, .int .u8 cb, .int .i64 (j : Int), .fn f_inc_Luma_1 [] [], .int .i64 0], T)) fun r15 => asInt .u8 (nthA r15.1 1) fun i16 => asInt .i64 (nthA r15.1 2) fun i17 => asInt .i64 (nthA r15.1 4) fun i18 => some ([nthA r15.1 0, .int .u8 i16, .int .i64 i17, nthA r15.1 3, .int .i64 i18], r15.2)) K =
      K ([.ptr p 0, .int .u8 cb, .int .i64 (j : Int), .fn f_inc_Luma_1 [] [], .int .i64 (luma1 (lf fi w ms) (fa fi ms (fi + ms.length - w)) cb j : Int)], T1) := by
    unfold luma1
    rw [hm]
    by_cases h0 : j % 2 = 0
    · have a1 := lumaF_c hB (k + 4) ((j + 1 : Nat) : Int) T
      have a2 := lumaW hB k h hby hcx (j + 1) (w0 := 1) (w1 := 0) (by omega) (by omega)
      simp only [Int.natCast_one, Int.natCast_zero] at a2
      refine ⟨T.alloc [.int .i64 ((j + 1 : Nat) : Int)], Ext.alloc T _, h.alloc _, hcx, fun K => ?_⟩
      rw [if_pos h0, h0]
      simp only [bO_s, gB_t, asBool_b, asInt_i, asAgg_a, asTup_a, asStr_s, asCons_c, nthA_0, nthA_s, aggCells_a, addV_p, seeV_p, seeV_i, same_nil, tr_same, eql4, neq4, decide_true, decide_false, Bool.false_eq_true, if_false, if_true, Bool.not_true, Bool.not_false, Bool.and_true, Bool.true_and, Bool.and_self, List.getElem?_cons_zero, List.getElem?_cons_succ, Nat.zero_add, Nat.add_zero, beq_self_eq_true, bne_self_eq_false, Int.reduceBNe, Int.reduceBEq, Int.reduceLT, Int.reduceGT, Int.reduceLE, Int.reduceGE, Nat.reduceAdd, Nat.reduceMul, Nat.reduceLeDiff, show (((0 : Nat) : Int) == 0) = true from rfl, w1, a1, a2]
    · have h1 : j % 2 = 1 := by omega
      have wm : IntKind.wrap .i64 ((j : Int) - 1) = ((j - 1 : Nat) : Int) := by rw [wr _ (by omega)]; omega
      refine ⟨T, Ext.refl T, h, hcx, fun K => ?_⟩
      rw [if_neg h0, h1]
      have hb : (andI .u8 (shrI .u8 cb ((j - 1 : Nat) : Int)) 1 == 0) = bitZ cb (j - 1) := rfl
      cases hz : bitZ cb (j - 1) <;> simp only [bO_s, gB_t, asBool_b, asInt_i, asAgg_a, asTup_a, asStr_s, asCons_c, nthA_0, nthA_s, aggCells_a, addV_p, seeV_p, seeV_i, same_nil, tr_same, eql4, neq4, decide_true, decide_false, Bool.false_eq_true, if_false, if_true, Bool.not_true, Bool.not_false, Bool.and_true, Bool.true_and, Bool.and_self, List.getElem?_cons_zero, List.getElem?_cons_succ, Nat.zero_add, Nat.add_zero, beq_self_eq_true, bne_self_eq_false, Int.reduceBNe, Int.reduceBEq, Int.reduceLT, Int.reduceGT, Int.reduceLE, Int.reduceGE, Nat.reduceAdd, Nat.reduceMul, Nat.reduceLeDiff, show (((1 : Nat) : Int) == 0) = false from rfl, wm, hs, hb, hz] <;> rfl
  obtain ⟨T2, hT2, e2⟩ : ∃ T2, Ext T T2 ∧ ∀ (s : Nat) (K : LSt → Option (AV × Heap)), s ≤ 1 → bO (α := LSt) (if decide ((j : Int) < 2) = true then callK (Cn B (k + 5)) .none (.fn f_inc_Luma_1 [] []) [.int .i64 (IntKind.wrap .i64 ((j : Int) + 2))] T1 fun v23 S24 => bO (Cn B (k + 5) f_inc_weigh 0 [.ptr p 0, v23, .is 2 [.int .i64 0, .int .i64 2]] S24) fun t25 => asInt .i64 t25.1 fun i26 => some ([.int .i64 (IntKind.wrap .i64 ((s : Int) + i26))], t25.2) else bO (aShift .shr .u8 cb (IntKind.wrap .i64 ((j : Int) - 2))) fun t27 => asInt .u8 t27 fun i28 => bO (α := LSt) (if (andI .u8 i28 1 == 0) = true then some ([.int .i64 (IntKind.wrap .i64 ((s : Int) + 2))], T1) else some ([.int .i64 (s : Int)], T1)) fun r29 => asInt .i64 (nthA r29.1 0) fun i30 => some ([.int .i64 i30], r29.2)) K =
      K ([.int .i64 ((s + luma2 (lf fi w ms) (fa fi ms (fi + ms.length - w)) cb j : Nat) : Int)], T2) := by
    unfold luma2 at l2 ⊢
    by_cases h0 : j < 2
    · have a1 := lumaF_c hB (k + 4) ((j + 2 : Nat) : Int) T1
      have a2 := lumaW hB k hO1 hby hc1 (j + 2) (w0 := 0) (w1 := 2) (by omega) (by omega)
      simp only [Int.natCast_zero, show ((2 : Nat) : Int) = 2 from rfl] at a2
      rw [if_pos h0] at l2 ⊢
      refine ⟨T1.alloc [.int .i64 ((j + 2 : Nat) : Int)], hT1.trans (Ext.alloc T1 _), fun s K hs1 => ?_⟩
      have hlt : (j : Int) < 2 := by omega
      have wsum : IntKind.wrap .i64 ((s : Int) + ((wv (lf fi w ms) (lumaH (j + 2)) 0 + wv (fa fi ms (fi + ms.length - w)) (lumaH (j + 2)) 2 : Nat) : Int)) = ((s + (wv (lf fi w ms) (lumaH (j + 2)) 0 + wv (fa fi ms (fi + ms.length - w)) (lumaH (j + 2)) 2) : Nat) : Int) := by rw [wr _ (by omega)]; omega
      simp only [bO_s, gB_t, asBool_b, asInt_i, asAgg_a, asTup_a, asStr_s, asCons_c, nthA_0, nthA_s, aggCells_a, addV_p, seeV_p, seeV_i, same_nil, tr_same, eql4, neq4, decide_true, decide_false, Bool.false_eq_true, if_false, if_true, Bool.not_true, Bool.not_false, Bool.and_true, Bool.true_and, Bool.and_self, List.getElem?_cons_zero, List.getElem?_cons_succ, Nat.zero_add, Nat.add_zero, beq_self_eq_true, bne_self_eq_false, Int.reduceBNe, Int.reduceBEq, Int.reduceLT, Int.reduceGT, Int.reduceLE, Int.reduceGE, Nat.reduceAdd, Nat.reduceMul, Nat.reduceLeDiff, hlt, callK_f _ hyl, w2, List.append_nil, a1, a2, wsum]
    · have hlt : ¬ ((j : Int) < 2) := by omega
      have wm : IntKind.wrap .i64 ((j : Int) - 2) = ((j - 2 : Nat) : Int) := by rw [wr _ (by omega)]; omega
      refine ⟨T1, hT1, fun s K hs1 => ?_⟩
      rw [if_neg h0]
      have hb : (andI .u8 (shrI .u8 cb ((j - 2 : Nat) : Int)) 1 == 0) = bitZ cb (j - 2) := rfl
      have wsum : IntKind.wrap .i64 ((s : Int) + 2) = ((s + 2 : Nat) : Int) := by rw [wr _ (by omega)]; omega
      cases hz : bitZ cb (j - 2) <;> simp only [bO_s, gB_t, asBool_b, asInt_i, asAgg_a, asTup_a, asStr_s, asCons_c, nthA_0, nthA_s, aggCells_a, addV_p, seeV_p, seeV_i, same_nil, tr_same, eql4, neq4, decide_true, decide_false, Bool.false_eq_true, if_false, if_true, Bool.not_true, Bool.not_false, Bool.and_true, Bool.true_and, Bool.and_self, List.getElem?_cons_zero, List.getElem?_cons_succ, Nat.zero_add, Nat.add_zero, beq_self_eq_true, bne_self_eq_false, Int.reduceBNe, Int.reduceBEq, Int.reduceLT, Int.reduceGT, Int.reduceLE, Int.reduceGE, Nat.reduceAdd, Nat.reduceMul, Nat.reduceLeDiff, hlt, wm, hs, hb, hz, wsum] <;> rfl
  simp only [bO_s, gB_t, asBool_b, asInt_i, asAgg_a, asTup_a, asStr_s, asCons_c, nthA_0, nthA_s, aggCells_a, addV_p, seeV_p, seeV_i, same_nil, tr_same, eql4, neq4, decide_true, decide_false, Bool.false_eq_true, if_false, if_true, Bool.not_true, Bool.not_false, Bool.and_true, Bool.true_and, Bool.and_self, List.getElem?_cons_zero, List.getElem?_cons_succ, Nat.zero_add, Nat.add_zero, beq_self_eq_true, bne_self_eq_false, Int.reduceBNe, Int.reduceBEq, Int.reduceLT, Int.reduceGT, Int.reduceLE, Int.reduceGE, Nat.reduceAdd, Nat.reduceMul, Nat.reduceLeDiff, eql_ptr, hn1, hn2]
  rw [e1]
  simp only [bO_s, gB_t, asBool_b, asInt_i, asAgg_a, asTup_a, asStr_s, asCons_c, nthA_0, nthA_s, aggCells_a, addV_p, seeV_p, seeV_i, same_nil, tr_same, eql4, neq4, decide_true, decide_false, Bool.false_eq_true, if_false, if_true, Bool.not_true, Bool.not_false, Bool.and_true, Bool.true_and, Bool.and_self, List.getElem?_cons_zero, List.getElem?_cons_succ, Nat.zero_add, Nat.add_zero, beq_self_eq_true, bne_self_eq_false, Int.reduceBNe, Int.reduceBEq, Int.reduceLT, Int.reduceGT, Int.reduceLE, Int.reduceGE, Nat.reduceAdd, Nat.reduceMul, Nat.reduceLeDiff]
  rw [e2 _ _ l1]
  simp only [bO_s, gB_t, asBool_b, asInt_i, asAgg_a, asTup_a, asStr_s, asCons_c, nthA_0, nthA_s, aggCells_a, addV_p, seeV_p, seeV_i, same_nil, tr_same, eql4, neq4, decide_true, decide_false, Bool.false_eq_true, if_false, if_true, Bool.not_true, Bool.not_false, Bool.and_true, Bool.true_and, Bool.and_self, List.getElem?_cons_zero, List.getElem?_cons_succ, Nat.zero_add, Nat.add_zero, beq_self_eq_true, bne_self_eq_false, Int.reduceBNe, Int.reduceBEq, Int.reduceLT, Int.reduceGT, Int.reduceLE, Int.reduceGE, Nat.reduceAdd, Nat.reduceMul, Nat.reduceLeDiff]
  rw [tr_S rfl hT2]
end
end Go.Ab.tNearU
