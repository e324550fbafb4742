/- The reference's increment for a reference index. -/
import Derived.Test.YtbmcdphiolidkaaDoorIL1
set_option maxRecDepth 100000
set_option linter.unusedSimpArgs false
set_option linter.unusedVariables false
set_option linter.unusedSectionVars false
namespace Go.Ab.tNearU
open Go Go.Proofs

theorem rmoves_all : ((List.range 256).all fun a => isB (C1 f_spindleref16_Moves 0 [.int .u8 (Int.ofNat a)] S0) (.bool (isMv a)) && isB (C1 f_spindleref12_Parts 0 [.int .u8 (Int.ofNat a)] S0) (.int .i64 (Int.ofNat (partsN a)))) = true := by kernel_rfl
theorem rkinds_c {B : CallF} (hB : Known B) (k : Nat) {a : Nat} (ha : a ≤ 255) (S : Heap) : Cn B k f_spindleref16_Moves 0 [.int .u8 (a : Int)] S = some (.bool (isMv a), S) ∧ Cn B k f_spindleref12_Parts 0 [.int .u8 (a : Int)] S = some (.int .i64 (partsN a : Int), S) := by
  have h := List.all_eq_true.1 rmoves_all a (List.mem_range.2 (by omega))
  rw [Bool.and_eq_true] at h
  exact ⟨known_sel hB rfl rfl rfl (isB_of h.1) k S, known_sel hB rfl rfl rfl (isB_of h.2) k S⟩
theorem isMv_is {a : Nat} : isMv a = true ↔ 3 ≤ a ∧ a ≤ 6 := by
  unfold isMv
  rw [Bool.and_eq_true, Nat.ble_eq, Nat.ble_eq]
def prtI (kind q : Nat) : Int := if kind = 3 then 0 else if kind = 4 then ((q / 2 : Nat) : Int) else if kind = 5 then ((q % 2 : Nat) : Int) else if kind = 6 then (q : Int) else -1
theorem prtI_is {kind q : Nat} : (isMv kind = true → prtI kind q = (prt kind q : Int)) ∧ (isMv kind = false → prtI kind q = -1) := by
  constructor
  · intro h
    rw [isMv_is] at h
    unfold prtI prt
    split
    · rename_i h3; subst h3; rfl
    · split
      · rfl
      · split
        · rfl
        · split
          · rfl
          · omega
  · intro h
    have : ¬ (3 ≤ kind ∧ kind ≤ 6) := fun h' => by rw [← isMv_is, h] at h'; cases h'
    unfold prtI
    rw [if_neg (by omega), if_neg (by omega), if_neg (by omega), if_neg (by omega)]
theorem rquarter_c {B : CallF} (hB : Known B) (k : Nat) {m : M} (hg : Good 1000 m) (hb : Byt m) {q : Nat} (hq : q ≤ 10) (S : Heap) : Cn B (k + 1) f_spindleref16_quarter 0 [.agg m.cells, .int .i64 (q : Int)] S = some (.int .i64 (inx m q), S) := by
  rw [c_spindleref16_quarter _ _ _ _ _ (hB.no _ _ _ _ (by decide)), T_spindleref16_quarter]
  have l29 := M.len hg.pre
  have g0 := kind_0 hg hb
  have g23 := M.g23 hg.pre
  have hq2 : IntKind.wrap .i64 (Int.tdiv (q : Int) 2) = ((q / 2 : Nat) : Int) := by rw [show Int.tdiv (q : Int) 2 = ((q / 2 : Nat) : Int) from rfl, wr _ (by omega)]
  have hqm : Int.tmod (q : Int) 2 = ((q % 2 : Nat) : Int) := rfl
  have hprt : ∀ (K : LSt → Option (AV × Heap)), bO (α := LSt) (if ((m.kind : Int) == 3) = true then some ([.agg m.cells, .int .i64 0], S) else bO (α := LSt) (if ((m.kind : Int) == 4) = true then some ([.agg m.cells, .int .i64 ((q / 2 : Nat) : Int)], S) else bO (α := LSt) (if ((m.kind : Int) == 5) = true then some ([.agg m.cells, .int .i64 ((q % 2 : Nat) : Int)], S) else bO (α := LSt) (if ((m.kind : Int) == 6) = true then some ([.agg m.cells, .int .i64 (q : Int)], S) else some ([.agg m.cells, .int .i64 (-1)], S)) fun r8 => asInt .i64 (nthA r8.1 1) fun i9 => some ([.agg (aggCells (nthA r8.1 0)), .int .i64 i9], r8.2)) fun r7 => asInt .i64 (nthA r7.1 1) fun i10 => some ([.agg (aggCells (nthA r7.1 0)), .int .i64 i10], r7.2)) fun r6 => asInt .i64 (nthA r6.1 1) fun i11 => some ([.agg (aggCells (nthA r6.1 0)), .int .i64 i11], r6.2)) K = K ([.agg m.cells, .int .i64 (prtI m.kind q)], S) := by
    intro K
    unfold prtI
    by_cases h3 : m.kind = 3
    · have : ((m.kind : Int) == 3) = true := by rw [h3]; rfl
      rw [if_pos this, if_pos h3]; rfl
    · have h3' : ((m.kind : Int) == 3) = false := by rw [beq_eq_false_iff_ne]; omega
      rw [if_neg h3]
      by_cases h4 : m.kind = 4
      · have : ((m.kind : Int) == 4) = true := by rw [h4]; rfl
        simp only [bO_s, gB_t, asBool_b, asInt_i, asAgg_a, asTup_a, asStr_s, asCons_c, nthA_0, nthA_s, aggCells_a, addV_p, seeV_p, seeV_i, same_nil, tr_same, eql4, neq4, decide_true, decide_false, Bool.false_eq_true, if_false, if_true, Bool.not_true, Bool.not_false, Bool.and_true, Bool.true_and, Bool.and_self, List.getElem?_cons_zero, List.getElem?_cons_succ, Nat.zero_add, Nat.add_zero, beq_self_eq_true, bne_self_eq_false, Int.reduceBNe, Int.reduceBEq, Int.reduceLT, Int.reduceGT, Int.reduceLE, Int.reduceGE, Nat.reduceAdd, Nat.reduceMul, Nat.reduceLeDiff, h3', this, if_pos h4]
      · have h4' : ((m.kind : Int) == 4) = false := by rw [beq_eq_false_iff_ne]; omega
        rw [if_neg h4]
        by_cases h5 : m.kind = 5
        · have : ((m.kind : Int) == 5) = true := by rw [h5]; rfl
          simp only [bO_s, gB_t, asBool_b, asInt_i, asAgg_a, asTup_a, asStr_s, asCons_c, nthA_0, nthA_s, aggCells_a, addV_p, seeV_p, seeV_i, same_nil, tr_same, eql4, neq4, decide_true, decide_false, Bool.false_eq_true, if_false, if_true, Bool.not_true, Bool.not_false, Bool.and_true, Bool.true_and, Bool.and_self, List.getElem?_cons_zero, List.getElem?_cons_succ, Nat.zero_add, Nat.add_zero, beq_self_eq_true, bne_self_eq_false, Int.reduceBNe, Int.reduceBEq, Int.reduceLT, Int.reduceGT, Int.reduceLE, Int.reduceGE, Nat.reduceAdd, Nat.reduceMul, Nat.reduceLeDiff, h3', h4', this, if_pos h5]
        · have h5' : ((m.kind : Int) == 5) = false := by rw [beq_eq_false_iff_ne]; omega
          by_cases h6 : m.kind = 6
          · have : ((m.kind : Int) == 6) = true := by rw [h6]; rfl
            simp only [bO_s, gB_t, asBool_b, asInt_i, asAgg_a, asTup_a, asStr_s, asCons_c, nthA_0, nthA_s, aggCells_a, addV_p, seeV_p, seeV_i, same_nil, tr_same, eql4, neq4, decide_true, decide_false, Bool.false_eq_true, if_false, if_true, Bool.not_true, Bool.not_false, Bool.and_true, Bool.true_and, Bool.and_self, List.getElem?_cons_zero, List.getElem?_cons_succ, Nat.zero_add, Nat.add_zero, beq_self_eq_true, bne_self_eq_false, Int.reduceBNe, Int.reduceBEq, Int.reduceLT, Int.reduceGT, Int.reduceLE, Int.reduceGE, Nat.reduceAdd, Nat.reduceMul, Nat.reduceLeDiff, h3', h4', h5', this, if_neg h5, if_pos h6]
          · have h6' : ((m.kind : Int) == 6) = false := by rw [beq_eq_false_iff_ne]; omega
            simp only [bO_s, gB_t, asBool_b, asInt_i, asAgg_a, asTup_a, asStr_s, asCons_c, nthA_0, nthA_s, aggCells_a, addV_p, seeV_p, seeV_i, same_nil, tr_same, eql4, neq4, decide_true, decide_false, Bool.false_eq_true, if_false, if_true, Bool.not_true, Bool.not_false, Bool.and_true, Bool.true_and, Bool.and_self, List.getElem?_cons_zero, List.getElem?_cons_succ, Nat.zero_add, Nat.add_zero, beq_self_eq_true, bne_self_eq_false, Int.reduceBNe, Int.reduceBEq, Int.reduceLT, Int.reduceGT, Int.reduceLE, Int.reduceGE, Nat.reduceAdd, Nat.reduceMul, Nat.reduceLeDiff, h3', h4', h5', h6', if_neg h5, if_neg h6]
  obtain ⟨p1, p2⟩ := prtI_is (kind := m.kind) (q := q)
  simp only [bO_s, gB_t, asBool_b, asInt_i, asAgg_a, asTup_a, asStr_s, asCons_c, nthA_0, nthA_s, aggCells_a, addV_p, seeV_p, seeV_i, same_nil, tr_same, eql4, neq4, decide_true, decide_false, Bool.false_eq_true, if_false, if_true, Bool.not_true, Bool.not_false, Bool.and_true, Bool.true_and, Bool.and_self, List.getElem?_cons_zero, List.getElem?_cons_succ, Nat.zero_add, Nat.add_zero, beq_self_eq_true, bne_self_eq_false, Int.reduceBNe, Int.reduceBEq, Int.reduceLT, Int.reduceGT, Int.reduceLE, Int.reduceGE, Nat.reduceAdd, Nat.reduceMul, Nat.reduceLeDiff, l29, g0, hq2, hqm, hprt]
  unfold inx
  cases hmv : isMv m.kind with
  | false =>
    have hneg : ((-1 : Int) < 0) := by omega
    simp only [bO_s, gB_t, asBool_b, asInt_i, asAgg_a, asTup_a, asStr_s, asCons_c, nthA_0, nthA_s, aggCells_a, addV_p, seeV_p, seeV_i, same_nil, tr_same, eql4, neq4, decide_true, decide_false, Bool.false_eq_true, if_false, if_true, Bool.not_true, Bool.not_false, Bool.and_true, Bool.true_and, Bool.and_self, List.getElem?_cons_zero, List.getElem?_cons_succ, Nat.zero_add, Nat.add_zero, beq_self_eq_true, bne_self_eq_false, Int.reduceBNe, Int.reduceBEq, Int.reduceLT, Int.reduceGT, Int.reduceLE, Int.reduceGE, Nat.reduceAdd, Nat.reduceMul, Nat.reduceLeDiff, p2 hmv, hneg]
  | true =>
    have hl25 := rl25 hg.r
    obtain ⟨n, hn, hcl, hL, hI⟩ := len25 hg.r (by omega)
    have hrl : (cut m.r).length = n := by omega
    have hneg : ¬ ((prt m.kind q : Int) < 0) := by omega
    by_cases hlt : prt m.kind q < n
    · have hge : ¬ ((prt m.kind q : Int) ≥ (n : Int)) := by omega
      have hix := hI _ hlt
      have hints : ints (cut m.r) := by
        obtain h | ⟨n', cs, h, _, _, h3⟩ := hg.r
        · rw [h]; intro c hc; cases hc
        · rw [h]; exact h3
      obtain ⟨z, hat⟩ : ∃ z, (cut m.r)[prt m.kind q]? = some (.int .i64 z) := ⟨_, ints_at hints (show prt m.kind q < (cut m.r).length by omega)⟩
      have hz : intOf (some (.int .i64 z)) = z := rfl
      rw [Nat.mul_one] at hix
      simp only [bO_s, gB_t, asBool_b, asInt_i, asAgg_a, asTup_a, asStr_s, asCons_c, nthA_0, nthA_s, aggCells_a, addV_p, seeV_p, seeV_i, same_nil, tr_same, eql4, neq4, decide_true, decide_false, Bool.false_eq_true, if_false, if_true, Bool.not_true, Bool.not_false, Bool.and_true, Bool.true_and, Bool.and_self, List.getElem?_cons_zero, List.getElem?_cons_succ, Nat.zero_add, Nat.add_zero, beq_self_eq_true, bne_self_eq_false, Int.reduceBNe, Int.reduceBEq, Int.reduceLT, Int.reduceGT, Int.reduceLE, Int.reduceGE, Nat.reduceAdd, Nat.reduceMul, Nat.reduceLeDiff, p1 hmv, hneg, g23, hL, hge, hix, List.getElem?_drop, hat, hz]
    · have hge : (prt m.kind q : Int) ≥ (n : Int) := by omega
      have hno : (cut m.r)[prt m.kind q]? = none := List.getElem?_eq_none (by omega)
      have hno' : intOf (cut m.r)[prt m.kind q]? = 0 := by rw [hno]; rfl
      simp only [bO_s, gB_t, asBool_b, asInt_i, asAgg_a, asTup_a, asStr_s, asCons_c, nthA_0, nthA_s, aggCells_a, addV_p, seeV_p, seeV_i, same_nil, tr_same, eql4, neq4, decide_true, decide_false, Bool.false_eq_true, if_false, if_true, Bool.not_true, Bool.not_false, Bool.and_true, Bool.true_and, Bool.and_self, List.getElem?_cons_zero, List.getElem?_cons_succ, Nat.zero_add, Nat.add_zero, beq_self_eq_true, bne_self_eq_false, Int.reduceBNe, Int.reduceBEq, Int.reduceLT, Int.reduceGT, Int.reduceLE, Int.reduceGE, Nat.reduceAdd, Nat.reduceMul, Nat.reduceLeDiff, p1 hmv, hneg, g23, hL, hge, hno']
theorem rholds_c {B : CallF} (hB : Known B) (k : Nat) {m : M} (hg : Good 1000 m) (hb : Byt m) {q : Nat} (hq : q ≤ 10) (S : Heap) : Cn B (k + 2) f_spindleref16_holds 0 [.agg m.cells, .int .i64 5, .int .i64 (q : Int)] S = some (.bool (aboveH q m), S) := by
  rw [c_spindleref16_holds _ _ _ _ _ _ (hB.no _ _ _ _ (by decide)), T_spindleref16_holds]
  have h29 : (29 : Nat) ≤ 29 := by omega
  have t29 : List.take 29 m.cells = m.cells := M.t29 hg.pre
  have e := rquarter_c hB k hg hb hq S
  simp only [bO_s, gB_t, asBool_b, asInt_i, asAgg_a, asTup_a, asStr_s, asCons_c, nthA_0, nthA_s, aggCells_a, addV_p, seeV_p, seeV_i, same_nil, tr_same, eql4, neq4, decide_true, decide_false, Bool.false_eq_true, if_false, if_true, Bool.not_true, Bool.not_false, Bool.and_true, Bool.true_and, Bool.and_self, List.getElem?_cons_zero, List.getElem?_cons_succ, Nat.zero_add, Nat.add_zero, beq_self_eq_true, bne_self_eq_false, Int.reduceBNe, Int.reduceBEq, Int.reduceLT, Int.reduceGT, Int.reduceLE, Int.reduceGE, Nat.reduceAdd, Nat.reduceMul, Nat.reduceLeDiff, M.len hg.pre, h29, List.drop_zero, t29, e]
  rfl
theorem rboth_c {B : CallF} (hB : Known B) (k : Nat) {T : Heap} {p q : Nat} {fi w : Int} {ms : List M} (h : Obj T p q fi w ms) (hby : ∀ m ∈ ms, Byt m) {i j : Nat} (hi : i ≤ 10) (hj : j ≤ 10) :
    Cn B (k + 6) f_spindleref16_both 0 [.ptr p 0, .int .i64 5, .int .i64 (i : Int), .int .i64 (j : Int)] T = some (.tup [.bool ((lf fi w ms).2 && aboveH i (lf fi w ms).1), .bool ((fa fi ms (fi + ms.length - w)).2 && aboveH j (fa fi ms (fi + ms.length - w)).1)], T) := by
  rw [c_spindleref16_both _ _ _ _ _ _ _ (hB.no _ _ _ _ (by decide)), T_spindleref16_both]
  have e1 := left14_c hB.no k h
  have e2 := above14_c hB.no k h
  obtain ⟨gl, bl⟩ : Good 1000 (lf fi w ms).1 ∧ Byt (lf fi w ms).1 := ⟨(lf_good h.good).1, lf_byt hby⟩
  obtain ⟨ga, ba⟩ : Good 1000 (fa fi ms (fi + ms.length - w)).1 ∧ Byt (fa fi ms (fi + ms.length - w)).1 := ⟨(fa_good h.good _).1, fa_byt hby _⟩
  generalize lf fi w ms = nl at *
  generalize fa fi ms (fi + ms.length - w) = na at *
  have f1 := rholds_c hB (k + 3) gl bl hi T
  have f2 := rholds_c hB (k + 3) ga ba hj T
  have h29 : (29 : Nat) ≤ 29 := by omega
  have tl : List.take 29 nl.1.cells = nl.1.cells := M.t29 gl.pre
  have ta : List.take 29 na.1.cells = na.1.cells := M.t29 ga.pre
  unfold pair at e1 e2
  simp only [bO_s, gB_t, asBool_b, asInt_i, asAgg_a, asTup_a, asStr_s, asCons_c, nthA_0, nthA_s, aggCells_a, addV_p, seeV_p, seeV_i, same_nil, tr_same, eql4, neq4, decide_true, decide_false, Bool.false_eq_true, if_false, if_true, Bool.not_true, Bool.not_false, Bool.and_true, Bool.true_and, Bool.and_self, List.getElem?_cons_zero, List.getElem?_cons_succ, Nat.zero_add, Nat.add_zero, beq_self_eq_true, bne_self_eq_false, Int.reduceBNe, Int.reduceBEq, Int.reduceLT, Int.reduceGT, Int.reduceLE, Int.reduceGE, Nat.reduceAdd, Nat.reduceMul, Nat.reduceLeDiff, e1, e2, M.len gl.pre, M.len ga.pre, gl.cell, ga.cell, h29, M.z gl.pre, M.z ga.pre, List.drop_zero, tl, ta]
  cases nl.2 <;> cases na.2 <;> simp only [bO_s, gB_t, asBool_b, asInt_i, asAgg_a, asTup_a, asStr_s, asCons_c, nthA_0, nthA_s, aggCells_a, addV_p, seeV_p, seeV_i, same_nil, tr_same, eql4, neq4, decide_true, decide_false, Bool.false_eq_true, if_false, if_true, Bool.not_true, Bool.not_false, Bool.and_true, Bool.true_and, Bool.and_self, List.getElem?_cons_zero, List.getElem?_cons_succ, Nat.zero_add, Nat.add_zero, beq_self_eq_true, bne_self_eq_false, Int.reduceBNe, Int.reduceBEq, Int.reduceLT, Int.reduceGT, Int.reduceLE, Int.reduceGE, Nat.reduceAdd, Nat.reduceMul, Nat.reduceLeDiff, f1, f2, Bool.false_and]
def cnt (b : Bool) (w : Nat) : Nat := if b = true then w else 0
theorem rcounted_c {B : CallF} (hB : Known B) (k : Nat) (a : Bool) (S : Heap) : Cn B (k + 1) f_spindleref16_counted 0 [.bool a, .bool false] S = some (.int .i64 (cnt a 1 : Int), S) := by
  rw [c_spindleref16_counted _ _ _ _ _ (hB.no _ _ _ _ (by decide)), T_spindleref16_counted]
  have h1 : IntKind.wrap .i64 (0 + 1) = 1 := by rw [wr _ (by omega)]; rfl
  cases a <;> simp only [bO_s, gB_t, asBool_b, asInt_i, asAgg_a, asTup_a, asStr_s, asCons_c, nthA_0, nthA_s, aggCells_a, addV_p, seeV_p, seeV_i, same_nil, tr_same, eql4, neq4, decide_true, decide_false, Bool.false_eq_true, if_false, if_true, Bool.not_true, Bool.not_false, Bool.and_true, Bool.true_and, Bool.and_self, List.getElem?_cons_zero, List.getElem?_cons_succ, Nat.zero_add, Nat.add_zero, beq_self_eq_true, bne_self_eq_false, Int.reduceBNe, Int.reduceBEq, Int.reduceLT, Int.reduceGT, Int.reduceLE, Int.reduceGE, Nat.reduceAdd, Nat.reduceMul, Nat.reduceLeDiff, h1] <;> rfl
theorem rincr_c {B : CallF} (hB : Known B) (k : Nat) (a b : Bool) (S : Heap) : Cn B (k + 2) f_spindleref16_increment 0 [.bool a, .bool b] S = some (.int .i64 ((cnt a 1 + cnt b 2 : Nat) : Int), S) := by
  rw [c_spindleref16_increment _ _ _ _ _ (hB.no _ _ _ _ (by decide)), T_spindleref16_increment]
  have e1 := rcounted_c hB k a S
  have e2 := rcounted_c hB k b S
  have hw : IntKind.wrap .i64 ((cnt a 1 : Int) + IntKind.wrap .i64 (2 * (cnt b 1 : Int))) = ((cnt a 1 + cnt b 2 : Nat) : Int) := by
    have h1 : cnt a 1 ≤ 1 := by unfold cnt; split <;> omega
    have h2 : cnt b 1 ≤ 1 := by unfold cnt; split <;> omega
    have h3 : cnt b 2 = 2 * cnt b 1 := by unfold cnt; split <;> rfl
    rw [wr (2 * (cnt b 1 : Int)) (by omega), wr _ (by omega), h3]
    omega
  simp only [bO_s, gB_t, asBool_b, asInt_i, asAgg_a, asTup_a, asStr_s, asCons_c, nthA_0, nthA_s, aggCells_a, addV_p, seeV_p, seeV_i, same_nil, tr_same, eql4, neq4, decide_true, decide_false, Bool.false_eq_true, if_false, if_true, Bool.not_true, Bool.not_false, Bool.and_true, Bool.true_and, Bool.and_self, List.getElem?_cons_zero, List.getElem?_cons_succ, Nat.zero_add, Nat.add_zero, beq_self_eq_true, bne_self_eq_false, Int.reduceBNe, Int.reduceBEq, Int.reduceLT, Int.reduceGT, Int.reduceLE, Int.reduceGE, Nat.reduceAdd, Nat.reduceMul, Nat.reduceLeDiff, e1, e2, hw]
theorem inx_cut {m : M} {j x : Nat} (h : prt m.kind x < j) : inx (m.cutR j) x = inx m x := by
  unfold inx
  show (if isMv m.kind = true then intOf (cut (cutI m.r j))[prt m.kind x]? else 0) = _
  have : (cut (cutI m.r j))[prt m.kind x]? = (cut m.r)[prt m.kind x]? := by
    unfold cutI
    split
    · rename_i hr
      show (List.take j _)[_]? = _
      rw [List.getElem?_take_of_lt h, hr]
      rfl
    · rename_i h'
      cases hr : m.r <;> first | rfl | exact absurd hr (h' _ _)
  rw [this]
theorem prt_lt {kind j : Nat} (hj : j < partsN kind) : (refQ kind j % 2 = 1 → prt kind (refQ kind j - 1) < j) ∧ (2 ≤ refQ kind j → prt kind (refQ kind j - 2) < j) := by
  match kind, hj with
  | 3, hj =>
    have : j = 0 := by have : j < 1 := hj; omega
    subst this
    decide
  | 4, hj =>
    have : j < 2 := hj
    match j, this with
    | 0, _ => decide
    | 1, _ => decide
  | 5, hj =>
    have : j < 2 := hj
    match j, this with
    | 0, _ => decide
    | 1, _ => decide
  | 6, hj =>
    have : j < 4 := hj
    match j, this with
    | 0, _ => decide
    | 1, _ => decide
    | 2, _ => decide
    | 3, _ => decide
theorem wv_cnt0 (nl na : M × Bool) (h : M → Bool) : wv nl h 1 + wv na h 0 = cnt (nl.2 && h nl.1) 1 := by
  unfold wv cnt
  cases nl.2 <;> cases h nl.1 <;> simp
theorem wv_cnt1 (nl na : M × Bool) (h : M → Bool) : wv nl h 0 + wv na h 2 = cnt (na.2 && h na.1) 2 := by
  unfold wv cnt
  cases na.2 <;> cases h na.1 <;> simp
set_option maxHeartbeats 1000000 in
theorem rref_c {B : CallF} (hB : Known B) (k : Nat) {T : Heap} {p q : Nat} {fi w : Int} {ms : List M} (h : Obj T p q fi w ms) (hby : ∀ m ∈ ms, Byt m) {m : M} (hg : Good 1000 m) (hb : Byt m) (part : Int) :
    Cn B (k + 7) f_spindleref16_Ref 0 [.ptr p 0, .agg m.cells, .int .i64 part] T = some (.tup [.int .i64 (refV (lf fi w ms) (fa fi ms (fi + ms.length - w)) m part : Int), .int .i64 (refE m part : Int)], T) := by
  rw [c_spindleref16_Ref _ _ _ _ _ _ (hB.no _ _ _ _ (by decide)), T_spindleref16_Ref]
  have l29 := M.len hg.pre
  have g0 := kind_0 hg hb
  have g23 := M.g23 hg.pre
  have h29 : (29 : Nat) ≤ 29 := by omega
  have t29 : List.take 29 m.cells = m.cells := M.t29 hg.pre
  obtain ⟨q1, q2⟩ := rkinds_c hB (k + 6) (kind_le hb) T
  have hl := rl25 hg.r
  simp only [bO_s, gB_t, asBool_b, asInt_i, asAgg_a, asTup_a, asStr_s, asCons_c, nthA_0, nthA_s, aggCells_a, addV_p, seeV_p, seeV_i, same_nil, tr_same, eql4, neq4, decide_true, decide_false, Bool.false_eq_true, if_false, if_true, Bool.not_true, Bool.not_false, Bool.and_true, Bool.true_and, Bool.and_self, List.getElem?_cons_zero, List.getElem?_cons_succ, Nat.zero_add, Nat.add_zero, beq_self_eq_true, bne_self_eq_false, Int.reduceBNe, Int.reduceBEq, Int.reduceLT, Int.reduceGT, Int.reduceLE, Int.reduceGE, Nat.reduceAdd, Nat.reduceMul, Nat.reduceLeDiff, l29, eql_ptr46, g0, q1]
  cases hmv : isMv m.kind with
  | false =>
    have hE : refE m part = 2 := by unfold refE; rw [if_pos (.inl hmv)]
    have hV : refV (lf fi w ms) (fa fi ms (fi + ms.length - w)) m part = 0 := by unfold refV; rw [hE, if_neg (by decide)]
    rw [hE, hV]
    simp only [bO_s, gB_t, asBool_b, asInt_i, asAgg_a, asTup_a, asStr_s, asCons_c, nthA_0, nthA_s, aggCells_a, addV_p, seeV_p, seeV_i, same_nil, tr_same, eql4, neq4, decide_true, decide_false, Bool.false_eq_true, if_false, if_true, Bool.not_true, Bool.not_false, Bool.and_true, Bool.true_and, Bool.and_self, List.getElem?_cons_zero, List.getElem?_cons_succ, Nat.zero_add, Nat.add_zero, beq_self_eq_true, bne_self_eq_false, Int.reduceBNe, Int.reduceBEq, Int.reduceLT, Int.reduceGT, Int.reduceLE, Int.reduceGE, Nat.reduceAdd, Nat.reduceMul, Nat.reduceLeDiff]
    rfl
  | true =>
    by_cases hlt : (rl m.r : Int) < part
    · have hE : refE m part = 2 := by unfold refE; rw [if_pos (.inr hlt)]
      have hV : refV (lf fi w ms) (fa fi ms (fi + ms.length - w)) m part = 0 := by unfold refV; rw [hE, if_neg (by decide)]
      rw [hE, hV]
      simp only [bO_s, gB_t, asBool_b, asInt_i, asAgg_a, asTup_a, asStr_s, asCons_c, nthA_0, nthA_s, aggCells_a, addV_p, seeV_p, seeV_i, same_nil, tr_same, eql4, neq4, decide_true, decide_false, Bool.false_eq_true, if_false, if_true, Bool.not_true, Bool.not_false, Bool.and_true, Bool.true_and, Bool.and_self, List.getElem?_cons_zero, List.getElem?_cons_succ, Nat.zero_add, Nat.add_zero, beq_self_eq_true, bne_self_eq_false, Int.reduceBNe, Int.reduceBEq, Int.reduceLT, Int.reduceGT, Int.reduceLE, Int.reduceGE, Nat.reduceAdd, Nat.reduceMul, Nat.reduceLeDiff, g23, hl, hlt]
      rfl
    · have hno : ¬ (isMv m.kind = false ∨ (rl m.r : Int) < part) := by rw [hmv]; simp; omega
      by_cases hneg : part < 0
      · have hE : refE m part = 3 := by unfold refE; rw [if_neg hno, if_pos (.inl hneg)]
        have hV : refV (lf fi w ms) (fa fi ms (fi + ms.length - w)) m part = 0 := by unfold refV; rw [hE, if_neg (by decide)]
        rw [hE, hV]
        simp only [bO_s, gB_t, asBool_b, asInt_i, asAgg_a, asTup_a, asStr_s, asCons_c, nthA_0, nthA_s, aggCells_a, addV_p, seeV_p, seeV_i, same_nil, tr_same, eql4, neq4, decide_true, decide_false, Bool.false_eq_true, if_false, if_true, Bool.not_true, Bool.not_false, Bool.and_true, Bool.true_and, Bool.and_self, List.getElem?_cons_zero, List.getElem?_cons_succ, Nat.zero_add, Nat.add_zero, beq_self_eq_true, bne_self_eq_false, Int.reduceBNe, Int.reduceBEq, Int.reduceLT, Int.reduceGT, Int.reduceLE, Int.reduceGE, Nat.reduceAdd, Nat.reduceMul, Nat.reduceLeDiff, g23, hl, hlt, hneg]
        rfl
      · by_cases hge : part ≥ (partsN m.kind : Int)
        · have hE : refE m part = 3 := by unfold refE; rw [if_neg hno, if_pos (.inr hge)]
          have hV : refV (lf fi w ms) (fa fi ms (fi + ms.length - w)) m part = 0 := by unfold refV; rw [hE, if_neg (by decide)]
          rw [hE, hV]
          simp only [bO_s, gB_t, asBool_b, asInt_i, asAgg_a, asTup_a, asStr_s, asCons_c, nthA_0, nthA_s, aggCells_a, addV_p, seeV_p, seeV_i, same_nil, tr_same, eql4, neq4, decide_true, decide_false, Bool.false_eq_true, if_false, if_true, Bool.not_true, Bool.not_false, Bool.and_true, Bool.true_and, Bool.and_self, List.getElem?_cons_zero, List.getElem?_cons_succ, Nat.zero_add, Nat.add_zero, beq_self_eq_true, bne_self_eq_false, Int.reduceBNe, Int.reduceBEq, Int.reduceLT, Int.reduceGT, Int.reduceLE, Int.reduceGE, Nat.reduceAdd, Nat.reduceMul, Nat.reduceLeDiff, g23, hl, hlt, hneg, g0, q2, hge]
          rfl
        · have hE : refE m part = 0 := by unfold refE; rw [if_neg hno, if_neg (by rintro (h | h) <;> omega)]
          have hV : refV (lf fi w ms) (fa fi ms (fi + ms.length - w)) m part = ref1 (lf fi w ms) (fa fi ms (fi + ms.length - w)) (m.cutR part.toNat) (refQ m.kind part.toNat) + ref2 (lf fi w ms) (fa fi ms (fi + ms.length - w)) (m.cutR part.toNat) (refQ m.kind part.toNat) := by unfold refV; rw [hE, if_pos rfl]
          rw [hE, hV]
          obtain ⟨j, rfl⟩ := Int.eq_ofNat_of_zero_le (show 0 ≤ part by omega)
          have hjp : j < partsN m.kind := by omega
          have hj4 := partsN_le m.kind
          rw [show Int.toNat (j : Int) = j from rfl]
          obtain ⟨x1, x2⟩ := prt_lt hjp
          have y1 : refQ m.kind j % 2 = 1 → inx (m.cutR j) (refQ m.kind j - 1) = inx m (refQ m.kind j - 1) := fun h => inx_cut (x1 h)
          have y2 : 2 ≤ refQ m.kind j → inx (m.cutR j) (refQ m.kind j - 2) = inx m (refQ m.kind j - 2) := fun h => inx_cut (x2 h)
          obtain ⟨qn, hq, hqn⟩ : ∃ qn, refQ m.kind j = qn ∧ qn ≤ 3 := ⟨_, rfl, by unfold refQ; split; (rename_i h4; have := partsN_4 h4 hjp; omega); omega⟩
          rw [hq] at y1 y2 ⊢
          have hquart : ∀ (K : LSt → Option (AV × Heap)), bO (α := LSt) (if ((m.kind : Int) == 4) = true then some ([.ptr p 0, .agg m.cells, .int .i64 (IntKind.wrap .i64 (2 * (j : Int)))], T) else some ([.ptr p 0, .agg m.cells, .int .i64 (j : Int)], T)) K = K ([.ptr p 0, .agg m.cells, .int .i64 (qn : Int)], T) := by
            intro K
            rw [← hq]
            unfold refQ
            by_cases h4 : m.kind = 4
            · have : ((m.kind : Int) == 4) = true := by rw [h4]; rfl
              have hw : IntKind.wrap .i64 (2 * (j : Int)) = ((2 * j : Nat) : Int) := by rw [wr _ (by omega)]; omega
              rw [if_pos this, if_pos h4, hw]; rfl
            · have h4' : ((m.kind : Int) == 4) = false := by rw [beq_eq_false_iff_ne]; omega
              rw [if_neg h4]
              simp only [bO_s, gB_t, asBool_b, asInt_i, asAgg_a, asTup_a, asStr_s, asCons_c, nthA_0, nthA_s, aggCells_a, addV_p, seeV_p, seeV_i, same_nil, tr_same, eql4, neq4, decide_true, decide_false, Bool.false_eq_true, if_false, if_true, Bool.not_true, Bool.not_false, Bool.and_true, Bool.true_and, Bool.and_self, List.getElem?_cons_zero, List.getElem?_cons_succ, Nat.zero_add, Nat.add_zero, beq_self_eq_true, bne_self_eq_false, Int.reduceBNe, Int.reduceBEq, Int.reduceLT, Int.reduceGT, Int.reduceLE, Int.reduceGE, Nat.reduceAdd, Nat.reduceMul, Nat.reduceLeDiff, h4']
          have w1 : IntKind.wrap .i64 ((qn : Int) + 1) = ((qn + 1 : Nat) : Int) := by rw [wr _ (by omega)]; omega
          have w2 : IntKind.wrap .i64 ((qn : Int) + 2) = ((qn + 2 : Nat) : Int) := by rw [wr _ (by omega)]; omega
          have eb := rboth_c hB k h hby (i := qn + 1) (j := qn + 2) (by omega) (by omega)
          have hmod : Int.tmod (qn : Int) 2 = ((qn % 2 : Nat) : Int) := rfl
          generalize lf fi w ms = nl at *
          generalize fa fi ms (fi + ms.length - w) = na at *
          have ei := fun a b => rincr_c hB (k + 4) a b T
          simp only [bO_s, gB_t, asBool_b, asInt_i, asAgg_a, asTup_a, asStr_s, asCons_c, nthA_0, nthA_s, aggCells_a, addV_p, seeV_p, seeV_i, same_nil, tr_same, eql4, neq4, decide_true, decide_false, Bool.false_eq_true, if_false, if_true, Bool.not_true, Bool.not_false, Bool.and_true, Bool.true_and, Bool.and_self, List.getElem?_cons_zero, List.getElem?_cons_succ, Nat.zero_add, Nat.add_zero, beq_self_eq_true, bne_self_eq_false, Int.reduceBNe, Int.reduceBEq, Int.reduceLT, Int.reduceGT, Int.reduceLE, Int.reduceGE, Nat.reduceAdd, Nat.reduceMul, Nat.reduceLeDiff, g23, hl, hlt, hneg, g0, q2, hge, hquart, w1, w2, eb, hmod]
          have R1 : ref1 nl na (m.cutR j) qn = cnt (if qn % 2 = 1 then decide (inx m (qn - 1) > 0) else (nl.2 && aboveH (qn + 1) nl.1)) 1 := by
            unfold ref1
            rw [wv_cnt0]
            by_cases ho : qn % 2 = 1
            · rw [if_neg (show ¬ qn % 2 = 0 by omega), if_pos ho, y1 ho]
              unfold cnt
              simp only [decide_eq_true_eq]
            · rw [if_pos (show qn % 2 = 0 by omega), if_neg ho]
          have R2 : ref2 nl na (m.cutR j) qn = cnt (if 2 ≤ qn then decide (inx m (qn - 2) > 0) else (na.2 && aboveH (qn + 2) na.1)) 2 := by
            unfold ref2
            rw [wv_cnt1]
            by_cases hg2 : 2 ≤ qn
            · rw [if_neg (show ¬ qn < 2 by omega), if_pos hg2, y2 hg2]
              unfold cnt
              simp only [decide_eq_true_eq]
            · rw [if_pos (show qn < 2 by omega), if_neg hg2]
          rw [R1, R2]
          by_cases ho : qn % 2 = 1
          · have ho' : (((qn % 2 : Nat) : Int) == 1) = true := by rw [ho]; rfl
            have w3 : IntKind.wrap .i64 ((qn : Int) - 1) = ((qn - 1 : Nat) : Int) := by rw [wr _ (by omega)]; omega
            have e3 := rquarter_c hB (k + 5) hg hb (q := qn - 1) (by omega) T
            rw [if_pos ho]
            by_cases hg2 : 2 ≤ qn
            · have h2' : (qn : Int) ≥ 2 := by omega
              have w4 : IntKind.wrap .i64 ((qn : Int) - 2) = ((qn - 2 : Nat) : Int) := by rw [wr _ (by omega)]; omega
              have e4 := rquarter_c hB (k + 5) hg hb (q := qn - 2) (by omega) T
              rw [if_pos hg2]
              simp only [bO_s, gB_t, asBool_b, asInt_i, asAgg_a, asTup_a, asStr_s, asCons_c, nthA_0, nthA_s, aggCells_a, addV_p, seeV_p, seeV_i, same_nil, tr_same, eql4, neq4, decide_true, decide_false, Bool.false_eq_true, if_false, if_true, Bool.not_true, Bool.not_false, Bool.and_true, Bool.true_and, Bool.and_self, List.getElem?_cons_zero, List.getElem?_cons_succ, Nat.zero_add, Nat.add_zero, beq_self_eq_true, bne_self_eq_false, Int.reduceBNe, Int.reduceBEq, Int.reduceLT, Int.reduceGT, Int.reduceLE, Int.reduceGE, Nat.reduceAdd, Nat.reduceMul, Nat.reduceLeDiff, ho', l29, h29, List.drop_zero, t29, w3, e3, h2', w4, e4, ei]
              first | done | rfl
            · have h2' : ¬ (qn : Int) ≥ 2 := by omega
              rw [if_neg hg2]
              simp only [bO_s, gB_t, asBool_b, asInt_i, asAgg_a, asTup_a, asStr_s, asCons_c, nthA_0, nthA_s, aggCells_a, addV_p, seeV_p, seeV_i, same_nil, tr_same, eql4, neq4, decide_true, decide_false, Bool.false_eq_true, if_false, if_true, Bool.not_true, Bool.not_false, Bool.and_true, Bool.true_and, Bool.and_self, List.getElem?_cons_zero, List.getElem?_cons_succ, Nat.zero_add, Nat.add_zero, beq_self_eq_true, bne_self_eq_false, Int.reduceBNe, Int.reduceBEq, Int.reduceLT, Int.reduceGT, Int.reduceLE, Int.reduceGE, Nat.reduceAdd, Nat.reduceMul, Nat.reduceLeDiff, ho', l29, h29, List.drop_zero, t29, w3, e3, h2', ei]
              first | done | rfl
          · have ho' : (((qn % 2 : Nat) : Int) == 1) = false := by rw [beq_eq_false_iff_ne]; omega
            rw [if_neg ho]
            by_cases hg2 : 2 ≤ qn
            · have h2' : (qn : Int) ≥ 2 := by omega
              have w4 : IntKind.wrap .i64 ((qn : Int) - 2) = ((qn - 2 : Nat) : Int) := by rw [wr _ (by omega)]; omega
              have e4 := rquarter_c hB (k + 5) hg hb (q := qn - 2) (by omega) T
              rw [if_pos hg2]
              simp only [bO_s, gB_t, asBool_b, asInt_i, asAgg_a, asTup_a, asStr_s, asCons_c, nthA_0, nthA_s, aggCells_a, addV_p, seeV_p, seeV_i, same_nil, tr_same, eql4, neq4, decide_true, decide_false, Bool.false_eq_true, if_false, if_true, Bool.not_true, Bool.not_false, Bool.and_true, Bool.true_and, Bool.and_self, List.getElem?_cons_zero, List.getElem?_cons_succ, Nat.zero_add, Nat.add_zero, beq_self_eq_true, bne_self_eq_false, Int.reduceBNe, Int.reduceBEq, Int.reduceLT, Int.reduceGT, Int.reduceLE, Int.reduceGE, Nat.reduceAdd, Nat.reduceMul, Nat.reduceLeDiff, ho', l29, h29, List.drop_zero, t29, h2', w4, e4, ei]
              first | done | rfl
            · have h2' : ¬ (qn : Int) ≥ 2 := by omega
              rw [if_neg hg2]
              simp only [bO_s, gB_t, asBool_b, asInt_i, asAgg_a, asTup_a, asStr_s, asCons_c, nthA_0, nthA_s, aggCells_a, addV_p, seeV_p, seeV_i, same_nil, tr_same, eql4, neq4, decide_true, decide_false, Bool.false_eq_true, if_false, if_true, Bool.not_true, Bool.not_false, Bool.and_true, Bool.true_and, Bool.and_self, List.getElem?_cons_zero, List.getElem?_cons_succ, Nat.zero_add, Nat.add_zero, beq_self_eq_true, bne_self_eq_false, Int.reduceBNe, Int.reduceBEq, Int.reduceLT, Int.reduceGT, Int.reduceLE, Int.reduceGE, Nat.reduceAdd, Nat.reduceMul, Nat.reduceLeDiff, ho', l29, h29, List.drop_zero, t29, h2', ei]
              first | done | rfl
end Go.Ab.tNearU
