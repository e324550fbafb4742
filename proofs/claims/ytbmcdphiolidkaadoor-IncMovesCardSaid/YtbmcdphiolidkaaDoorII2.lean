/- What inc's functions return, but Mvd and Block. -/
import Derived.Test.YtbmcdphiolidkaaDoorII1
set_option maxRecDepth 100000
set_option linter.unusedSimpArgs false
set_option linter.unusedVariables false
set_option linter.unusedSectionVars false
namespace Go.Ab.tNearU
open Go Go.Proofs

def isMv (a : Nat) : Bool := Nat.ble 3 a && Nat.ble a 6
def partsN (a : Nat) : Nat := match a with
  | 3 => 1
  | 4 => 2
  | 5 => 2
  | 6 => 4
  | _ => 0
theorem moves_all : ((List.range 256).all fun a => isB (C1 f_inc_moves 0 [.int .u8 (Int.ofNat a)] S0) (.bool (isMv a)) && isB (C1 f_kinds_Parts 0 [.int .u8 (Int.ofNat a)] S0) (.int .i64 (Int.ofNat (partsN a))) && isB (C1 f_kinds_Intra 0 [.int .u8 (Int.ofNat a)] S0) (.bool (Nat.ble a 2))) = true := by kernel_rfl
section
variable {B : CallF} (hB : Known B) (k : Nat)
include hB
theorem kinds3_c {a : Nat} (ha : a ≤ 255) (S : Heap) : Cn B k f_inc_moves 0 [.int .u8 (a : Int)] S = some (.bool (isMv a), S) ∧ Cn B k f_kinds_Parts 0 [.int .u8 (a : Int)] S = some (.int .i64 (partsN a : Int), S) ∧ Cn B k f_kinds_Intra 0 [.int .u8 (a : Int)] S = some (.bool (Nat.ble a 2), S) := by
  have h := List.all_eq_true.1 moves_all a (List.mem_range.2 (by omega))
  rw [Bool.and_eq_true, Bool.and_eq_true] at h
  exact ⟨known_sel hB rfl rfl rfl (isB_of h.1.1) k S, known_sel hB rfl rfl rfl (isB_of h.1.2) k S, known_sel hB rfl rfl rfl (isB_of h.2) k S⟩
end
theorem kind_le {m : M} (hb : Byt m) : m.kind ≤ 255 := by
  have := hb.k
  unfold M.kind
  omega
def intOf : Option AV → Int
  | some (.int _ n) => n
  | _ => 0
/-- The partition of a quarter, and its reference index. -/
def prt (kind q : Nat) : Nat := if kind = 4 then q / 2 else if kind = 5 then q % 2 else if kind = 6 then q else 0
def inx (m : M) (q : Nat) : Int := if isMv m.kind = true then intOf (cut m.r)[prt m.kind q]? else 0
theorem ints_at {l : List AV} (h : ints l) {i : Nat} (hi : i < l.length) : l[i]? = some (.int .i64 (intOf l[i]?)) := by
  rw [List.getElem?_eq_getElem hi]
  obtain ⟨z, hz⟩ := h _ (List.getElem_mem hi)
  rw [hz]; rfl
theorem tr_id' (S : Heap) (v : AV) : ctlW.tr S v S = (v, S) := tr_id S v
theorem inx_c {B : CallF} (hB : Known B) (k : Nat) {m : M} (hg : Good 1000 m) (hb : Byt m) {q : Nat} (hq : q ≤ 10) (S : Heap) : Cn B (k + 2) f_inc_index 0 [.agg m.cells, .int .i64 (q : Int)] S = some (.int .i64 (inx m q), S) := by
  rw [c_inc_index _ _ _ _ _ (hB.no _ _ _ _ (by decide)), T_inc_index]
  have l29 := M.len hg.pre
  have g0 := kind_0 hg hb
  have g23 := M.g23 hg.pre
  have e1 := (kinds3_c hB (k + 1) (kind_le hb) S).1
  have hq2 : IntKind.wrap .i64 (Int.tdiv (q : Int) 2) = ((q / 2 : Nat) : Int) := by rw [show Int.tdiv (q : Int) 2 = ((q / 2 : Nat) : Int) from rfl, wr _ (by omega)]
  have hqm : Int.tmod (q : Int) 2 = ((q % 2 : Nat) : Int) := rfl
  have hprt : ∀ (K : LSt → Option (AV × Heap)), bO (α := LSt) (if ((m.kind : Int) == 4) = true then some ([.agg m.cells, .int .i64 ((q / 2 : Nat) : Int)], S) else bO (α := LSt) (if ((m.kind : Int) == 5) = true then some ([.agg m.cells, .int .i64 ((q % 2 : Nat) : Int)], S) else bO (α := LSt) (if ((m.kind : Int) == 6) = true then some ([.agg m.cells, .int .i64 (q : Int)], S) else some ([.agg m.cells, .int .i64 0], S)) fun r7 => asInt .i64 (nthA r7.1 1) fun i8 => some ([.agg (aggCells (nthA r7.1 0)), .int .i64 i8], r7.2)) fun r6 => asInt .i64 (nthA r6.1 1) fun i9 => some ([.agg (aggCells (nthA r6.1 0)), .int .i64 i9], r6.2)) K = K ([.agg m.cells, .int .i64 (prt m.kind q : Int)], S) := by
    intro K
    unfold prt
    by_cases h4 : m.kind = 4
    · have : ((m.kind : Int) == 4) = true := by rw [h4]; rfl
      rw [if_pos this, if_pos h4]; rfl
    · have h4' : ((m.kind : Int) == 4) = false := by rw [beq_eq_false_iff_ne]; omega
      rw [if_neg h4]
      by_cases h5 : m.kind = 5
      · have : ((m.kind : Int) == 5) = true := by rw [h5]; rfl
        simp only [bO_s, gB_t, asBool_b, asInt_i, asAgg_a, asTup_a, asStr_s, asCons_c, nthA_0, nthA_s, aggCells_a, addV_p, seeV_p, seeV_i, same_nil, tr_same, eql4, neq4, decide_true, decide_false, Bool.false_eq_true, if_false, if_true, Bool.not_true, Bool.not_false, Bool.and_true, Bool.true_and, Bool.and_self, List.getElem?_cons_zero, List.getElem?_cons_succ, Nat.zero_add, Nat.add_zero, beq_self_eq_true, bne_self_eq_false, Int.reduceBNe, Int.reduceBEq, Int.reduceLT, Int.reduceGT, Int.reduceLE, Int.reduceGE, Nat.reduceAdd, Nat.reduceMul, Nat.reduceLeDiff, h4', this, if_pos h5]
      · have h5' : ((m.kind : Int) == 5) = false := by rw [beq_eq_false_iff_ne]; omega
        by_cases h6 : m.kind = 6
        · have : ((m.kind : Int) == 6) = true := by rw [h6]; rfl
          simp only [bO_s, gB_t, asBool_b, asInt_i, asAgg_a, asTup_a, asStr_s, asCons_c, nthA_0, nthA_s, aggCells_a, addV_p, seeV_p, seeV_i, same_nil, tr_same, eql4, neq4, decide_true, decide_false, Bool.false_eq_true, if_false, if_true, Bool.not_true, Bool.not_false, Bool.and_true, Bool.true_and, Bool.and_self, List.getElem?_cons_zero, List.getElem?_cons_succ, Nat.zero_add, Nat.add_zero, beq_self_eq_true, bne_self_eq_false, Int.reduceBNe, Int.reduceBEq, Int.reduceLT, Int.reduceGT, Int.reduceLE, Int.reduceGE, Nat.reduceAdd, Nat.reduceMul, Nat.reduceLeDiff, h4', h5', this, if_neg h5, if_pos h6]
        · have h6' : ((m.kind : Int) == 6) = false := by rw [beq_eq_false_iff_ne]; omega
          simp only [bO_s, gB_t, asBool_b, asInt_i, asAgg_a, asTup_a, asStr_s, asCons_c, nthA_0, nthA_s, aggCells_a, addV_p, seeV_p, seeV_i, same_nil, tr_same, eql4, neq4, decide_true, decide_false, Bool.false_eq_true, if_false, if_true, Bool.not_true, Bool.not_false, Bool.and_true, Bool.true_and, Bool.and_self, List.getElem?_cons_zero, List.getElem?_cons_succ, Nat.zero_add, Nat.add_zero, beq_self_eq_true, bne_self_eq_false, Int.reduceBNe, Int.reduceBEq, Int.reduceLT, Int.reduceGT, Int.reduceLE, Int.reduceGE, Nat.reduceAdd, Nat.reduceMul, Nat.reduceLeDiff, h4', h5', h6', if_neg h5, if_neg h6]
          rfl
  simp only [bO_s, gB_t, asBool_b, asInt_i, asAgg_a, asTup_a, asStr_s, asCons_c, nthA_0, nthA_s, aggCells_a, addV_p, seeV_p, seeV_i, same_nil, tr_same, eql4, neq4, decide_true, decide_false, Bool.false_eq_true, if_false, if_true, Bool.not_true, Bool.not_false, Bool.and_true, Bool.true_and, Bool.and_self, List.getElem?_cons_zero, List.getElem?_cons_succ, Nat.zero_add, Nat.add_zero, beq_self_eq_true, bne_self_eq_false, Int.reduceBNe, Int.reduceBEq, Int.reduceLT, Int.reduceGT, Int.reduceLE, Int.reduceGE, Nat.reduceAdd, Nat.reduceMul, Nat.reduceLeDiff, l29, g0, hq2, hqm, hprt, e1]
  unfold inx
  cases hmv : isMv m.kind with
  | false =>
    simp only [bO_s, gB_t, asBool_b, asInt_i, asAgg_a, asTup_a, asStr_s, asCons_c, nthA_0, nthA_s, aggCells_a, addV_p, seeV_p, seeV_i, same_nil, tr_same, eql4, neq4, decide_true, decide_false, Bool.false_eq_true, if_false, if_true, Bool.not_true, Bool.not_false, Bool.and_true, Bool.true_and, Bool.and_self, List.getElem?_cons_zero, List.getElem?_cons_succ, Nat.zero_add, Nat.add_zero, beq_self_eq_true, bne_self_eq_false, Int.reduceBNe, Int.reduceBEq, Int.reduceLT, Int.reduceGT, Int.reduceLE, Int.reduceGE, Nat.reduceAdd, Nat.reduceMul, Nat.reduceLeDiff]
  | true =>
    have hl25 := rl25 hg.r
    obtain ⟨n, hn, hcl, hL, hI⟩ := len25 hg.r (by omega)
    have hrl : (cut m.r).length = n := by omega
    simp only [bO_s, gB_t, asBool_b, asInt_i, asAgg_a, asTup_a, asStr_s, asCons_c, nthA_0, nthA_s, aggCells_a, addV_p, seeV_p, seeV_i, same_nil, tr_same, eql4, neq4, decide_true, decide_false, Bool.false_eq_true, if_false, if_true, Bool.not_true, Bool.not_false, Bool.and_true, Bool.true_and, Bool.and_self, List.getElem?_cons_zero, List.getElem?_cons_succ, Nat.zero_add, Nat.add_zero, beq_self_eq_true, bne_self_eq_false, Int.reduceBNe, Int.reduceBEq, Int.reduceLT, Int.reduceGT, Int.reduceLE, Int.reduceGE, Nat.reduceAdd, Nat.reduceMul, Nat.reduceLeDiff, g23, hL]
    by_cases hlt : prt m.kind q < n
    · have hge : ¬ ((prt m.kind q : Int) ≥ (n : Int)) := by omega
      have hix := hI _ hlt
      have hints : ints (cut m.r) := by
        obtain h | ⟨n', cs, h, _, _, h3⟩ := hg.r
        · rw [h]; intro c hc; cases hc
        · rw [h]; exact h3
      obtain ⟨z, hat⟩ : ∃ z, (cut m.r)[prt m.kind q]? = some (.int .i64 z) := ⟨_, ints_at hints (show prt m.kind q < (cut m.r).length by omega)⟩
      have hz : intOf (some (.int .i64 z)) = z := rfl
      rw [Nat.mul_one] at hix
      simp only [bO_s, gB_t, asBool_b, asInt_i, asAgg_a, asTup_a, asStr_s, asCons_c, nthA_0, nthA_s, aggCells_a, addV_p, seeV_p, seeV_i, same_nil, tr_same, eql4, neq4, decide_true, decide_false, Bool.false_eq_true, if_false, if_true, Bool.not_true, Bool.not_false, Bool.and_true, Bool.true_and, Bool.and_self, List.getElem?_cons_zero, List.getElem?_cons_succ, Nat.zero_add, Nat.add_zero, beq_self_eq_true, bne_self_eq_false, Int.reduceBNe, Int.reduceBEq, Int.reduceLT, Int.reduceGT, Int.reduceLE, Int.reduceGE, Nat.reduceAdd, Nat.reduceMul, Nat.reduceLeDiff, hge, hix, List.getElem?_drop, hat, hz]
    · have hge : (prt m.kind q : Int) ≥ (n : Int) := by omega
      have hno : (cut m.r)[prt m.kind q]? = none := List.getElem?_eq_none (by omega)
      have hno' : intOf (cut m.r)[prt m.kind q]? = 0 := by rw [hno]; rfl
      simp only [bO_s, gB_t, asBool_b, asInt_i, asAgg_a, asTup_a, asStr_s, asCons_c, nthA_0, nthA_s, aggCells_a, addV_p, seeV_p, seeV_i, same_nil, tr_same, eql4, neq4, decide_true, decide_false, Bool.false_eq_true, if_false, if_true, Bool.not_true, Bool.not_false, Bool.and_true, Bool.true_and, Bool.and_self, List.getElem?_cons_zero, List.getElem?_cons_succ, Nat.zero_add, Nat.add_zero, beq_self_eq_true, bne_self_eq_false, Int.reduceBNe, Int.reduceBEq, Int.reduceLT, Int.reduceGT, Int.reduceLE, Int.reduceGE, Nat.reduceAdd, Nat.reduceMul, Nat.reduceLeDiff, hge, hno']
-- what is counted nearby
def skipH (m : M) : Bool := (m.kind : Int) != 7
def typeH (m : M) : Bool := (m.kind : Int) != 0
def chr (m : M) : Int := m.pre.getD 2 0
def modeH (m : M) : Bool := if (m.kind : Int) == 0 then chr m != 0 else if (m.kind : Int) == 1 then chr m != 0 else false
def c16 (m : M) : Int := IntKind.wrap .u8 (Int.tdiv m.cb 16)
def chromaH (two : Bool) (m : M) : Bool := if (m.kind : Int) == 2 then true else if two then c16 m == 2 else c16 m != 0
def lumaH (j : Nat) (m : M) : Bool := if (m.kind : Int) != 2 then andI .u8 (shrI .u8 m.cb (j : Int)) 1 == 0 else false
def aboveH (q : Nat) (m : M) : Bool := decide (inx m q > 0)
theorem M.g2 {m : M} (hp : m.pre.length = 23) : m.cells[2]? = some (.int .u8 (chr m)) := by
  obtain ⟨p, hp⟩ := pre23 hp
  unfold M.cells chr
  rw [hp]; rfl
section
variable {B : CallF} (hB : Known B) (k : Nat) {m : M} (hg : Good 1000 m) (hb : Byt m) (S : Heap)
include hB hg hb
theorem skip1_c : Cn B (k + 1) f_inc_Skip_1 0 [.agg m.cells] S = some (.bool (skipH m), S) := by
  rw [c_inc_Skip_1 _ _ _ _ (hB.no _ _ _ _ (by decide)), T_inc_Skip_1]
  simp only [bO_s, gB_t, asBool_b, asInt_i, asAgg_a, asTup_a, asStr_s, asCons_c, nthA_0, nthA_s, aggCells_a, addV_p, seeV_p, seeV_i, same_nil, tr_same, eql4, neq4, decide_true, decide_false, Bool.false_eq_true, if_false, if_true, Bool.not_true, Bool.not_false, Bool.and_true, Bool.true_and, Bool.and_self, List.getElem?_cons_zero, List.getElem?_cons_succ, Nat.zero_add, Nat.add_zero, beq_self_eq_true, bne_self_eq_false, Int.reduceBNe, Int.reduceBEq, Int.reduceLT, Int.reduceGT, Int.reduceLE, Int.reduceGE, Nat.reduceAdd, Nat.reduceMul, Nat.reduceLeDiff, M.len hg.pre, kind_0 hg hb]
  rfl
theorem type1_c : Cn B (k + 1) f_inc_Type_1 0 [.agg m.cells] S = some (.bool (typeH m), S) := by
  rw [c_inc_Type_1 _ _ _ _ (hB.no _ _ _ _ (by decide)), T_inc_Type_1]
  simp only [bO_s, gB_t, asBool_b, asInt_i, asAgg_a, asTup_a, asStr_s, asCons_c, nthA_0, nthA_s, aggCells_a, addV_p, seeV_p, seeV_i, same_nil, tr_same, eql4, neq4, decide_true, decide_false, Bool.false_eq_true, if_false, if_true, Bool.not_true, Bool.not_false, Bool.and_true, Bool.true_and, Bool.and_self, List.getElem?_cons_zero, List.getElem?_cons_succ, Nat.zero_add, Nat.add_zero, beq_self_eq_true, bne_self_eq_false, Int.reduceBNe, Int.reduceBEq, Int.reduceLT, Int.reduceGT, Int.reduceLE, Int.reduceGE, Nat.reduceAdd, Nat.reduceMul, Nat.reduceLeDiff, M.len hg.pre, kind_0 hg hb]
  rfl
theorem mode1_c : Cn B (k + 1) f_inc_Mode_1 0 [.agg m.cells] S = some (.bool (modeH m), S) := by
  rw [c_inc_Mode_1 _ _ _ _ (hB.no _ _ _ _ (by decide)), T_inc_Mode_1]
  unfold modeH
  cases h0 : ((m.kind : Int) == 0) <;> cases h1 : ((m.kind : Int) == 1) <;> simp only [bO_s, gB_t, asBool_b, asInt_i, asAgg_a, asTup_a, asStr_s, asCons_c, nthA_0, nthA_s, aggCells_a, addV_p, seeV_p, seeV_i, same_nil, tr_same, eql4, neq4, decide_true, decide_false, Bool.false_eq_true, if_false, if_true, Bool.not_true, Bool.not_false, Bool.and_true, Bool.true_and, Bool.and_self, List.getElem?_cons_zero, List.getElem?_cons_succ, Nat.zero_add, Nat.add_zero, beq_self_eq_true, bne_self_eq_false, Int.reduceBNe, Int.reduceBEq, Int.reduceLT, Int.reduceGT, Int.reduceLE, Int.reduceGE, Nat.reduceAdd, Nat.reduceMul, Nat.reduceLeDiff, M.len hg.pre, kind_0 hg hb, M.g2 hg.pre, h0, h1]
theorem chroma1_c {p : Nat} {two : Bool} (hp : S.blk p = some [.bool two]) : Cn B (k + 1) f_inc_Chroma_1 0 [.agg m.cells, .ptr p 0] S = some (.bool (chromaH two m), S) := by
  rw [c_inc_Chroma_1 _ _ _ _ _ (hB.no _ _ _ _ (by decide)), T_inc_Chroma_1]
  unfold chromaH c16
  cases h0 : ((m.kind : Int) == 2) <;> cases two <;> cases h1 : (IntKind.wrap .u8 (Int.tdiv m.cb 16) == 2) <;> simp only [bO_s, gB_t, asBool_b, asInt_i, asAgg_a, asTup_a, asStr_s, asCons_c, nthA_0, nthA_s, aggCells_a, addV_p, seeV_p, seeV_i, same_nil, tr_same, eql4, neq4, decide_true, decide_false, Bool.false_eq_true, if_false, if_true, Bool.not_true, Bool.not_false, Bool.and_true, Bool.true_and, Bool.and_self, List.getElem?_cons_zero, List.getElem?_cons_succ, Nat.zero_add, Nat.add_zero, beq_self_eq_true, bne_self_eq_false, Int.reduceBNe, Int.reduceBEq, Int.reduceLT, Int.reduceGT, Int.reduceLE, Int.reduceGE, Nat.reduceAdd, Nat.reduceMul, Nat.reduceLeDiff, M.len hg.pre, kind_0 hg hb, M.g25 hg.pre, hp, h0, h1]
theorem luma1_c {p j : Nat} (hp : S.blk p = some [.int .i64 (j : Int)]) : Cn B (k + 1) f_inc_Luma_1_1 0 [.agg m.cells, .ptr p 0] S = some (.bool (lumaH j m), S) := by
  rw [c_inc_Luma_1_1 _ _ _ _ _ (hB.no _ _ _ _ (by decide)), T_inc_Luma_1_1]
  unfold lumaH
  have hs : aShift .shr .u8 m.cb (j : Int) = some (.int .u8 (shrI .u8 m.cb (j : Int))) := by
    unfold aShift
    rw [if_neg (by omega)]
  cases h0 : ((m.kind : Int) != 2) <;> simp only [bO_s, gB_t, asBool_b, asInt_i, asAgg_a, asTup_a, asStr_s, asCons_c, nthA_0, nthA_s, aggCells_a, addV_p, seeV_p, seeV_i, same_nil, tr_same, eql4, neq4, decide_true, decide_false, Bool.false_eq_true, if_false, if_true, Bool.not_true, Bool.not_false, Bool.and_true, Bool.true_and, Bool.and_self, List.getElem?_cons_zero, List.getElem?_cons_succ, Nat.zero_add, Nat.add_zero, beq_self_eq_true, bne_self_eq_false, Int.reduceBNe, Int.reduceBEq, Int.reduceLT, Int.reduceGT, Int.reduceLE, Int.reduceGE, Nat.reduceAdd, Nat.reduceMul, Nat.reduceLeDiff, M.len hg.pre, kind_0 hg hb, M.g25 hg.pre, hp, h0, hs]
theorem above1_c {p j : Nat} (hj : j ≤ 10) (hp : S.blk p = some [.int .i64 (j : Int)]) : Cn B (k + 3) f_inc_Ref_1_1 0 [.agg m.cells, .ptr p 0] S = some (.bool (aboveH j m), S) := by
  rw [c_inc_Ref_1_1 _ _ _ _ _ (hB.no _ _ _ _ (by decide)), T_inc_Ref_1_1]
  have h29 : (29 : Nat) ≤ 29 := by omega
  have t29 : List.take 29 m.cells = m.cells := M.t29 hg.pre
  simp only [bO_s, gB_t, asBool_b, asInt_i, asAgg_a, asTup_a, asStr_s, asCons_c, nthA_0, nthA_s, aggCells_a, addV_p, seeV_p, seeV_i, same_nil, tr_same, eql4, neq4, decide_true, decide_false, Bool.false_eq_true, if_false, if_true, Bool.not_true, Bool.not_false, Bool.and_true, Bool.true_and, Bool.and_self, List.getElem?_cons_zero, List.getElem?_cons_succ, Nat.zero_add, Nat.add_zero, beq_self_eq_true, bne_self_eq_false, Int.reduceBNe, Int.reduceBEq, Int.reduceLT, Int.reduceGT, Int.reduceLE, Int.reduceGE, Nat.reduceAdd, Nat.reduceMul, Nat.reduceLeDiff, M.len hg.pre, h29, hp, List.drop_zero, t29, inx_c hB k hg hb hj S]
  rfl
end
section
variable {B : CallF} (hB : Known B) (k : Nat) {T : Heap} {p q : Nat} {fi w : Int} {ms : List M} (h : Obj T p q fi w ms) (hby : ∀ m ∈ ms, Byt m) (hcx : T.cx.1 = none)
include hB h hby hcx
theorem skip_c : Cn B (k + 6) f_inc_Skip 0 [.ptr p 0] T = some (.int .i64 ((wv (lf fi w ms) skipH 1 + wv (fa fi ms (fi + ms.length - w)) skipH 1 : Nat) : Int), T) := by
  rw [c_inc_Skip _ _ _ _ (hB.no _ _ _ _ (by decide)), T_inc_Skip]
  have e := weigh_c hB k h hby hcx (fh := f_inc_Skip_1) (cap := []) (by decide) skipH (w0 := 1) (w1 := 1) (by omega) (by omega) fun m U gm bm _ => skip1_c hB (k + 3) gm bm U
  simp only [Int.natCast_one] at e
  simp only [bO_s, gB_t, asBool_b, asInt_i, asAgg_a, asTup_a, asStr_s, asCons_c, nthA_0, nthA_s, aggCells_a, addV_p, seeV_p, seeV_i, same_nil, tr_same, eql4, neq4, decide_true, decide_false, Bool.false_eq_true, if_false, if_true, Bool.not_true, Bool.not_false, Bool.and_true, Bool.true_and, Bool.and_self, List.getElem?_cons_zero, List.getElem?_cons_succ, Nat.zero_add, Nat.add_zero, beq_self_eq_true, bne_self_eq_false, Int.reduceBNe, Int.reduceBEq, Int.reduceLT, Int.reduceGT, Int.reduceLE, Int.reduceGE, Nat.reduceAdd, Nat.reduceMul, Nat.reduceLeDiff, e]
theorem type_c : Cn B (k + 6) f_inc_Type 0 [.ptr p 0] T = some (.int .i64 ((wv (lf fi w ms) typeH 1 + wv (fa fi ms (fi + ms.length - w)) typeH 1 : Nat) : Int), T) := by
  rw [c_inc_Type _ _ _ _ (hB.no _ _ _ _ (by decide)), T_inc_Type]
  have e := weigh_c hB k h hby hcx (fh := f_inc_Type_1) (cap := []) (by decide) typeH (w0 := 1) (w1 := 1) (by omega) (by omega) fun m U gm bm _ => type1_c hB (k + 3) gm bm U
  simp only [Int.natCast_one] at e
  simp only [bO_s, gB_t, asBool_b, asInt_i, asAgg_a, asTup_a, asStr_s, asCons_c, nthA_0, nthA_s, aggCells_a, addV_p, seeV_p, seeV_i, same_nil, tr_same, eql4, neq4, decide_true, decide_false, Bool.false_eq_true, if_false, if_true, Bool.not_true, Bool.not_false, Bool.and_true, Bool.true_and, Bool.and_self, List.getElem?_cons_zero, List.getElem?_cons_succ, Nat.zero_add, Nat.add_zero, beq_self_eq_true, bne_self_eq_false, Int.reduceBNe, Int.reduceBEq, Int.reduceLT, Int.reduceGT, Int.reduceLE, Int.reduceGE, Nat.reduceAdd, Nat.reduceMul, Nat.reduceLeDiff, e]
theorem mode_c : Cn B (k + 6) f_inc_Mode 0 [.ptr p 0] T = some (.int .i64 ((wv (lf fi w ms) modeH 1 + wv (fa fi ms (fi + ms.length - w)) modeH 1 : Nat) : Int), T) := by
  rw [c_inc_Mode _ _ _ _ (hB.no _ _ _ _ (by decide)), T_inc_Mode]
  have e := weigh_c hB k h hby hcx (fh := f_inc_Mode_1) (cap := []) (by decide) modeH (w0 := 1) (w1 := 1) (by omega) (by omega) fun m U gm bm _ => mode1_c hB (k + 3) gm bm U
  simp only [Int.natCast_one] at e
  simp only [bO_s, gB_t, asBool_b, asInt_i, asAgg_a, asTup_a, asStr_s, asCons_c, nthA_0, nthA_s, aggCells_a, addV_p, seeV_p, seeV_i, same_nil, tr_same, eql4, neq4, decide_true, decide_false, Bool.false_eq_true, if_false, if_true, Bool.not_true, Bool.not_false, Bool.and_true, Bool.true_and, Bool.and_self, List.getElem?_cons_zero, List.getElem?_cons_succ, Nat.zero_add, Nat.add_zero, beq_self_eq_true, bne_self_eq_false, Int.reduceBNe, Int.reduceBEq, Int.reduceLT, Int.reduceGT, Int.reduceLE, Int.reduceGE, Nat.reduceAdd, Nat.reduceMul, Nat.reduceLeDiff, e]
theorem chroma_c (two : Bool) : Cn B (k + 6) f_inc_Chroma 0 [.ptr p 0, .bool two] T = some (.int .i64 ((wv (lf fi w ms) (chromaH two) 1 + wv (fa fi ms (fi + ms.length - w)) (chromaH two) 2 : Nat) : Int), T) := by
  rw [c_inc_Chroma _ _ _ _ _ (hB.no _ _ _ _ (by decide)), T_inc_Chroma]
  have hE := Ext.alloc T [.bool two]
  have hO : Obj (T.alloc [.bool two]) p q fi w ms := h.keep hE.1 (hE.2.2 _ h.lp) fun h0 => hE.2.2 _ (h.lq h0)
  have e := weigh_c hB k hO hby hcx (fh := f_inc_Chroma_1) (cap := [.ptr T.next 0]) (by decide) (chromaH two) (w0 := 1) (w1 := 2) (by omega) (by omega) fun m U gm bm hU => chroma1_c hB (k + 3) gm bm U (by rw [hU _ (by rw [alloc_next]; omega)]; exact alloc_blk T _)
  simp only [Int.natCast_one, show ((2 : Nat) : Int) = 2 from rfl] at e
  simp only [bO_s, gB_t, asBool_b, asInt_i, asAgg_a, asTup_a, asStr_s, asCons_c, nthA_0, nthA_s, aggCells_a, addV_p, seeV_p, seeV_i, same_nil, tr_same, eql4, neq4, decide_true, decide_false, Bool.false_eq_true, if_false, if_true, Bool.not_true, Bool.not_false, Bool.and_true, Bool.true_and, Bool.and_self, List.getElem?_cons_zero, List.getElem?_cons_succ, Nat.zero_add, Nat.add_zero, beq_self_eq_true, bne_self_eq_false, Int.reduceBNe, Int.reduceBEq, Int.reduceLT, Int.reduceGT, Int.reduceLE, Int.reduceGE, Nat.reduceAdd, Nat.reduceMul, Nat.reduceLeDiff, e]
  rw [tr_S rfl hE]
theorem last_n : Cn B (k + 5) f_inc_Qp 0 [.ptr p 0] T = some (.int .i64 (if (fa fi ms (fi + ms.length - 1)).2 && (fa fi ms (fi + ms.length - 1)).1.qp != 0 then 1 else 0), T) := by
  rw [c_inc_Qp _ _ _ _ (hB.no _ _ _ _ (by decide)), T_inc_Qp]
  have e1 := last_c hB.no k h
  obtain ⟨hg, _⟩ := fa_good h.good (fi + ms.length - 1)
  generalize fa fi ms (fi + ms.length - 1) = x at e1 hg ⊢
  unfold pair at e1
  have h29 : (29 : Nat) ≤ 29 := by omega
  cases hx : x.2 with
  | false =>
    rw [hx] at e1
    simp only [bO_s, gB_t, asBool_b, asInt_i, asAgg_a, asTup_a, asStr_s, asCons_c, nthA_0, nthA_s, aggCells_a, addV_p, seeV_p, seeV_i, same_nil, tr_same, eql4, neq4, decide_true, decide_false, Bool.false_eq_true, if_false, if_true, Bool.not_true, Bool.not_false, Bool.and_true, Bool.true_and, Bool.and_self, List.getElem?_cons_zero, List.getElem?_cons_succ, Nat.zero_add, Nat.add_zero, beq_self_eq_true, bne_self_eq_false, Int.reduceBNe, Int.reduceBEq, Int.reduceLT, Int.reduceGT, Int.reduceLE, Int.reduceGE, Nat.reduceAdd, Nat.reduceMul, Nat.reduceLeDiff, e1, M.len hg.pre, hg.cell, h29, M.z hg.pre, Bool.false_and]
  | true =>
    rw [hx] at e1
    cases hq : (x.1.qp != 0) <;> simp only [bO_s, gB_t, asBool_b, asInt_i, asAgg_a, asTup_a, asStr_s, asCons_c, nthA_0, nthA_s, aggCells_a, addV_p, seeV_p, seeV_i, same_nil, tr_same, eql4, neq4, decide_true, decide_false, Bool.false_eq_true, if_false, if_true, Bool.not_true, Bool.not_false, Bool.and_true, Bool.true_and, Bool.and_self, List.getElem?_cons_zero, List.getElem?_cons_succ, Nat.zero_add, Nat.add_zero, beq_self_eq_true, bne_self_eq_false, Int.reduceBNe, Int.reduceBEq, Int.reduceLT, Int.reduceGT, Int.reduceLE, Int.reduceGE, Nat.reduceAdd, Nat.reduceMul, Nat.reduceLeDiff, e1, M.len hg.pre, hg.cell, h29, M.z hg.pre, M.g26 hg.pre, hq]
end
end Go.Ab.tNearU
