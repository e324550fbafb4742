/- The statement KindsParts, for parts that are refused. No condition beyond what a call's arguments are. -/
import Derived.Test.YtomnllhlclpdjaaDoorKP1
set_option maxRecDepth 100000
set_option linter.unusedSimpArgs false
set_option linter.unusedVariables false
set_option linter.unusedSectionVars false
namespace Go.Ab.tK
open Go Go.Proofs

def z5 : List AV := [.int .i64 0, .int .i64 0, .int .i64 0, .int .i64 0, .int .i64 0]
def z2 : List AV := [.int .i64 0, .nils]
/-- A part is refused: the lists are not there, or the number is not one of theirs. -/
def Out (part : Int) (pv av : AV) (n e : Int) : Prop := (pv = .nils ∧ av = .nils ∧ n = 0 ∧ e ≠ 0) ∨ ∃ (m : Nat) (cs ds : List AV), pv = .is m cs ∧ av = .is m ds ∧ n = m ∧ e = 0 ∧ (part < 0 ∨ part ≥ (m : Int))
def Sil (B : CallF) : Prop := ∀ f args S, [f_spindlelaw12_KindsParts, f_kinds_Pieces, f_spindleref12_Pieces, f_kinds_Cover, f_spindleref12_Cover, f_kinds_Part, f_spindleref12_Part, f_kinds_one, f_spindleref12_one].contains f = true → B f 0 args S = none
section
variable {B : CallF} (hB : Sil B) {k : Nat} {kind a b c d part n e : Int} {pv av : AV}
  (hp : ∀ S, Cn B k f_kinds_parts 0 [.int .u8 kind, .agg [.int .u8 a, .int .u8 b, .int .u8 c, .int .u8 d]] S = some (.tup [pv, .int .i64 e], S))
  (ha : ∀ S, Cn B k f_spindleref12_All 0 [.int .u8 kind, .agg [.int .u8 a, .int .u8 b, .int .u8 c, .int .u8 d]] S = some (.tup [av, .int .i64 e], S)) (ho : Out part pv av n e)
include hB hp ho
theorem pieces_o (S : Heap) : Cn B (k + 1) f_kinds_Pieces 0 [.int .u8 kind, .agg [.int .u8 a, .int .u8 b, .int .u8 c, .int .u8 d]] S = some (.tup [.int .i64 n, .int .i64 e], S) := by
  rw [c_kinds_Pieces _ _ _ _ _ (hB _ _ _ rfl), T_kinds_Pieces]
  have l4 : ([.int .u8 a, .int .u8 b, .int .u8 c, .int .u8 d] : List AV).length = 4 := rfl
  have t4 : List.take 4 (List.drop 0 ([.int .u8 a, .int .u8 b, .int .u8 c, .int .u8 d] : List AV)) = [.int .u8 a, .int .u8 b, .int .u8 c, .int .u8 d] := rfl
  have hle : (4 : Nat) ≤ 4 := by omega
  rcases ho with ⟨rfl, rfl, rfl, h⟩ | ⟨m, cs, ds, rfl, rfl, rfl, rfl, h⟩
  · simp only [eql_b4, neq_b4, len_nils24, len_is24, len_hs24, len_nils25, len_is25, len_hs25, len_nils26, len_is26, len_hs26, len_nils51, len_is51, len_hs51, len_nils54, len_is54, len_hs54, len_nils57, len_is57, len_hs57, bO_s, gB_t, asBool_b, asInt_i, asAgg_a, asTup_a, asStr_s, asCons_c, asNil_n, nthA_0, nthA_s, aggCells_a, addV_p, addV_i, seeV_p, seeV_i, same_nil, same_1, same_2, tr_v, decide_true, decide_false, Bool.false_eq_true, if_false, if_true, Bool.not_true, Bool.not_false, Bool.and_true, Bool.true_and, Bool.and_self, List.getElem?_cons_zero, List.getElem?_cons_succ, Nat.zero_add, Nat.add_zero, beq_self_eq_true, bne_self_eq_false, Int.reduceBNe, Int.reduceBEq, Int.reduceLT, Int.reduceGT, Int.reduceLE, Int.reduceGE, Nat.reduceAdd, Nat.reduceMul, Nat.reduceLeDiff, l4, t4, hle, hp]
  · simp only [eql_b4, neq_b4, len_nils24, len_is24, len_hs24, len_nils25, len_is25, len_hs25, len_nils26, len_is26, len_hs26, len_nils51, len_is51, len_hs51, len_nils54, len_is54, len_hs54, len_nils57, len_is57, len_hs57, bO_s, gB_t, asBool_b, asInt_i, asAgg_a, asTup_a, asStr_s, asCons_c, asNil_n, nthA_0, nthA_s, aggCells_a, addV_p, addV_i, seeV_p, seeV_i, same_nil, same_1, same_2, tr_v, decide_true, decide_false, Bool.false_eq_true, if_false, if_true, Bool.not_true, Bool.not_false, Bool.and_true, Bool.true_and, Bool.and_self, List.getElem?_cons_zero, List.getElem?_cons_succ, Nat.zero_add, Nat.add_zero, beq_self_eq_true, bne_self_eq_false, Int.reduceBNe, Int.reduceBEq, Int.reduceLT, Int.reduceGT, Int.reduceLE, Int.reduceGE, Nat.reduceAdd, Nat.reduceMul, Nat.reduceLeDiff, l4, t4, hle, hp]
theorem one_o (S : Heap) : ∃ e', e' ≠ 0 ∧ (e' = if e = 0 then 3 else e) ∧ Cn B (k + 1) f_kinds_one 0 [.int .u8 kind, .agg [.int .u8 a, .int .u8 b, .int .u8 c, .int .u8 d], .int .i64 part] S = some (.tup [.agg z5, .int .i64 e'], S) := by
  rw [c_kinds_one _ _ _ _ _ _ (hB _ _ _ rfl), T_kinds_one]
  have l4 : ([.int .u8 a, .int .u8 b, .int .u8 c, .int .u8 d] : List AV).length = 4 := rfl
  have t4 : List.take 4 (List.drop 0 ([.int .u8 a, .int .u8 b, .int .u8 c, .int .u8 d] : List AV)) = [.int .u8 a, .int .u8 b, .int .u8 c, .int .u8 d] := rfl
  have hle : (4 : Nat) ≤ 4 := by omega
  have hle5 : (5 : Nat) ≤ 5 := by omega
  rw [show ([.int .i64 0, .int .i64 0, .int .i64 0, .int .i64 0, .int .i64 0] : List AV) = z5 from rfl]
  have z1 : z5.length = 5 := rfl
  have zs : setCells z5 0 z5 = z5 := rfl
  have zt : List.take 5 (List.drop 0 z5) = z5 := rfl
  rcases ho with ⟨rfl, rfl, rfl, h⟩ | ⟨m, cs, ds, rfl, rfl, rfl, rfl, h⟩
  · have hb : (e != 0) = true := by simp [h]
    exact ⟨e, h, by rw [if_neg h], by simp only [eql_b4, neq_b4, len_nils24, len_is24, len_hs24, len_nils25, len_is25, len_hs25, len_nils26, len_is26, len_hs26, len_nils51, len_is51, len_hs51, len_nils54, len_is54, len_hs54, len_nils57, len_is57, len_hs57, bO_s, gB_t, asBool_b, asInt_i, asAgg_a, asTup_a, asStr_s, asCons_c, asNil_n, nthA_0, nthA_s, aggCells_a, addV_p, addV_i, seeV_p, seeV_i, same_nil, same_1, same_2, tr_v, decide_true, decide_false, Bool.false_eq_true, if_false, if_true, Bool.not_true, Bool.not_false, Bool.and_true, Bool.true_and, Bool.and_self, List.getElem?_cons_zero, List.getElem?_cons_succ, Nat.zero_add, Nat.add_zero, beq_self_eq_true, bne_self_eq_false, Int.reduceBNe, Int.reduceBEq, Int.reduceLT, Int.reduceGT, Int.reduceLE, Int.reduceGE, Nat.reduceAdd, Nat.reduceMul, Nat.reduceLeDiff, l4, t4, hle, hp, hb]⟩
  · refine ⟨3, by omega, by rw [if_pos rfl], ?_⟩
    by_cases h0 : part < 0
    · simp only [eql_b4, neq_b4, len_nils24, len_is24, len_hs24, len_nils25, len_is25, len_hs25, len_nils26, len_is26, len_hs26, len_nils51, len_is51, len_hs51, len_nils54, len_is54, len_hs54, len_nils57, len_is57, len_hs57, bO_s, gB_t, asBool_b, asInt_i, asAgg_a, asTup_a, asStr_s, asCons_c, asNil_n, nthA_0, nthA_s, aggCells_a, addV_p, addV_i, seeV_p, seeV_i, same_nil, same_1, same_2, tr_v, decide_true, decide_false, Bool.false_eq_true, if_false, if_true, Bool.not_true, Bool.not_false, Bool.and_true, Bool.true_and, Bool.and_self, List.getElem?_cons_zero, List.getElem?_cons_succ, Nat.zero_add, Nat.add_zero, beq_self_eq_true, bne_self_eq_false, Int.reduceBNe, Int.reduceBEq, Int.reduceLT, Int.reduceGT, Int.reduceLE, Int.reduceGE, Nat.reduceAdd, Nat.reduceMul, Nat.reduceLeDiff, l4, t4, hle, hp, h0, z1, hle5, zs, zt]
    · have h1 : part ≥ (m : Int) := h.resolve_left h0
      simp only [eql_b4, neq_b4, len_nils24, len_is24, len_hs24, len_nils25, len_is25, len_hs25, len_nils26, len_is26, len_hs26, len_nils51, len_is51, len_hs51, len_nils54, len_is54, len_hs54, len_nils57, len_is57, len_hs57, bO_s, gB_t, asBool_b, asInt_i, asAgg_a, asTup_a, asStr_s, asCons_c, asNil_n, nthA_0, nthA_s, aggCells_a, addV_p, addV_i, seeV_p, seeV_i, same_nil, same_1, same_2, tr_v, decide_true, decide_false, Bool.false_eq_true, if_false, if_true, Bool.not_true, Bool.not_false, Bool.and_true, Bool.true_and, Bool.and_self, List.getElem?_cons_zero, List.getElem?_cons_succ, Nat.zero_add, Nat.add_zero, beq_self_eq_true, bne_self_eq_false, Int.reduceBNe, Int.reduceBEq, Int.reduceLT, Int.reduceGT, Int.reduceLE, Int.reduceGE, Nat.reduceAdd, Nat.reduceMul, Nat.reduceLeDiff, l4, t4, hle, hp, h0, h1, z1, hle5, zs, zt]
theorem cover_o (S : Heap) : Cn B (k + 2) f_kinds_Cover 0 [.int .u8 kind, .agg [.int .u8 a, .int .u8 b, .int .u8 c, .int .u8 d], .int .i64 part] S = some (.tup [.nils, .int .i64 (if e = 0 then 3 else e)], S) := by
  rw [c_kinds_Cover _ _ _ _ _ _ (hB _ _ _ rfl), T_kinds_Cover]
  have l4 : ([.int .u8 a, .int .u8 b, .int .u8 c, .int .u8 d] : List AV).length = 4 := rfl
  have t4 : List.take 4 (List.drop 0 ([.int .u8 a, .int .u8 b, .int .u8 c, .int .u8 d] : List AV)) = [.int .u8 a, .int .u8 b, .int .u8 c, .int .u8 d] := rfl
  have hle : (4 : Nat) ≤ 4 := by omega
  have hle5 : (5 : Nat) ≤ 5 := by omega
  have z1 : z5.length = 5 := rfl
  have za : z5.all cell = true := rfl
  obtain ⟨e', h1, h2, h3⟩ := one_o hB hp ho S
  have hb : (e' != 0) = true := by simp [h1]
  rw [← h2]
  simp only [eql_b4, neq_b4, len_nils24, len_is24, len_hs24, len_nils25, len_is25, len_hs25, len_nils26, len_is26, len_hs26, len_nils51, len_is51, len_hs51, len_nils54, len_is54, len_hs54, len_nils57, len_is57, len_hs57, bO_s, gB_t, asBool_b, asInt_i, asAgg_a, asTup_a, asStr_s, asCons_c, asNil_n, nthA_0, nthA_s, aggCells_a, addV_p, addV_i, seeV_p, seeV_i, same_nil, same_1, same_2, tr_v, decide_true, decide_false, Bool.false_eq_true, if_false, if_true, Bool.not_true, Bool.not_false, Bool.and_true, Bool.true_and, Bool.and_self, List.getElem?_cons_zero, List.getElem?_cons_succ, Nat.zero_add, Nat.add_zero, beq_self_eq_true, bne_self_eq_false, Int.reduceBNe, Int.reduceBEq, Int.reduceLT, Int.reduceGT, Int.reduceLE, Int.reduceGE, Nat.reduceAdd, Nat.reduceMul, Nat.reduceLeDiff, l4, t4, hle, h3, z1, za, hle5, hb]
theorem part_o (S : Heap) : Cn B (k + 2) f_kinds_Part 0 [.int .u8 kind, .agg [.int .u8 a, .int .u8 b, .int .u8 c, .int .u8 d], .int .i64 part] S = some (.tup [.int .i64 0, .int .i64 (if e = 0 then 3 else e)], S) := by
  rw [c_kinds_Part _ _ _ _ _ _ (hB _ _ _ rfl), T_kinds_Part]
  have l4 : ([.int .u8 a, .int .u8 b, .int .u8 c, .int .u8 d] : List AV).length = 4 := rfl
  have t4 : List.take 4 (List.drop 0 ([.int .u8 a, .int .u8 b, .int .u8 c, .int .u8 d] : List AV)) = [.int .u8 a, .int .u8 b, .int .u8 c, .int .u8 d] := rfl
  have hle : (4 : Nat) ≤ 4 := by omega
  have hle5 : (5 : Nat) ≤ 5 := by omega
  rw [show ([.int .i64 0, .int .i64 0, .int .i64 0, .int .i64 0, .int .i64 0] : List AV) = z5 from rfl]
  have z1 : z5.length = 5 := rfl
  have za : z5.all cell = true := rfl
  have zs : setCells z5 0 z5 = z5 := rfl
  have z4 : z5[4]? = some (.int .i64 0) := rfl
  obtain ⟨e', h1, h2, h3⟩ := one_o hB hp ho S
  rw [← h2]
  simp only [eql_b4, neq_b4, len_nils24, len_is24, len_hs24, len_nils25, len_is25, len_hs25, len_nils26, len_is26, len_hs26, len_nils51, len_is51, len_hs51, len_nils54, len_is54, len_hs54, len_nils57, len_is57, len_hs57, bO_s, gB_t, asBool_b, asInt_i, asAgg_a, asTup_a, asStr_s, asCons_c, asNil_n, nthA_0, nthA_s, aggCells_a, addV_p, addV_i, seeV_p, seeV_i, same_nil, same_1, same_2, tr_v, decide_true, decide_false, Bool.false_eq_true, if_false, if_true, Bool.not_true, Bool.not_false, Bool.and_true, Bool.true_and, Bool.and_self, List.getElem?_cons_zero, List.getElem?_cons_succ, Nat.zero_add, Nat.add_zero, beq_self_eq_true, bne_self_eq_false, Int.reduceBNe, Int.reduceBEq, Int.reduceLT, Int.reduceGT, Int.reduceLE, Int.reduceGE, Nat.reduceAdd, Nat.reduceMul, Nat.reduceLeDiff, l4, t4, hle, h3, z1, za, hle5, zs, z4]
omit hp
include ha
theorem rpieces_o (S : Heap) : Cn B (k + 1) f_spindleref12_Pieces 0 [.int .u8 kind, .agg [.int .u8 a, .int .u8 b, .int .u8 c, .int .u8 d]] S = some (.tup [.int .i64 n, .int .i64 e], S) := by
  rw [c_spindleref12_Pieces _ _ _ _ _ (hB _ _ _ rfl), T_spindleref12_Pieces]
  have l4 : ([.int .u8 a, .int .u8 b, .int .u8 c, .int .u8 d] : List AV).length = 4 := rfl
  have t4 : List.take 4 (List.drop 0 ([.int .u8 a, .int .u8 b, .int .u8 c, .int .u8 d] : List AV)) = [.int .u8 a, .int .u8 b, .int .u8 c, .int .u8 d] := rfl
  have hle : (4 : Nat) ≤ 4 := by omega
  rcases ho with ⟨rfl, rfl, rfl, h⟩ | ⟨m, cs, ds, rfl, rfl, rfl, rfl, h⟩
  · simp only [eql_b4, neq_b4, len_nils24, len_is24, len_hs24, len_nils25, len_is25, len_hs25, len_nils26, len_is26, len_hs26, len_nils51, len_is51, len_hs51, len_nils54, len_is54, len_hs54, len_nils57, len_is57, len_hs57, bO_s, gB_t, asBool_b, asInt_i, asAgg_a, asTup_a, asStr_s, asCons_c, asNil_n, nthA_0, nthA_s, aggCells_a, addV_p, addV_i, seeV_p, seeV_i, same_nil, same_1, same_2, tr_v, decide_true, decide_false, Bool.false_eq_true, if_false, if_true, Bool.not_true, Bool.not_false, Bool.and_true, Bool.true_and, Bool.and_self, List.getElem?_cons_zero, List.getElem?_cons_succ, Nat.zero_add, Nat.add_zero, beq_self_eq_true, bne_self_eq_false, Int.reduceBNe, Int.reduceBEq, Int.reduceLT, Int.reduceGT, Int.reduceLE, Int.reduceGE, Nat.reduceAdd, Nat.reduceMul, Nat.reduceLeDiff, l4, t4, hle, ha]
  · simp only [eql_b4, neq_b4, len_nils24, len_is24, len_hs24, len_nils25, len_is25, len_hs25, len_nils26, len_is26, len_hs26, len_nils51, len_is51, len_hs51, len_nils54, len_is54, len_hs54, len_nils57, len_is57, len_hs57, bO_s, gB_t, asBool_b, asInt_i, asAgg_a, asTup_a, asStr_s, asCons_c, asNil_n, nthA_0, nthA_s, aggCells_a, addV_p, addV_i, seeV_p, seeV_i, same_nil, same_1, same_2, tr_v, decide_true, decide_false, Bool.false_eq_true, if_false, if_true, Bool.not_true, Bool.not_false, Bool.and_true, Bool.true_and, Bool.and_self, List.getElem?_cons_zero, List.getElem?_cons_succ, Nat.zero_add, Nat.add_zero, beq_self_eq_true, bne_self_eq_false, Int.reduceBNe, Int.reduceBEq, Int.reduceLT, Int.reduceGT, Int.reduceLE, Int.reduceGE, Nat.reduceAdd, Nat.reduceMul, Nat.reduceLeDiff, l4, t4, hle, ha]
theorem rone_o (S : Heap) : ∃ e', e' ≠ 0 ∧ (e' = if e = 0 then 3 else e) ∧ Cn B (k + 1) f_spindleref12_one 0 [.int .u8 kind, .agg [.int .u8 a, .int .u8 b, .int .u8 c, .int .u8 d], .int .i64 part] S = some (.tup [.agg z2, .int .i64 e'], S) := by
  rw [c_spindleref12_one _ _ _ _ _ _ (hB _ _ _ rfl), T_spindleref12_one]
  have l4 : ([.int .u8 a, .int .u8 b, .int .u8 c, .int .u8 d] : List AV).length = 4 := rfl
  have t4 : List.take 4 (List.drop 0 ([.int .u8 a, .int .u8 b, .int .u8 c, .int .u8 d] : List AV)) = [.int .u8 a, .int .u8 b, .int .u8 c, .int .u8 d] := rfl
  have hle : (4 : Nat) ≤ 4 := by omega
  have hle5 : (2 : Nat) ≤ 2 := by omega
  rw [show ([.int .i64 0, .nils] : List AV) = z2 from rfl]
  have z1 : z2.length = 2 := rfl
  have zs : setCells z2 0 z2 = z2 := rfl
  have zt : List.take 2 (List.drop 0 z2) = z2 := rfl
  have zf : ∀ x, fz 40 (.tup [.agg z2, .int .i64 x]) S = some (.tup [.agg z2, .int .i64 x], S) := fun x => rfl
  rcases ho with ⟨rfl, rfl, rfl, h⟩ | ⟨m, cs, ds, rfl, rfl, rfl, rfl, h⟩
  · have hb : (e != 0) = true := by simp [h]
    exact ⟨e, h, by rw [if_neg h], by simp only [eql_b4, neq_b4, len_nils24, len_is24, len_hs24, len_nils25, len_is25, len_hs25, len_nils26, len_is26, len_hs26, len_nils51, len_is51, len_hs51, len_nils54, len_is54, len_hs54, len_nils57, len_is57, len_hs57, bO_s, gB_t, asBool_b, asInt_i, asAgg_a, asTup_a, asStr_s, asCons_c, asNil_n, nthA_0, nthA_s, aggCells_a, addV_p, addV_i, seeV_p, seeV_i, same_nil, same_1, same_2, tr_v, decide_true, decide_false, Bool.false_eq_true, if_false, if_true, Bool.not_true, Bool.not_false, Bool.and_true, Bool.true_and, Bool.and_self, List.getElem?_cons_zero, List.getElem?_cons_succ, Nat.zero_add, Nat.add_zero, beq_self_eq_true, bne_self_eq_false, Int.reduceBNe, Int.reduceBEq, Int.reduceLT, Int.reduceGT, Int.reduceLE, Int.reduceGE, Nat.reduceAdd, Nat.reduceMul, Nat.reduceLeDiff, l4, t4, hle, ha, hb, zf]⟩
  · refine ⟨3, by omega, by rw [if_pos rfl], ?_⟩
    by_cases h0 : part < 0
    · simp only [eql_b4, neq_b4, len_nils24, len_is24, len_hs24, len_nils25, len_is25, len_hs25, len_nils26, len_is26, len_hs26, len_nils51, len_is51, len_hs51, len_nils54, len_is54, len_hs54, len_nils57, len_is57, len_hs57, bO_s, gB_t, asBool_b, asInt_i, asAgg_a, asTup_a, asStr_s, asCons_c, asNil_n, nthA_0, nthA_s, aggCells_a, addV_p, addV_i, seeV_p, seeV_i, same_nil, same_1, same_2, tr_v, decide_true, decide_false, Bool.false_eq_true, if_false, if_true, Bool.not_true, Bool.not_false, Bool.and_true, Bool.true_and, Bool.and_self, List.getElem?_cons_zero, List.getElem?_cons_succ, Nat.zero_add, Nat.add_zero, beq_self_eq_true, bne_self_eq_false, Int.reduceBNe, Int.reduceBEq, Int.reduceLT, Int.reduceGT, Int.reduceLE, Int.reduceGE, Nat.reduceAdd, Nat.reduceMul, Nat.reduceLeDiff, l4, t4, hle, ha, h0, z1, hle5, zs, zt, zf]
    · have h1 : part ≥ (m : Int) := h.resolve_left h0
      simp only [eql_b4, neq_b4, len_nils24, len_is24, len_hs24, len_nils25, len_is25, len_hs25, len_nils26, len_is26, len_hs26, len_nils51, len_is51, len_hs51, len_nils54, len_is54, len_hs54, len_nils57, len_is57, len_hs57, bO_s, gB_t, asBool_b, asInt_i, asAgg_a, asTup_a, asStr_s, asCons_c, asNil_n, nthA_0, nthA_s, aggCells_a, addV_p, addV_i, seeV_p, seeV_i, same_nil, same_1, same_2, tr_v, decide_true, decide_false, Bool.false_eq_true, if_false, if_true, Bool.not_true, Bool.not_false, Bool.and_true, Bool.true_and, Bool.and_self, List.getElem?_cons_zero, List.getElem?_cons_succ, Nat.zero_add, Nat.add_zero, beq_self_eq_true, bne_self_eq_false, Int.reduceBNe, Int.reduceBEq, Int.reduceLT, Int.reduceGT, Int.reduceLE, Int.reduceGE, Nat.reduceAdd, Nat.reduceMul, Nat.reduceLeDiff, l4, t4, hle, ha, h0, h1, z1, hle5, zs, zt, zf]
theorem rcover_o (S : Heap) : Cn B (k + 2) f_spindleref12_Cover 0 [.int .u8 kind, .agg [.int .u8 a, .int .u8 b, .int .u8 c, .int .u8 d], .int .i64 part] S = some (.tup [.nils, .int .i64 (if e = 0 then 3 else e)], S) := by
  rw [c_spindleref12_Cover _ _ _ _ _ _ (hB _ _ _ rfl), T_spindleref12_Cover]
  have l4 : ([.int .u8 a, .int .u8 b, .int .u8 c, .int .u8 d] : List AV).length = 4 := rfl
  have t4 : List.take 4 (List.drop 0 ([.int .u8 a, .int .u8 b, .int .u8 c, .int .u8 d] : List AV)) = [.int .u8 a, .int .u8 b, .int .u8 c, .int .u8 d] := rfl
  have hle : (4 : Nat) ≤ 4 := by omega
  have hle5 : (2 : Nat) ≤ 2 := by omega
  rw [show ([.int .i64 0, .nils] : List AV) = z2 from rfl]
  have z1 : z2.length = 2 := rfl
  have za : z2.all cell = true := rfl
  have zs : setCells z2 0 z2 = z2 := rfl
  have z4 : z2[1]? = some .nils := rfl
  obtain ⟨e', h1, h2, h3⟩ := rone_o hB ha ho S
  rw [← h2]
  simp only [eql_b4, neq_b4, len_nils24, len_is24, len_hs24, len_nils25, len_is25, len_hs25, len_nils26, len_is26, len_hs26, len_nils51, len_is51, len_hs51, len_nils54, len_is54, len_hs54, len_nils57, len_is57, len_hs57, bO_s, gB_t, asBool_b, asInt_i, asAgg_a, asTup_a, asStr_s, asCons_c, asNil_n, nthA_0, nthA_s, aggCells_a, addV_p, addV_i, seeV_p, seeV_i, same_nil, same_1, same_2, tr_v, decide_true, decide_false, Bool.false_eq_true, if_false, if_true, Bool.not_true, Bool.not_false, Bool.and_true, Bool.true_and, Bool.and_self, List.getElem?_cons_zero, List.getElem?_cons_succ, Nat.zero_add, Nat.add_zero, beq_self_eq_true, bne_self_eq_false, Int.reduceBNe, Int.reduceBEq, Int.reduceLT, Int.reduceGT, Int.reduceLE, Int.reduceGE, Nat.reduceAdd, Nat.reduceMul, Nat.reduceLeDiff, l4, t4, hle, h3, z1, za, hle5, zs, z4]
  rfl
theorem rpart_o (S : Heap) : Cn B (k + 2) f_spindleref12_Part 0 [.int .u8 kind, .agg [.int .u8 a, .int .u8 b, .int .u8 c, .int .u8 d], .int .i64 part] S = some (.tup [.int .i64 0, .int .i64 (if e = 0 then 3 else e)], S) := by
  rw [c_spindleref12_Part _ _ _ _ _ _ (hB _ _ _ rfl), T_spindleref12_Part]
  have l4 : ([.int .u8 a, .int .u8 b, .int .u8 c, .int .u8 d] : List AV).length = 4 := rfl
  have t4 : List.take 4 (List.drop 0 ([.int .u8 a, .int .u8 b, .int .u8 c, .int .u8 d] : List AV)) = [.int .u8 a, .int .u8 b, .int .u8 c, .int .u8 d] := rfl
  have hle : (4 : Nat) ≤ 4 := by omega
  have hle5 : (2 : Nat) ≤ 2 := by omega
  rw [show ([.int .i64 0, .nils] : List AV) = z2 from rfl]
  have z1 : z2.length = 2 := rfl
  have za : z2.all cell = true := rfl
  have zs : setCells z2 0 z2 = z2 := rfl
  have z4 : z2[0]? = some (.int .i64 0) := rfl
  obtain ⟨e', h1, h2, h3⟩ := rone_o hB ha ho S
  rw [← h2]
  simp only [eql_b4, neq_b4, len_nils24, len_is24, len_hs24, len_nils25, len_is25, len_hs25, len_nils26, len_is26, len_hs26, len_nils51, len_is51, len_hs51, len_nils54, len_is54, len_hs54, len_nils57, len_is57, len_hs57, bO_s, gB_t, asBool_b, asInt_i, asAgg_a, asTup_a, asStr_s, asCons_c, asNil_n, nthA_0, nthA_s, aggCells_a, addV_p, addV_i, seeV_p, seeV_i, same_nil, same_1, same_2, tr_v, decide_true, decide_false, Bool.false_eq_true, if_false, if_true, Bool.not_true, Bool.not_false, Bool.and_true, Bool.true_and, Bool.and_self, List.getElem?_cons_zero, List.getElem?_cons_succ, Nat.zero_add, Nat.add_zero, beq_self_eq_true, bne_self_eq_false, Int.reduceBNe, Int.reduceBEq, Int.reduceLT, Int.reduceGT, Int.reduceLE, Int.reduceGE, Nat.reduceAdd, Nat.reduceMul, Nat.reduceLeDiff, l4, t4, hle, h3, z1, za, hle5, zs, z4]
include hp
theorem parts_walk {v : Int} (h1 : ∀ S, Cn B (k + 2) f_kinds_Parts 0 [.int .u8 kind] S = some (.int .i64 v, S)) (h2 : ∀ S, Cn B (k + 2) f_spindleref12_Parts 0 [.int .u8 kind] S = some (.int .i64 v, S)) (h3 : ∀ S, Cn B (k + 2) f_spindlekit_EqualInts 0 [.nils, .nils] S = some (.bool true, S))
    (h4 : ∀ S, Cn B (k + 2) f_spindlelaw12_awake 0 [] S = some (.bool true, S)) (hp2 : ∀ S, Cn B (k + 1) f_kinds_parts 0 [.int .u8 kind, .agg [.int .u8 a, .int .u8 b, .int .u8 c, .int .u8 d]] S = some (.tup [pv, .int .i64 e], S))
    (ha2 : ∀ S, Cn B (k + 1) f_spindleref12_All 0 [.int .u8 kind, .agg [.int .u8 a, .int .u8 b, .int .u8 c, .int .u8 d]] S = some (.tup [av, .int .i64 e], S)) :
    Cn B (k + 3) f_spindlelaw12_KindsParts 0 [.int .u8 kind, .agg [.int .u8 a, .int .u8 b, .int .u8 c, .int .u8 d], .int .i64 part] S0 = some (.bool true, S0) := by
  rw [c_spindlelaw12_KindsParts _ _ _ _ _ _ (hB _ _ _ rfl), T_spindlelaw12_KindsParts]
  have l4 : ([.int .u8 a, .int .u8 b, .int .u8 c, .int .u8 d] : List AV).length = 4 := rfl
  have t4 : List.take 4 (List.drop 0 ([.int .u8 a, .int .u8 b, .int .u8 c, .int .u8 d] : List AV)) = [.int .u8 a, .int .u8 b, .int .u8 c, .int .u8 d] := rfl
  have hle : (4 : Nat) ≤ 4 := by omega
  have q1 := pieces_o hB hp2 ho
  have q2 := rpieces_o hB ha2 ho
  have q3 := cover_o hB hp ho
  have q4 := rcover_o hB ha ho
  have q5 := part_o hB hp ho
  have q6 := rpart_o hB ha ho
  have w1 : IntKind.wrap .i64 (0 + 1) = 1 := rfl
  have w2 : IntKind.wrap .i64 (1 + 1) = 2 := rfl
  simp only [eql_b4, neq_b4, len_nils24, len_is24, len_hs24, len_nils25, len_is25, len_hs25, len_nils26, len_is26, len_hs26, len_nils51, len_is51, len_hs51, len_nils54, len_is54, len_hs54, len_nils57, len_is57, len_hs57, bO_s, gB_t, asBool_b, asInt_i, asAgg_a, asTup_a, asStr_s, asCons_c, asNil_n, nthA_0, nthA_s, aggCells_a, addV_p, addV_i, seeV_p, seeV_i, same_nil, same_1, same_2, tr_v, decide_true, decide_false, Bool.false_eq_true, if_false, if_true, Bool.not_true, Bool.not_false, Bool.and_true, Bool.true_and, Bool.and_self, List.getElem?_cons_zero, List.getElem?_cons_succ, Nat.zero_add, Nat.add_zero, beq_self_eq_true, bne_self_eq_false, Int.reduceBNe, Int.reduceBEq, Int.reduceLT, Int.reduceGT, Int.reduceLE, Int.reduceGE, Nat.reduceAdd, Nat.reduceMul, Nat.reduceLeDiff, l4, t4, hle, q1, q2, h1, h2]
  rw [bloop]
  simp only [eql_b4, neq_b4, len_nils24, len_is24, len_hs24, len_nils25, len_is25, len_hs25, len_nils26, len_is26, len_hs26, len_nils51, len_is51, len_hs51, len_nils54, len_is54, len_hs54, len_nils57, len_is57, len_hs57, bO_s, gB_t, asBool_b, asInt_i, asAgg_a, asTup_a, asStr_s, asCons_c, asNil_n, nthA_0, nthA_s, aggCells_a, addV_p, addV_i, seeV_p, seeV_i, same_nil, same_1, same_2, tr_v, decide_true, decide_false, Bool.false_eq_true, if_false, if_true, Bool.not_true, Bool.not_false, Bool.and_true, Bool.true_and, Bool.and_self, List.getElem?_cons_zero, List.getElem?_cons_succ, Nat.zero_add, Nat.add_zero, beq_self_eq_true, bne_self_eq_false, Int.reduceBNe, Int.reduceBEq, Int.reduceLT, Int.reduceGT, Int.reduceLE, Int.reduceGE, Nat.reduceAdd, Nat.reduceMul, Nat.reduceLeDiff, l4, t4, hle, q3, q4, h3]
  rw [bloop]
  simp only [eql_b4, neq_b4, len_nils24, len_is24, len_hs24, len_nils25, len_is25, len_hs25, len_nils26, len_is26, len_hs26, len_nils51, len_is51, len_hs51, len_nils54, len_is54, len_hs54, len_nils57, len_is57, len_hs57, bO_s, gB_t, asBool_b, asInt_i, asAgg_a, asTup_a, asStr_s, asCons_c, asNil_n, nthA_0, nthA_s, aggCells_a, addV_p, addV_i, seeV_p, seeV_i, same_nil, same_1, same_2, tr_v, decide_true, decide_false, Bool.false_eq_true, if_false, if_true, Bool.not_true, Bool.not_false, Bool.and_true, Bool.true_and, Bool.and_self, List.getElem?_cons_zero, List.getElem?_cons_succ, Nat.zero_add, Nat.add_zero, beq_self_eq_true, bne_self_eq_false, Int.reduceBNe, Int.reduceBEq, Int.reduceLT, Int.reduceGT, Int.reduceLE, Int.reduceGE, Nat.reduceAdd, Nat.reduceMul, Nat.reduceLeDiff, sel, w1]
  rw [bloop]
  simp only [eql_b4, neq_b4, len_nils24, len_is24, len_hs24, len_nils25, len_is25, len_hs25, len_nils26, len_is26, len_hs26, len_nils51, len_is51, len_hs51, len_nils54, len_is54, len_hs54, len_nils57, len_is57, len_hs57, bO_s, gB_t, asBool_b, asInt_i, asAgg_a, asTup_a, asStr_s, asCons_c, asNil_n, nthA_0, nthA_s, aggCells_a, addV_p, addV_i, seeV_p, seeV_i, same_nil, same_1, same_2, tr_v, decide_true, decide_false, Bool.false_eq_true, if_false, if_true, Bool.not_true, Bool.not_false, Bool.and_true, Bool.true_and, Bool.and_self, List.getElem?_cons_zero, List.getElem?_cons_succ, Nat.zero_add, Nat.add_zero, beq_self_eq_true, bne_self_eq_false, Int.reduceBNe, Int.reduceBEq, Int.reduceLT, Int.reduceGT, Int.reduceLE, Int.reduceGE, Nat.reduceAdd, Nat.reduceMul, Nat.reduceLeDiff, l4, t4, hle, q3, q4, h3]
  rw [bloop]
  simp only [eql_b4, neq_b4, len_nils24, len_is24, len_hs24, len_nils25, len_is25, len_hs25, len_nils26, len_is26, len_hs26, len_nils51, len_is51, len_hs51, len_nils54, len_is54, len_hs54, len_nils57, len_is57, len_hs57, bO_s, gB_t, asBool_b, asInt_i, asAgg_a, asTup_a, asStr_s, asCons_c, asNil_n, nthA_0, nthA_s, aggCells_a, addV_p, addV_i, seeV_p, seeV_i, same_nil, same_1, same_2, tr_v, decide_true, decide_false, Bool.false_eq_true, if_false, if_true, Bool.not_true, Bool.not_false, Bool.and_true, Bool.true_and, Bool.and_self, List.getElem?_cons_zero, List.getElem?_cons_succ, Nat.zero_add, Nat.add_zero, beq_self_eq_true, bne_self_eq_false, Int.reduceBNe, Int.reduceBEq, Int.reduceLT, Int.reduceGT, Int.reduceLE, Int.reduceGE, Nat.reduceAdd, Nat.reduceMul, Nat.reduceLeDiff, sel, w2]
  rw [bloop]
  simp only [eql_b4, neq_b4, len_nils24, len_is24, len_hs24, len_nils25, len_is25, len_hs25, len_nils26, len_is26, len_hs26, len_nils51, len_is51, len_hs51, len_nils54, len_is54, len_hs54, len_nils57, len_is57, len_hs57, bO_s, gB_t, asBool_b, asInt_i, asAgg_a, asTup_a, asStr_s, asCons_c, asNil_n, nthA_0, nthA_s, aggCells_a, addV_p, addV_i, seeV_p, seeV_i, same_nil, same_1, same_2, tr_v, decide_true, decide_false, Bool.false_eq_true, if_false, if_true, Bool.not_true, Bool.not_false, Bool.and_true, Bool.true_and, Bool.and_self, List.getElem?_cons_zero, List.getElem?_cons_succ, Nat.zero_add, Nat.add_zero, beq_self_eq_true, bne_self_eq_false, Int.reduceBNe, Int.reduceBEq, Int.reduceLT, Int.reduceGT, Int.reduceLE, Int.reduceGE, Nat.reduceAdd, Nat.reduceMul, Nat.reduceLeDiff, sel, l4, t4, hle, q5, q6, h4]
end
end Go.Ab.tK
