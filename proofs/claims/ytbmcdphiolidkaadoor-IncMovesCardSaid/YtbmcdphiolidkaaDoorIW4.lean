/- A block of a macroblock, and how many of its coefficients are not 0: both sides. -/
import Derived.Test.YtbmcdphiolidkaaDoorIW3
set_option maxRecDepth 100000
set_option linter.unusedSimpArgs false
set_option linter.unusedVariables false
set_option linter.unusedSectionVars false
namespace Go.Ab.tNearU
open Go Go.Proofs

def M.row (m : M) (c : Cd) : Option AV := (ixF m.bls c).bind fun i => (cut m.b)[i]?
theorem bls_len (kind cb : Nat) : (bls kind cb).length ≤ 27 := by
  have hl : ∀ (cat n : Nat), (lum cat cb n).length ≤ n := by
    intro cat n
    induction n with
    | zero => simp [lum]
    | succ n ih =>
      simp only [lum]
      split
      · rw [List.length_append, List.length_singleton]; omega
      · omega
  unfold bls
  split
  · simp
  · simp only [List.length_append]
    have := hl (if kind = 1 then 1 else 2) 16
    have h1 : (if kind = 1 then [((0, 0, 0) : Cd)] else []).length ≤ 1 := by split <;> simp
    have h2 : (if cb / 16 > 0 then [((3, 0, 0) : Cd), (3, 1, 0)] else []).length ≤ 2 := by split <;> simp
    have h3 : (if cb / 16 = 2 then chrAC else []).length ≤ 8 := by split <;> simp [chrAC]
    omega
theorem row_good {m : M} (hg : Good 1000 m) {c : Cd} {r : AV} (h : m.row c = some r) : Row 1000 1 r := by
  unfold M.row at h
  rw [Option.bind_eq_some_iff] at h
  obtain ⟨i, _, hi⟩ := h
  exact Rows.mem hg.b r (List.mem_of_getElem? hi)
theorem mbBlock_c {B : CallF} (hB : Known B) (k : Nat) {m : M} (hg : Good 1000 m) (hb : Byt m) (c : Cd) (S : Heap) :
    Cn B (k + 2) f_mb_Block 0 [.agg m.cells, .agg (cdC c)] S = some (match m.row c with | some r => .tup [r, .bool true] | none => .tup [.nils, .bool false], S) := by
  rw [c_mb_Block _ _ _ _ _ (hB.no _ _ _ _ (by decide)), T_mb_Block]
  have l29 := M.len hg.pre
  have t29 : List.take 29 (List.drop 0 m.cells) = m.cells := by rw [List.drop_zero]; exact M.t29 hg.pre
  have l3 : (cdC c).length = 3 := rfl
  have t3 : List.take 3 (List.drop 0 (cdC c)) = cdC c := rfl
  have h29 : (29 : Nat) ≤ 29 := by omega
  have h3 : (3 : Nat) ≤ 3 := by omega
  have e1 := (blocks_c hB (k + 1) hg hb S).1
  have e2 := index_c hB k (l := m.bls) (by have := bls_len m.kind m.cbp; unfold M.bls; omega) c S
  have g27 := M.g27 hg.pre
  obtain ⟨n, q1, q2, q3, q4⟩ := len27 hg.b
  have hf : fz 40 (.tup [.nils, .bool false]) S = some (.tup [.nils, .bool false], S) := rfl
  cases hi : ixF m.bls c with
  | none =>
    have hr : m.row c = none := by unfold M.row; rw [hi]; rfl
    rw [hr]
    rw [hi] at e2
    simp only at e2
    simp only [bO_s, gB_t, asBool_b, asInt_i, asAgg_a, asTup_a, asStr_s, asCons_c, nthA_0, nthA_s, aggCells_a, addV_p, seeV_p, seeV_i, same_nil, tr_same, eql4, neq4, decide_true, decide_false, Bool.false_eq_true, if_false, if_true, Bool.not_true, Bool.not_false, Bool.and_true, Bool.true_and, Bool.and_self, List.getElem?_cons_zero, List.getElem?_cons_succ, Nat.zero_add, Nat.add_zero, beq_self_eq_true, bne_self_eq_false, Int.reduceBNe, Int.reduceBEq, Int.reduceLT, Int.reduceGT, Int.reduceLE, Int.reduceGE, Nat.reduceAdd, Nat.reduceMul, Nat.reduceLeDiff, l29, l3, t29, t3, h29, h3, e1, e2, hf]
  | some i =>
    rw [hi] at e2
    simp only at e2
    have c1 : ¬ (i : Int) < 0 := by omega
    by_cases hin : i < n
    · have c2 : ¬ (i : Int) ≥ (n : Int) := by omega
      have hget : (cut m.b)[i]? = some ((cut m.b)[i]'(by omega)) := List.getElem?_eq_getElem _
      have hr : m.row c = some ((cut m.b)[i]'(by omega)) := by unfold M.row; rw [hi]; exact hget
      have hgd := row_good hg hr
      rw [hr]
      obtain ⟨r, hrr⟩ : ∃ r, r = (cut m.b)[i]'(by omega) := ⟨_, rfl⟩
      rw [← hrr] at hget hr hgd ⊢
      have hd : ((cut m.b).drop i)[0]? = some r := by rw [List.getElem?_drop, Nat.add_zero]; exact hget
      have e3 := clone1_c hB.no k hgd S
      have hf2 : fz 40 (.tup [r, .bool true]) S = some (.tup [r, .bool true], S) := by
        obtain rfl | ⟨n, cs, rfl, _⟩ := hgd <;> rfl
      simp only [bO_s, gB_t, asBool_b, asInt_i, asAgg_a, asTup_a, asStr_s, asCons_c, nthA_0, nthA_s, aggCells_a, addV_p, seeV_p, seeV_i, same_nil, tr_same, eql4, neq4, decide_true, decide_false, Bool.false_eq_true, if_false, if_true, Bool.not_true, Bool.not_false, Bool.and_true, Bool.true_and, Bool.and_self, List.getElem?_cons_zero, List.getElem?_cons_succ, Nat.zero_add, Nat.add_zero, beq_self_eq_true, bne_self_eq_false, Int.reduceBNe, Int.reduceBEq, Int.reduceLT, Int.reduceGT, Int.reduceLE, Int.reduceGE, Nat.reduceAdd, Nat.reduceMul, Nat.reduceLeDiff, l29, l3, t29, t3, h29, h3, e1, e2, c1, g27, q3, c2, q4 i hin, hd, e3, hf2]
    · have c2 : (i : Int) ≥ (n : Int) := by omega
      have hr : m.row c = none := by unfold M.row; rw [hi]; exact List.getElem?_eq_none (by omega)
      rw [hr]
      simp only [bO_s, gB_t, asBool_b, asInt_i, asAgg_a, asTup_a, asStr_s, asCons_c, nthA_0, nthA_s, aggCells_a, addV_p, seeV_p, seeV_i, same_nil, tr_same, eql4, neq4, decide_true, decide_false, Bool.false_eq_true, if_false, if_true, Bool.not_true, Bool.not_false, Bool.and_true, Bool.true_and, Bool.and_self, List.getElem?_cons_zero, List.getElem?_cons_succ, Nat.zero_add, Nat.add_zero, beq_self_eq_true, bne_self_eq_false, Int.reduceBNe, Int.reduceBEq, Int.reduceLT, Int.reduceGT, Int.reduceLE, Int.reduceGE, Nat.reduceAdd, Nat.reduceMul, Nat.reduceLeDiff, l29, l3, t29, t3, h29, h3, e1, e2, c1, g27, q3, c2, hf]
end Go.Ab.tNearU
