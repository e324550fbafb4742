/- The reference's difference at a block. -/
import Derived.Test.YtbmcdphiolidkaaDoorIL2
set_option maxRecDepth 100000
set_option linter.unusedSimpArgs false
set_option linter.unusedVariables false
set_option linter.unusedSectionVars false
namespace Go.Ab.tNearU
open Go Go.Proofs

def difP (m : M) (blk : Nat) : Nat → Nat → Int × Int
  | 0, _ => (0, 0)
  | n + 1, p => if blk ∈ m.cov p then (intOf (cut m.v)[p * 2]?, intOf (cut m.v)[p * 2 + 1]?) else difP m blk n (p + 1)
def dif (m : M) (blk : Nat) : Int × Int := if isMv m.kind = true then difP m blk (min m.rects.length (rl m.v)) 0 else (0, 0)
theorem sizeP_dif (m : M) (blk : Nat) (vert : Bool) : ∀ n p, sizeP m blk vert n p = absW (if vert = true then (difP m blk n p).2 else (difP m blk n p).1)
  | 0, p => by cases vert <;> rfl
  | n + 1, p => by
    simp only [sizeP, difP]
    by_cases h : blk ∈ m.cov p
    · rw [if_pos h, if_pos h]
      unfold mvA
      cases vert with
      | false => simp [Nat.mul_comm]
      | true => simp [Nat.mul_comm]
    · rw [if_neg h, if_neg h]
      exact sizeP_dif m blk vert n (p + 1)
theorem sizeV_dif (m : M) (blk : Nat) (vert : Bool) : sizeV m blk vert = absW (if vert = true then (dif m blk).2 else (dif m blk).1) := by
  unfold sizeV dif
  by_cases h : isMv m.kind = true
  · rw [if_pos h, if_pos h]
    exact sizeP_dif m blk vert _ _
  · rw [if_neg h, if_neg h]
    cases vert <;> rfl
section
variable {B : CallF} (hB : KnownR B) (k : Nat) {m : M} (hg : Good 1000 m) (hb : Byt m) (hs : Bys m) (S : Heap)
include hB hg hb hs
theorem rmpieces_c : Cn B (k + 1) f_spindleref12_Pieces 0 [.int .u8 (m.kind : Int), .agg (List.take 4 (List.drop 19 m.cells))] S = some (.tup [.int .i64 (m.rects.length : Int), .int .i64 (m.pErr : Int)], S) := by
  rw [sub_is hg.pre hs]
  exact rpieces_c hB k (by have := kind_le hb; omega) _ _ _ _ S
theorem rmcov_c {p : Nat} (hp : p < m.rects.length) : Cn B k f_spindleref12_Cover 0 [.int .u8 (m.kind : Int), .agg (List.take 4 (List.drop 19 m.cells)), .int .i64 (p : Int)] S = some (.tup [isN (m.cov p), .int .i64 0], S) := by
  rw [sub_is hg.pre hs]
  exact cn_base (hB.covr S hp) k
end
theorem pErr_mv {m : M} (h : isMv m.kind = false) : m.pErr ≠ 0 := by
  have h' : ¬ (3 ≤ m.kind ∧ m.kind ≤ 6) := fun h' => by rw [← isMv_is, h] at h'; cases h'
  unfold M.pErr Go.Ab.tNearU.pErr
  split <;> first | omega | skip
theorem rects_nil {m : M} (h : m.pErr ≠ 0) : m.rects = [] := by
  cases hr : m.rects with
  | nil => rfl
  | cons x l =>
    have : Go.Ab.tNearU.rects m.kind (sb m 0) (sb m 1) (sb m 2) (sb m 3) ≠ [] := by
      show m.rects ≠ []
      rw [hr]; exact List.cons_ne_nil _ _
    exact absurd (rects_ok this).1 h
theorem cov_len (m : M) (p : Nat) : (m.cov p).length ≤ 1000 := by
  unfold M.cov covB
  split
  · unfold blN
    exact Nat.le_trans (List.length_filter_le _ _) (by simp)
  · simp
theorem rabs_c {B : CallF} (hB : Known B) (k : Nat) (x : Int) (S : Heap) : Cn B (k + 1) f_spindleref16_abs 0 [.int .i64 x] S = some (.int .i64 (absW x), S) := by
  rw [c_spindleref16_abs _ _ _ _ (hB.no _ _ _ _ (by decide)), T_spindleref16_abs]
  simp only [bO_s, gB_t, asBool_b, asInt_i, asAgg_a, asTup_a, asStr_s, asCons_c, nthA_0, nthA_s, aggCells_a, addV_p, seeV_p, seeV_i, same_nil, tr_same, eql4, neq4, decide_true, decide_false, Bool.false_eq_true, if_false, if_true, Bool.not_true, Bool.not_false, Bool.and_true, Bool.true_and, Bool.and_self, List.getElem?_cons_zero, List.getElem?_cons_succ, Nat.zero_add, Nat.add_zero, beq_self_eq_true, bne_self_eq_false, Int.reduceBNe, Int.reduceBEq, Int.reduceLT, Int.reduceGT, Int.reduceLE, Int.reduceGE, Nat.reduceAdd, Nat.reduceMul, Nat.reduceLeDiff]
  rfl
set_option maxHeartbeats 1000000 in
theorem rdif_c {B : CallF} (hB : KnownR B) (k : Nat) {m : M} (hg : Good 1000 m) (hb : Byt m) (hs : Bys m) (blk : Nat) (S : Heap) : Cn B (k + 2) f_spindleref16_difference 0 [.agg m.cells, .int .i64 (blk : Int)] S = some (.agg [.int .i64 (dif m blk).1, .int .i64 (dif m blk).2], S) := by
  rw [c_spindleref16_difference _ _ _ _ _ (hB.no _ _ _ _ (by decide)), T_spindleref16_difference]
  have l29 := M.len hg.pre
  have g0 := kind_0 hg hb
  have g24 := M.g24 hg.pre
  have h23 : (23 : Nat) ≤ 29 := by omega
  obtain ⟨q1, _⟩ := rkinds_c hB.toKnown (k + 1) (kind_le hb) S
  have q2 := rmpieces_c hB k hg hb hs S
  have l26 := rl26 hg.v
  have hlv : rl m.v ≤ 1000 := by
    obtain h | ⟨n, cs, h, h1, _⟩ := hg.v
    · rw [h]; exact Nat.zero_le _
    · rw [h]; exact h1
  have l2 : ∀ x y : Int, ([.int .i64 x, .int .i64 y] : List AV).length = 2 := fun _ _ => rfl
  have t2 : ∀ x y : Int, List.take 2 ([.int .i64 x, .int .i64 y] : List AV) = [.int .i64 x, .int .i64 y] := fun _ _ => rfl
  have c2 : ∀ x y : Int, ([.int .i64 x, .int .i64 y] : List AV).all cell = true := fun _ _ => rfl
  have s2 : ∀ x y : Int, setCells [.int .i64 0, .int .i64 0] 0 ([.int .i64 x, .int .i64 y] : List AV) = [.int .i64 x, .int .i64 y] := fun _ _ => rfl
  have h22 : (2 : Nat) ≤ 2 := by omega
  unfold dif
  simp only [bO_s, gB_t, asBool_b, asInt_i, asAgg_a, asTup_a, asStr_s, asCons_c, nthA_0, nthA_s, aggCells_a, addV_p, seeV_p, seeV_i, same_nil, tr_same, eql4, neq4, decide_true, decide_false, Bool.false_eq_true, if_false, if_true, Bool.not_true, Bool.not_false, Bool.and_true, Bool.true_and, Bool.and_self, List.getElem?_cons_zero, List.getElem?_cons_succ, Nat.zero_add, Nat.add_zero, beq_self_eq_true, bne_self_eq_false, Int.reduceBNe, Int.reduceBEq, Int.reduceLT, Int.reduceGT, Int.reduceLE, Int.reduceGE, Nat.reduceAdd, Nat.reduceMul, Nat.reduceLeDiff, l29, g0, h23, q2, q1]
  cases hmv : isMv m.kind with
  | false => simp only [bO_s, gB_t, asBool_b, asInt_i, asAgg_a, asTup_a, asStr_s, asCons_c, nthA_0, nthA_s, aggCells_a, addV_p, seeV_p, seeV_i, same_nil, tr_same, eql4, neq4, decide_true, decide_false, Bool.false_eq_true, if_false, if_true, Bool.not_true, Bool.not_false, Bool.and_true, Bool.true_and, Bool.and_self, List.getElem?_cons_zero, List.getElem?_cons_succ, Nat.zero_add, Nat.add_zero, beq_self_eq_true, bne_self_eq_false, Int.reduceBNe, Int.reduceBEq, Int.reduceLT, Int.reduceGT, Int.reduceLE, Int.reduceGE, Nat.reduceAdd, Nat.reduceMul, Nat.reduceLeDiff, l2, s2, t2, h22, List.drop_zero]
  | true =>
    by_cases hpe : m.pErr = 0
    · have hpe0 : ((m.pErr : Int) != 0) = false := by rw [hpe]; rfl
      simp only [bO_s, gB_t, asBool_b, asInt_i, asAgg_a, asTup_a, asStr_s, asCons_c, nthA_0, nthA_s, aggCells_a, addV_p, seeV_p, seeV_i, same_nil, tr_same, eql4, neq4, decide_true, decide_false, Bool.false_eq_true, if_false, if_true, Bool.not_true, Bool.not_false, Bool.and_true, Bool.true_and, Bool.and_self, List.getElem?_cons_zero, List.getElem?_cons_succ, Nat.zero_add, Nat.add_zero, beq_self_eq_true, bne_self_eq_false, Int.reduceBNe, Int.reduceBEq, Int.reduceLT, Int.reduceGT, Int.reduceLE, Int.reduceGE, Nat.reduceAdd, Nat.reduceMul, Nat.reduceLeDiff, hpe0]
      refine loop_ex (fun (o : Option (AV × Heap)) => o = some (.agg [.int .i64 (difP m blk (min m.rects.length (rl m.v)) 0).1, .int .i64 (difP m blk (min m.rects.length (rl m.v)) 0).2], S))
        (fun p s => s = ([.int .i64 (blk : Int), .agg m.cells, .agg [.int .i64 0, .int .i64 0], .int .i64 (m.rects.length : Int), .int .i64 (p : Int)], S) ∧ difP m blk (min m.rects.length (rl m.v)) 0 = difP m blk (min m.rects.length (rl m.v) - p) p)
        (fun x => (x = (0, [.agg [.int .i64 0, .int .i64 0]], S) ∧ difP m blk (min m.rects.length (rl m.v)) 0 = (0, 0)) ∨ x = (1, [.agg [.int .i64 (difP m blk (min m.rects.length (rl m.v)) 0).1, .int .i64 (difP m blk (min m.rects.length (rl m.v)) 0).2]], S)) (min m.rects.length (rl m.v)) ⟨rfl, rfl⟩ ?_ ?_
      · rintro p s hp ⟨rfl, hinv⟩
        by_cases hlt : p < min m.rects.length (rl m.v)
        · have h1 : p < m.rects.length := by omega
          have h2 : p < rl m.v := by omega
          have h1' : (p : Int) < (m.rects.length : Int) := by omega
          have h2' : (p : Int) < (rl m.v : Int) := by omega
          have hw : IntKind.wrap .i64 ((p : Int) + 1) = ((p + 1 : Nat) : Int) := by rw [wr _ (by omega)]; omega
          have hc := rmcov_c hB (k + 1) hg hb hs S h1
          have hsub : min m.rects.length (rl m.v) - p = (min m.rects.length (rl m.v) - (p + 1)) + 1 := by omega
          rw [hsub, difP] at hinv
          have hl16 := cov_len m p
          obtain ⟨l, hl⟩ : ∃ l, l = m.cov p := ⟨_, rfl⟩
          rw [← hl] at hc hinv hl16
          have l25 : aLen Tryd.prog 25 (isN l) = some (.int .i64 (l.length : Int)) := by kernel_rfl
          have hix : ∀ i, i < l.length → aIdx 1 (isN l) (i : Int) = some (.iptr ((l.map iN).drop i)) := fun i hin => by simp [aIdx, hin, isN]
          have hat : ∀ i (hin : i < l.length), ((l.map iN).drop i)[0]? = some (.int .i64 (l[i] : Int)) := fun i hin => by
            rw [List.getElem?_drop, Nat.add_zero, List.getElem?_map, List.getElem?_eq_getElem hin]; rfl
          obtain ⟨x1, x2, x3⟩ := ix26 hg.v h2
          obtain ⟨z0, hz0⟩ : ∃ z, (cut m.v)[p * 2]? = some (.int .i64 z) := ⟨_, ints_at x3 (by omega)⟩
          obtain ⟨z1, hz1⟩ : ∃ z, (cut m.v)[p * 2 + 1]? = some (.int .i64 z) := ⟨_, ints_at x3 (by omega)⟩
          have d2 : List.take 2 ((cut m.v).drop (p * 2)) = [.int .i64 z0, .int .i64 z1] := by
            rw [List.drop_eq_getElem_cons (by omega), List.drop_eq_getElem_cons (by omega)]
            rw [List.getElem?_eq_getElem (by omega)] at hz0 hz1
            simp only [List.take_succ_cons, List.take_zero]
            rw [Option.some.inj hz0, Option.some.inj hz1]
          have d2l : 2 ≤ ((cut m.v).drop (p * 2)).length := by rw [List.length_drop]; omega
          simp only [bO_s, gB_t, asBool_b, asInt_i, asAgg_a, asTup_a, asStr_s, asCons_c, nthA_0, nthA_s, aggCells_a, addV_p, seeV_p, seeV_i, same_nil, tr_same, eql4, neq4, decide_true, decide_false, Bool.false_eq_true, if_false, if_true, Bool.not_true, Bool.not_false, Bool.and_true, Bool.true_and, Bool.and_self, List.getElem?_cons_zero, List.getElem?_cons_succ, Nat.zero_add, Nat.add_zero, beq_self_eq_true, bne_self_eq_false, Int.reduceBNe, Int.reduceBEq, Int.reduceLT, Int.reduceGT, Int.reduceLE, Int.reduceGE, Nat.reduceAdd, Nat.reduceMul, Nat.reduceLeDiff, h1', g24, l26, h2', g0, l29, h23, hc]
          by_cases hmem : blk ∈ l
          · rw [if_pos hmem, hz0, hz1] at hinv
            have hinv' : difP m blk (min m.rects.length (rl m.v)) 0 = (z0, z1) := hinv
            refine .inl ?_
            refine loop_ex (fun (o : Option (LSt ⊕ (Nat × LSt))) => ∃ x, o = some (.inr x) ∧ ((x = (0, [.agg [.int .i64 0, .int .i64 0]], S) ∧ _) ∨ x = (1, [.agg [.int .i64 (difP m blk (min m.rects.length (rl m.v)) 0).1, .int .i64 (difP m blk (min m.rects.length (rl m.v)) 0).2]], S)))
              (fun i s => s = ([.int .i64 (blk : Int), .agg m.cells, .agg [.int .i64 0, .int .i64 0], .int .i64 (m.rects.length : Int), .int .i64 (p : Int), isN l, .int .i64 (i : Int)], S) ∧ blk ∉ l.take i)
              (fun x => x = (1, [.agg [.int .i64 z0, .int .i64 z1]], S)) l.length ⟨rfl, by simp⟩ ?_ ?_
            · rintro i s hi ⟨rfl, hno⟩
              by_cases hin : i < l.length
              · have hil : (i : Int) < (l.length : Int) := by omega
                have hwi : IntKind.wrap .i64 ((i : Int) + 1) = ((i + 1 : Nat) : Int) := by rw [wr _ (by omega)]; omega
                by_cases he : l[i] = blk
                · have hne : ((l[i] : Int) == (blk : Int)) = true := by rw [he]; simp
                  exact .inl ⟨_, by simp only [bO_s, gB_t, asBool_b, asInt_i, asAgg_a, asTup_a, asStr_s, asCons_c, nthA_0, nthA_s, aggCells_a, addV_p, seeV_p, seeV_i, same_nil, tr_same, eql4, neq4, decide_true, decide_false, Bool.false_eq_true, if_false, if_true, Bool.not_true, Bool.not_false, Bool.and_true, Bool.true_and, Bool.and_self, List.getElem?_cons_zero, List.getElem?_cons_succ, Nat.zero_add, Nat.add_zero, beq_self_eq_true, bne_self_eq_false, Int.reduceBNe, Int.reduceBEq, Int.reduceLT, Int.reduceGT, Int.reduceLE, Int.reduceGE, Nat.reduceAdd, Nat.reduceMul, Nat.reduceLeDiff, l25, hil, hix i hin, hat i hin, hne, g24, x1, d2l, List.drop_zero, d2, l2, c2, h22, s2], rfl⟩
                · have hne : ((l[i] : Int) == (blk : Int)) = false := by rw [beq_eq_false_iff_ne]; omega
                  refine .inr ⟨hin, _, by simp only [bO_s, gB_t, asBool_b, asInt_i, asAgg_a, asTup_a, asStr_s, asCons_c, nthA_0, nthA_s, aggCells_a, addV_p, seeV_p, seeV_i, same_nil, tr_same, eql4, neq4, decide_true, decide_false, Bool.false_eq_true, if_false, if_true, Bool.not_true, Bool.not_false, Bool.and_true, Bool.true_and, Bool.and_self, List.getElem?_cons_zero, List.getElem?_cons_succ, Nat.zero_add, Nat.add_zero, beq_self_eq_true, bne_self_eq_false, Int.reduceBNe, Int.reduceBEq, Int.reduceLT, Int.reduceGT, Int.reduceLE, Int.reduceGE, Nat.reduceAdd, Nat.reduceMul, Nat.reduceLeDiff, l25, hil, hix i hin, hat i hin, hne, hwi], rfl, ?_⟩
                  rw [List.take_add_one, List.getElem?_eq_getElem hin, Option.toList_some, List.mem_append, List.mem_singleton]
                  rintro (h | h)
                  · exact hno h
                  · exact he h.symm
              · rw [List.take_of_length_le (by omega)] at hno
                exact absurd hmem hno
            · rintro x rfl
              simp only [bO_s, gB_t, asBool_b, asInt_i, asAgg_a, asTup_a, asStr_s, asCons_c, nthA_0, nthA_s, aggCells_a, addV_p, seeV_p, seeV_i, same_nil, tr_same, eql4, neq4, decide_true, decide_false, Bool.false_eq_true, if_false, if_true, Bool.not_true, Bool.not_false, Bool.and_true, Bool.true_and, Bool.and_self, List.getElem?_cons_zero, List.getElem?_cons_succ, Nat.zero_add, Nat.add_zero, beq_self_eq_true, bne_self_eq_false, Int.reduceBNe, Int.reduceBEq, Int.reduceLT, Int.reduceGT, Int.reduceLE, Int.reduceGE, Nat.reduceAdd, Nat.reduceMul, Nat.reduceLeDiff, sel]
              exact ⟨_, rfl, .inr (by rw [hinv'])⟩
          · rw [if_neg hmem] at hinv
            refine .inr ⟨hlt, ?_⟩
            refine loop_ex (fun (o : Option (LSt ⊕ (Nat × LSt))) => ∃ s', o = some (.inl s') ∧ (s' = ([.int .i64 (blk : Int), .agg m.cells, .agg [.int .i64 0, .int .i64 0], .int .i64 (m.rects.length : Int), .int .i64 ((p + 1 : Nat) : Int)], S) ∧ _))
              (fun i s => s = ([.int .i64 (blk : Int), .agg m.cells, .agg [.int .i64 0, .int .i64 0], .int .i64 (m.rects.length : Int), .int .i64 (p : Int), isN l, .int .i64 (i : Int)], S))
              (fun x => x = (0, [.int .i64 (blk : Int), .agg m.cells, .agg [.int .i64 0, .int .i64 0], .int .i64 (m.rects.length : Int), .int .i64 (p : Int)], S)) l.length rfl ?_ ?_
            · rintro i s hi rfl
              by_cases hin : i < l.length
              · have hil : (i : Int) < (l.length : Int) := by omega
                have hwi : IntKind.wrap .i64 ((i : Int) + 1) = ((i + 1 : Nat) : Int) := by rw [wr _ (by omega)]; omega
                have he : l[i] ≠ blk := fun he => hmem (by rw [← he]; exact List.getElem_mem hin)
                have hne : ((l[i] : Int) == (blk : Int)) = false := by rw [beq_eq_false_iff_ne]; omega
                exact .inr ⟨hin, _, by simp only [bO_s, gB_t, asBool_b, asInt_i, asAgg_a, asTup_a, asStr_s, asCons_c, nthA_0, nthA_s, aggCells_a, addV_p, seeV_p, seeV_i, same_nil, tr_same, eql4, neq4, decide_true, decide_false, Bool.false_eq_true, if_false, if_true, Bool.not_true, Bool.not_false, Bool.and_true, Bool.true_and, Bool.and_self, List.getElem?_cons_zero, List.getElem?_cons_succ, Nat.zero_add, Nat.add_zero, beq_self_eq_true, bne_self_eq_false, Int.reduceBNe, Int.reduceBEq, Int.reduceLT, Int.reduceGT, Int.reduceLE, Int.reduceGE, Nat.reduceAdd, Nat.reduceMul, Nat.reduceLeDiff, l25, hil, hix i hin, hat i hin, hne, hwi], rfl⟩
              · have hil : ¬ (i : Int) < (l.length : Int) := by omega
                exact .inl ⟨_, by simp only [bO_s, gB_t, asBool_b, asInt_i, asAgg_a, asTup_a, asStr_s, asCons_c, nthA_0, nthA_s, aggCells_a, addV_p, seeV_p, seeV_i, same_nil, tr_same, eql4, neq4, decide_true, decide_false, Bool.false_eq_true, if_false, if_true, Bool.not_true, Bool.not_false, Bool.and_true, Bool.true_and, Bool.and_self, List.getElem?_cons_zero, List.getElem?_cons_succ, Nat.zero_add, Nat.add_zero, beq_self_eq_true, bne_self_eq_false, Int.reduceBNe, Int.reduceBEq, Int.reduceLT, Int.reduceGT, Int.reduceLE, Int.reduceGE, Nat.reduceAdd, Nat.reduceMul, Nat.reduceLeDiff, l25, hil], rfl⟩
            · rintro x rfl
              simp only [bO_s, gB_t, asBool_b, asInt_i, asAgg_a, asTup_a, asStr_s, asCons_c, nthA_0, nthA_s, aggCells_a, addV_p, seeV_p, seeV_i, same_nil, tr_same, eql4, neq4, decide_true, decide_false, Bool.false_eq_true, if_false, if_true, Bool.not_true, Bool.not_false, Bool.and_true, Bool.true_and, Bool.and_self, List.getElem?_cons_zero, List.getElem?_cons_succ, Nat.zero_add, Nat.add_zero, beq_self_eq_true, bne_self_eq_false, Int.reduceBNe, Int.reduceBEq, Int.reduceLT, Int.reduceGT, Int.reduceLE, Int.reduceGE, Nat.reduceAdd, Nat.reduceMul, Nat.reduceLeDiff, sel, hw]
              exact ⟨_, rfl, rfl, hinv⟩
        · have h0 : min m.rects.length (rl m.v) - p = 0 := by omega
          rw [h0, difP] at hinv
          refine .inl ⟨(0, [.agg [.int .i64 0, .int .i64 0]], S), ?_, .inl ⟨rfl, hinv⟩⟩
          by_cases h1 : p < m.rects.length
          · have h1' : (p : Int) < (m.rects.length : Int) := by omega
            have h2' : ¬ ((p : Int) < (rl m.v : Int)) := by omega
            simp only [bO_s, gB_t, asBool_b, asInt_i, asAgg_a, asTup_a, asStr_s, asCons_c, nthA_0, nthA_s, aggCells_a, addV_p, seeV_p, seeV_i, same_nil, tr_same, eql4, neq4, decide_true, decide_false, Bool.false_eq_true, if_false, if_true, Bool.not_true, Bool.not_false, Bool.and_true, Bool.true_and, Bool.and_self, List.getElem?_cons_zero, List.getElem?_cons_succ, Nat.zero_add, Nat.add_zero, beq_self_eq_true, bne_self_eq_false, Int.reduceBNe, Int.reduceBEq, Int.reduceLT, Int.reduceGT, Int.reduceLE, Int.reduceGE, Nat.reduceAdd, Nat.reduceMul, Nat.reduceLeDiff, h1', g24, l26, h2']
          · have h1' : ¬ ((p : Int) < (m.rects.length : Int)) := by omega
            simp only [bO_s, gB_t, asBool_b, asInt_i, asAgg_a, asTup_a, asStr_s, asCons_c, nthA_0, nthA_s, aggCells_a, addV_p, seeV_p, seeV_i, same_nil, tr_same, eql4, neq4, decide_true, decide_false, Bool.false_eq_true, if_false, if_true, Bool.not_true, Bool.not_false, Bool.and_true, Bool.true_and, Bool.and_self, List.getElem?_cons_zero, List.getElem?_cons_succ, Nat.zero_add, Nat.add_zero, beq_self_eq_true, bne_self_eq_false, Int.reduceBNe, Int.reduceBEq, Int.reduceLT, Int.reduceGT, Int.reduceLE, Int.reduceGE, Nat.reduceAdd, Nat.reduceMul, Nat.reduceLeDiff, h1']
      · rintro x (⟨rfl, h0⟩ | rfl)
        · rw [h0]
          simp only [bO_s, gB_t, asBool_b, asInt_i, asAgg_a, asTup_a, asStr_s, asCons_c, nthA_0, nthA_s, aggCells_a, addV_p, seeV_p, seeV_i, same_nil, tr_same, eql4, neq4, decide_true, decide_false, Bool.false_eq_true, if_false, if_true, Bool.not_true, Bool.not_false, Bool.and_true, Bool.true_and, Bool.and_self, List.getElem?_cons_zero, List.getElem?_cons_succ, Nat.zero_add, Nat.add_zero, beq_self_eq_true, bne_self_eq_false, Int.reduceBNe, Int.reduceBEq, Int.reduceLT, Int.reduceGT, Int.reduceLE, Int.reduceGE, Nat.reduceAdd, Nat.reduceMul, Nat.reduceLeDiff, sel, l2, s2, t2, h22, List.drop_zero]
        · simp only [bO_s, gB_t, asBool_b, asInt_i, asAgg_a, asTup_a, asStr_s, asCons_c, nthA_0, nthA_s, aggCells_a, addV_p, seeV_p, seeV_i, same_nil, tr_same, eql4, neq4, decide_true, decide_false, Bool.false_eq_true, if_false, if_true, Bool.not_true, Bool.not_false, Bool.and_true, Bool.true_and, Bool.and_self, List.getElem?_cons_zero, List.getElem?_cons_succ, Nat.zero_add, Nat.add_zero, beq_self_eq_true, bne_self_eq_false, Int.reduceBNe, Int.reduceBEq, Int.reduceLT, Int.reduceGT, Int.reduceLE, Int.reduceGE, Nat.reduceAdd, Nat.reduceMul, Nat.reduceLeDiff, sel, l2, s2, t2, h22, List.drop_zero]
    · have hpe0 : ((m.pErr : Int) != 0) = true := by rw [bne_iff_ne]; omega
      have hn : min m.rects.length (rl m.v) = 0 := by rw [rects_nil hpe]; exact Nat.zero_min _
      rw [hn]
      simp only [bO_s, gB_t, asBool_b, asInt_i, asAgg_a, asTup_a, asStr_s, asCons_c, nthA_0, nthA_s, aggCells_a, addV_p, seeV_p, seeV_i, same_nil, tr_same, eql4, neq4, decide_true, decide_false, Bool.false_eq_true, if_false, if_true, Bool.not_true, Bool.not_false, Bool.and_true, Bool.true_and, Bool.and_self, List.getElem?_cons_zero, List.getElem?_cons_succ, Nat.zero_add, Nat.add_zero, beq_self_eq_true, bne_self_eq_false, Int.reduceBNe, Int.reduceBEq, Int.reduceLT, Int.reduceGT, Int.reduceLE, Int.reduceGE, Nat.reduceAdd, Nat.reduceMul, Nat.reduceLeDiff, hpe0, l2, s2, t2, h22, List.drop_zero]
      first | done | rfl
end Go.Ab.tNearU
