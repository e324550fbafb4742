/- The class of a block: the reference's function is the same. -/
import Derived.Test.YtcnenkckcemhdaaCnsW9
set_option maxRecDepth 100000
set_option linter.unusedSimpArgs false
set_option linter.unusedVariables false
set_option linter.unusedSectionVars false
namespace Go.Ab.tNearU
open Go Go.Proofs

theorem tot_luma (m : M) (j : Nat) : tot m (1, 0, j) = tot m (2, 0, j) := by
  have hex : exF 1 0 j = exF 2 0 j := rfl
  have hco : coefA m (1, 0, j) = coefA m (2, 0, j) := by
    unfold coefA alt
    simp only [if_true, true_or, or_true]
    have hne : ¬ ((2, 0, j) : Cd) = (1, 0, j) := by intro h; cases h
    rw [if_neg hne]
    cases h1 : m.row (1, 0, j) with
    | some r => rw [row_excl h1]
    | none =>
      cases h2 : m.row (2, 0, j) with
      | some r => rfl
      | none => rfl
  unfold tot
  simp only
  rw [hex, hco]
def rlook (m : M) (nb : M × Bool) (ab : Bool) (d : Cd) : Option Nat :=
  match (nby m nb ab d).2.2 with
  | true => some (tot (nby m nb ab d).1 (nby m nb ab d).2.1)
  | false => none
theorem rlook_is {m : M} {nb : M × Bool} {ab : Bool} {c : Cd} (hc : CdEx c) (h3 : c.1 ≠ 3) : rlook m nb ab (rd c) = lookd m nb ab c := by
  obtain ⟨a, b, j⟩ := c
  obtain ⟨⟨h1, h2, h4⟩, hex⟩ := hc
  simp only at h1 h2 h3 h4 hex
  have ha : a = 0 ∨ a = 1 ∨ a = 2 ∨ a = 4 := by omega
  rcases ha with rfl | rfl | rfl | rfl
  · simp only [exF, Bool.and_eq_true] at hex
    have hb : b = 0 := Nat.eq_of_beq_eq_true hex.1
    have hj : j = 0 := Nat.eq_of_beq_eq_true hex.2
    subst hb hj
    have hr : rd (0, 0, 0) = (1, 0, 0) := rfl
    have hi : isCh (1, 0, 0) = false := rfl
    have hi' : isCh (0, 0, 0) = false := rfl
    rw [hr]
    unfold rlook nby lookd
    simp only [hi, hi', dOf]
    cases (stp false ab 0).2 with
    | true => simp only [tot_luma]
    | false => cases nb.2 with
      | true => simp only [tot_luma]
      | false => rfl
  · simp only [exF, Bool.and_eq_true] at hex
    have hb : b = 0 := Nat.eq_of_beq_eq_true hex.1
    subst hb
    have hr : rd (1, 0, j) = (1, 0, j) := rfl
    have hi : isCh (1, 0, j) = false := rfl
    rw [hr]
    unfold rlook nby lookd
    simp only [hi, dOf]
    cases (stp false ab j).2 with
    | true => simp only [tot_luma]
    | false => cases nb.2 with
      | true => simp only [tot_luma]
      | false => rfl
  · simp only [exF, Bool.and_eq_true] at hex
    have hb : b = 0 := Nat.eq_of_beq_eq_true hex.1
    subst hb
    have hr : rd (2, 0, j) = (2, 0, j) := rfl
    have hi : isCh (2, 0, j) = false := rfl
    rw [hr]
    unfold rlook nby lookd
    simp only [hi, dOf]
    cases (stp false ab j).2 with
    | true => rfl
    | false => cases nb.2 with
      | true => rfl
      | false => rfl
  · have hr : rd (4, b, j) = (4, b, j) := rfl
    have hi : isCh (4, b, j) = true := rfl
    rw [hr]
    unfold rlook nby lookd
    simp only [hi, dOf]
    cases (stp true ab j).2 with
    | true => rfl
    | false => cases nb.2 with
      | true => rfl
      | false => rfl
theorem chain (v : Nat) (S : Heap) : (if decide ((v : Int) < 2) = true then some (AV.tup [.int .i64 0, .int .i64 0], S) else if decide ((v : Int) < 4) = true then some (AV.tup [.int .i64 1, .int .i64 0], S) else if decide ((v : Int) < 8) = true then some (AV.tup [.int .i64 2, .int .i64 0], S) else some (AV.tup [.int .i64 3, .int .i64 0], S)) = some (AV.tup [.int .i64 ((clsS v : Nat) : Int), .int .i64 0], S) := by
  unfold clsS
  simp only [decide_eq_true_eq]
  by_cases h2 : v < 2
  · rw [if_pos (show (v : Int) < 2 by omega), if_pos h2]; rfl
  · rw [if_neg (show ¬ (v : Int) < 2 by omega), if_neg h2]
    by_cases h4 : v < 4
    · rw [if_pos (show (v : Int) < 4 by omega), if_pos h4]; rfl
    · rw [if_neg (show ¬ (v : Int) < 4 by omega), if_neg h4]
      by_cases h8 : v < 8
      · rw [if_pos (show (v : Int) < 8 by omega), if_pos h8]; rfl
      · rw [if_neg (show ¬ (v : Int) < 8 by omega), if_neg h8]; rfl
theorem nby_ok {m : M} {nb : M × Bool} (hg : Good 1000 m) (hb : Byt m) (gn : Good 1000 nb.1) (bn : Byt nb.1) {ab : Bool} {d : Cd} (hd : CdOk d) (h4 : isCh d = true → d.2.2 < 4) : Good 1000 (nby m nb ab d).1 ∧ Byt (nby m nb ab d).1 ∧ CdOk (nby m nb ab d).2.1 := by
  have hj : (stp (isCh d) ab d.2.2).1 < 16 := by
    cases hch : isCh d with
    | false => exact stp_lt ab _ hd.2.2
    | true => have := stp_lt4 ab _ (h4 hch); omega
  unfold nby
  cases (stp (isCh d) ab d.2.2).2 with
  | true => exact ⟨hg, hb, hd.1, hd.2.1, hj⟩
  | false => exact ⟨gn, bn, hd.1, hd.2.1, hj⟩
theorem rclass_c {B : CallF} (hB : Known B) (k : Nat) {S : Heap} {p q : Nat} {fi w : Int} {ms : List M} (h : Obj S p q fi w ms) (hby : ∀ m ∈ ms, Byt m) {m : M} (hg : Good 1000 m) (hb : Byt m) {c : Cd} (hc : c ∈ m.bls) :
    Cn B (k + 7) f_spindleref15_Class 0 [.ptr p 0, .agg m.cells, .agg (cdC c)] S = some (.tup [.int .i64 (cls m (lf fi w ms) (fa fi ms (fi + ms.length - w)) c : Int), .int .i64 0], S) := by
  rw [c_spindleref15_Class _ _ _ _ _ _ (hB.no _ _ _ _ (by decide)), T_spindleref15_Class]
  have hce : CdEx c := ⟨(mem_bls hc).1, (mem_bls hc).2.1⟩
  have l29 := M.len hg.pre
  have t29 : List.take 29 m.cells = m.cells := M.t29 hg.pre
  have h29 : (29 : Nat) ≤ 29 := by omega
  have h3 : (3 : Nat) ≤ 3 := by omega
  have l3 : ∀ c, (cdC c).length = 3 := fun _ => rfl
  have t3 : ∀ c, List.take 3 (cdC c) = cdC c := fun _ => rfl
  have c3 : ∀ c, (cdC c).all cell = true := fun _ => rfl
  have s3 : ∀ c, setCells [.int .u8 0, .int .u8 0, .int .i64 0] 0 (cdC c) = cdC c := fun _ => rfl
  have s10 : ∀ c, setCells (cdC c) 0 [.int .u8 1, .int .u8 0, .int .i64 0] = cdC (1, 0, 0) := fun _ => rfl
  have g0 : (cdC c)[0]? = some (.int .u8 (c.1 : Int)) := rfl
  have e0 := has_c hB (k + 5) hg hb hc S
  by_cases hc3 : c.1 = 3
  · have h3b : ((c.1 : Int) == 3) = true := by rw [hc3]; rfl
    have hcl : cls m (lf fi w ms) (fa fi ms (fi + ms.length - w)) c = 4 := by unfold cls; rw [if_pos hc3]
    rw [hcl]
    simp only [bO_s, gB_t, asBool_b, asInt_i, asAgg_a, asTup_a, asStr_s, asCons_c, nthA_0, nthA_s, aggCells_a, addV_p, seeV_p, seeV_i, same_nil, tr_same, eql4, neq4, decide_true, decide_false, Bool.false_eq_true, if_false, if_true, Bool.not_true, Bool.not_false, Bool.and_true, Bool.true_and, Bool.and_self, List.getElem?_cons_zero, List.getElem?_cons_succ, Nat.zero_add, Nat.add_zero, beq_self_eq_true, bne_self_eq_false, Int.reduceBNe, Int.reduceBEq, Int.reduceLT, Int.reduceGT, Int.reduceLE, Int.reduceGE, Nat.reduceAdd, Nat.reduceMul, Nat.reduceLeDiff, l29, l3, eql_ptr46, List.drop_zero, t29, h29, t3, h3, e0, g0, h3b]
    rfl
  · have h3b : ((c.1 : Int) == 3) = false := by simp; omega
    have hif : (if ((c.1 : Int) == 0) = true then some (([.ptr p 0, .agg m.cells, .agg (cdC (1, 0, 0))], S) : LSt) else some ([.ptr p 0, .agg m.cells, .agg (cdC c)], S)) = some ([.ptr p 0, .agg m.cells, .agg (cdC (rd c))], S) := by
      unfold rd
      by_cases h0 : c.1 = 0
      · rw [if_pos h0, if_pos (by rw [h0]; rfl)]
      · rw [if_neg h0, if_neg (by simp; omega)]
    have gl := (lf_good (fi := fi) (w := w) h.good).1
    have ga := (fa_good (fi := fi) h.good (fi + ms.length - w)).1
    have bl := lf_byt (fi := fi) (w := w) hby
    have ba := fa_byt (fi := fi) hby (fi + ms.length - w)
    have hdo : CdOk (rd c) := by
      unfold rd
      split
      · exact ⟨by decide, by decide, by decide⟩
      · exact hce.1
    have hd4 : isCh (rd c) = true → (rd c).2.2 < 4 := by
      unfold rd
      split
      · intro h; cases h
      · exact hce.ch
    have hcl : cls m (lf fi w ms) (fa fi ms (fi + ms.length - w)) c = clsN (rlook m (lf fi w ms) false (rd c)) (rlook m (fa fi ms (fi + ms.length - w)) true (rd c)) := by
      unfold cls
      rw [if_neg hc3, rlook_is hce hc3, rlook_is hce hc3]
    rw [hcl]
    have e1 := nearby_c hB k h hg hdo.2.2 hd4 false
    have e2 := nearby_c hB k h hg hdo.2.2 hd4 true
    simp only [Bool.false_eq_true, if_false, if_true] at e1 e2
    obtain ⟨q1, q2, q3⟩ := nby_ok hg hb gl bl (ab := false) hdo hd4
    obtain ⟨r1, r2, r3⟩ := nby_ok hg hb ga ba (ab := true) hdo hd4
    unfold rlook
    generalize nby m (lf fi w ms) false (rd c) = x at e1 q1 q2 q3 ⊢
    generalize nby m (fa fi ms (fi + ms.length - w)) true (rd c) = y at e2 r1 r2 r3 ⊢
    obtain ⟨x, d, bx⟩ := x
    obtain ⟨y, e, bY⟩ := y
    simp only at e1 q1 q2 q3 e2 r1 r2 r3 ⊢
    have f1 := rtotal_c hB (k + 2) q1 q2 q3 S
    have f2 := rtotal_c hB (k + 2) r1 r2 r3 S
    have v1 := tot_le q1 d
    have v2 := tot_le r1 e
    generalize tot x d = n1 at f1 v1 ⊢
    generalize tot y e = n2 at f2 v2 ⊢
    have lx := M.len q1.pre
    have ly := M.len r1.pre
    have tx : List.take 29 x.cells = x.cells := M.t29 q1.pre
    have ty : List.take 29 y.cells = y.cells := M.t29 r1.pre
    have cx := q1.cell
    have cy := r1.cell
    have zx := M.z q1.pre
    have zy := M.z r1.pre
    have w1 : IntKind.wrap .i64 (0 + 1) = 1 := rfl
    have w2 : IntKind.wrap .i64 (1 + 1) = 2 := rfl
    have w3 : IntKind.wrap .i64 (0 + (n1 : Int)) = (n1 : Int) := by rw [wr _ (by omega)]; omega
    have w4 : IntKind.wrap .i64 (0 + (n2 : Int)) = (n2 : Int) := by rw [wr _ (by omega)]; omega
    have w5 : IntKind.wrap .i64 ((n1 : Int) + (n2 : Int)) = ((n1 + n2 : Nat) : Int) := by rw [wr _ (by omega)]; omega
    have w6 : IntKind.wrap .i64 (((n1 + n2 : Nat) : Int) + 1) = ((n1 + n2 : Nat) : Int) + 1 := wr _ (by omega)
    have w7 : IntKind.wrap .i64 (Int.tdiv (((n1 + n2 : Nat) : Int) + 1) 2) = (((n1 + n2 + 1) / 2 : Nat) : Int) := by
      have : Int.tdiv (((n1 + n2 : Nat) : Int) + 1) 2 = (((n1 + n2 + 1) / 2 : Nat) : Int) := by
        rw [Int.tdiv_eq_ediv_of_nonneg (by omega)]; omega
      rw [this, wr _ (by omega)]
    have z0 : (0 : Int) = ((0 : Nat) : Int) := rfl
    have ch0 := chain 0 S
    rw [← z0] at ch0
    simp only [bO_s, gB_t, asBool_b, asInt_i, asAgg_a, asTup_a, asStr_s, asCons_c, nthA_0, nthA_s, aggCells_a, addV_p, seeV_p, seeV_i, same_nil, tr_same, eql4, neq4, decide_true, decide_false, Bool.false_eq_true, if_false, if_true, Bool.not_true, Bool.not_false, Bool.and_true, Bool.true_and, Bool.and_self, List.getElem?_cons_zero, List.getElem?_cons_succ, Nat.zero_add, Nat.add_zero, beq_self_eq_true, bne_self_eq_false, Int.reduceBNe, Int.reduceBEq, Int.reduceLT, Int.reduceGT, Int.reduceLE, Int.reduceGE, Nat.reduceAdd, Nat.reduceMul, Nat.reduceLeDiff, l29, l3, eql_ptr46, List.drop_zero, t29, h29, t3, h3, e0, g0, h3b, c3, s3, s10, hif]
    rw [bloop]
    cases bx with
    | true =>
      simp only [bO_s, gB_t, asBool_b, asInt_i, asAgg_a, asTup_a, asStr_s, asCons_c, nthA_0, nthA_s, aggCells_a, addV_p, seeV_p, seeV_i, same_nil, tr_same, eql4, neq4, decide_true, decide_false, Bool.false_eq_true, if_false, if_true, Bool.not_true, Bool.not_false, Bool.and_true, Bool.true_and, Bool.and_self, List.getElem?_cons_zero, List.getElem?_cons_succ, Nat.zero_add, Nat.add_zero, beq_self_eq_true, bne_self_eq_false, Int.reduceBNe, Int.reduceBEq, Int.reduceLT, Int.reduceGT, Int.reduceLE, Int.reduceGE, Nat.reduceAdd, Nat.reduceMul, Nat.reduceLeDiff, l29, l3, List.drop_zero, t29, h29, t3, h3, e1, lx, cx, c3, zx, s3, tx, f1, w1, w3]
      rw [bloop]
      cases bY with
      | true =>
        simp only [bO_s, gB_t, asBool_b, asInt_i, asAgg_a, asTup_a, asStr_s, asCons_c, nthA_0, nthA_s, aggCells_a, addV_p, seeV_p, seeV_i, same_nil, tr_same, eql4, neq4, decide_true, decide_false, Bool.false_eq_true, if_false, if_true, Bool.not_true, Bool.not_false, Bool.and_true, Bool.true_and, Bool.and_self, List.getElem?_cons_zero, List.getElem?_cons_succ, Nat.zero_add, Nat.add_zero, beq_self_eq_true, bne_self_eq_false, Int.reduceBNe, Int.reduceBEq, Int.reduceLT, Int.reduceGT, Int.reduceLE, Int.reduceGE, Nat.reduceAdd, Nat.reduceMul, Nat.reduceLeDiff, l29, l3, List.drop_zero, t29, h29, t3, h3, e2, ly, cy, c3, zy, s3, ty, f2, w2, w5]
        rw [bloop]
        simp only [bO_s, gB_t, asBool_b, asInt_i, asAgg_a, asTup_a, asStr_s, asCons_c, nthA_0, nthA_s, aggCells_a, addV_p, seeV_p, seeV_i, same_nil, tr_same, eql4, neq4, decide_true, decide_false, Bool.false_eq_true, if_false, if_true, Bool.not_true, Bool.not_false, Bool.and_true, Bool.true_and, Bool.and_self, List.getElem?_cons_zero, List.getElem?_cons_succ, Nat.zero_add, Nat.add_zero, beq_self_eq_true, bne_self_eq_false, Int.reduceBNe, Int.reduceBEq, Int.reduceLT, Int.reduceGT, Int.reduceLE, Int.reduceGE, Nat.reduceAdd, Nat.reduceMul, Nat.reduceLeDiff, sel, w6, w7, chain]
        rfl
      | false =>
        simp only [bO_s, gB_t, asBool_b, asInt_i, asAgg_a, asTup_a, asStr_s, asCons_c, nthA_0, nthA_s, aggCells_a, addV_p, seeV_p, seeV_i, same_nil, tr_same, eql4, neq4, decide_true, decide_false, Bool.false_eq_true, if_false, if_true, Bool.not_true, Bool.not_false, Bool.and_true, Bool.true_and, Bool.and_self, List.getElem?_cons_zero, List.getElem?_cons_succ, Nat.zero_add, Nat.add_zero, beq_self_eq_true, bne_self_eq_false, Int.reduceBNe, Int.reduceBEq, Int.reduceLT, Int.reduceGT, Int.reduceLE, Int.reduceGE, Nat.reduceAdd, Nat.reduceMul, Nat.reduceLeDiff, l29, l3, List.drop_zero, t29, h29, t3, h3, e2, ly, cy, c3, zy, s3, ty, f2, w2, w5]
        rw [bloop]
        simp only [bO_s, gB_t, asBool_b, asInt_i, asAgg_a, asTup_a, asStr_s, asCons_c, nthA_0, nthA_s, aggCells_a, addV_p, seeV_p, seeV_i, same_nil, tr_same, eql4, neq4, decide_true, decide_false, Bool.false_eq_true, if_false, if_true, Bool.not_true, Bool.not_false, Bool.and_true, Bool.true_and, Bool.and_self, List.getElem?_cons_zero, List.getElem?_cons_succ, Nat.zero_add, Nat.add_zero, beq_self_eq_true, bne_self_eq_false, Int.reduceBNe, Int.reduceBEq, Int.reduceLT, Int.reduceGT, Int.reduceLE, Int.reduceGE, Nat.reduceAdd, Nat.reduceMul, Nat.reduceLeDiff, sel, w6, w7, chain]
        rfl
    | false =>
      simp only [bO_s, gB_t, asBool_b, asInt_i, asAgg_a, asTup_a, asStr_s, asCons_c, nthA_0, nthA_s, aggCells_a, addV_p, seeV_p, seeV_i, same_nil, tr_same, eql4, neq4, decide_true, decide_false, Bool.false_eq_true, if_false, if_true, Bool.not_true, Bool.not_false, Bool.and_true, Bool.true_and, Bool.and_self, List.getElem?_cons_zero, List.getElem?_cons_succ, Nat.zero_add, Nat.add_zero, beq_self_eq_true, bne_self_eq_false, Int.reduceBNe, Int.reduceBEq, Int.reduceLT, Int.reduceGT, Int.reduceLE, Int.reduceGE, Nat.reduceAdd, Nat.reduceMul, Nat.reduceLeDiff, l29, l3, List.drop_zero, t29, h29, t3, h3, e1, lx, cx, c3, zx, s3, tx, f1, w1, w3]
      rw [bloop]
      cases bY with
      | true =>
        simp only [bO_s, gB_t, asBool_b, asInt_i, asAgg_a, asTup_a, asStr_s, asCons_c, nthA_0, nthA_s, aggCells_a, addV_p, seeV_p, seeV_i, same_nil, tr_same, eql4, neq4, decide_true, decide_false, Bool.false_eq_true, if_false, if_true, Bool.not_true, Bool.not_false, Bool.and_true, Bool.true_and, Bool.and_self, List.getElem?_cons_zero, List.getElem?_cons_succ, Nat.zero_add, Nat.add_zero, beq_self_eq_true, bne_self_eq_false, Int.reduceBNe, Int.reduceBEq, Int.reduceLT, Int.reduceGT, Int.reduceLE, Int.reduceGE, Nat.reduceAdd, Nat.reduceMul, Nat.reduceLeDiff, l29, l3, List.drop_zero, t29, h29, t3, h3, e2, ly, cy, c3, zy, s3, ty, f2, w1, w2, w4]
        rw [bloop]
        simp only [bO_s, gB_t, asBool_b, asInt_i, asAgg_a, asTup_a, asStr_s, asCons_c, nthA_0, nthA_s, aggCells_a, addV_p, seeV_p, seeV_i, same_nil, tr_same, eql4, neq4, decide_true, decide_false, Bool.false_eq_true, if_false, if_true, Bool.not_true, Bool.not_false, Bool.and_true, Bool.true_and, Bool.and_self, List.getElem?_cons_zero, List.getElem?_cons_succ, Nat.zero_add, Nat.add_zero, beq_self_eq_true, bne_self_eq_false, Int.reduceBNe, Int.reduceBEq, Int.reduceLT, Int.reduceGT, Int.reduceLE, Int.reduceGE, Nat.reduceAdd, Nat.reduceMul, Nat.reduceLeDiff, sel, w6, w7, chain]
        simp only [clsN, thr, sm, onO, Option.getD_none, Option.getD_some, Nat.zero_add]
        rfl
      | false =>
        simp only [bO_s, gB_t, asBool_b, asInt_i, asAgg_a, asTup_a, asStr_s, asCons_c, nthA_0, nthA_s, aggCells_a, addV_p, seeV_p, seeV_i, same_nil, tr_same, eql4, neq4, decide_true, decide_false, Bool.false_eq_true, if_false, if_true, Bool.not_true, Bool.not_false, Bool.and_true, Bool.true_and, Bool.and_self, List.getElem?_cons_zero, List.getElem?_cons_succ, Nat.zero_add, Nat.add_zero, beq_self_eq_true, bne_self_eq_false, Int.reduceBNe, Int.reduceBEq, Int.reduceLT, Int.reduceGT, Int.reduceLE, Int.reduceGE, Nat.reduceAdd, Nat.reduceMul, Nat.reduceLeDiff, l29, l3, List.drop_zero, t29, h29, t3, h3, e2, ly, cy, c3, zy, s3, ty, f2, w2, w5]
        rw [bloop]
        simp only [bO_s, gB_t, asBool_b, asInt_i, asAgg_a, asTup_a, asStr_s, asCons_c, nthA_0, nthA_s, aggCells_a, addV_p, seeV_p, seeV_i, same_nil, tr_same, eql4, neq4, decide_true, decide_false, Bool.false_eq_true, if_false, if_true, Bool.not_true, Bool.not_false, Bool.and_true, Bool.true_and, Bool.and_self, List.getElem?_cons_zero, List.getElem?_cons_succ, Nat.zero_add, Nat.add_zero, beq_self_eq_true, bne_self_eq_false, Int.reduceBNe, Int.reduceBEq, Int.reduceLT, Int.reduceGT, Int.reduceLE, Int.reduceGE, Nat.reduceAdd, Nat.reduceMul, Nat.reduceLeDiff, sel, w6, w7, ch0]
        rfl
end Go.Ab.tNearU
