/- The statement KindsRects, whatever the arguments. -/
import Derived.Test.YtomnllhlclpdjaaDoorKN
import Derived.Test.YtomnllhlclpdjaaDoorKR0
import Derived.Test.YtomnllhlclpdjaaDoorKR1
import Derived.Test.YtomnllhlclpdjaaDoorKR2
import Derived.Test.YtomnllhlclpdjaaDoorKR3
set_option maxRecDepth 100000
set_option linter.unusedSimpArgs false
set_option linter.unusedVariables false
set_option linter.unusedSectionVars false
namespace Go.Ab.tK
open Go Go.Proofs

-- rectangles
theorem cx_mod (x n : Int) (hn : 0 < n ∧ n ≤ 16) (S : Heap) : Cx f_spindlelaw12_mod 0 [.int .i64 x, .int .i64 n] S = some (.int .i64 (Int.tmod (Int.tmod x n + n) n), S) := by
  have e : Cx f_spindlelaw12_mod 0 [.int .i64 x, .int .i64 n] S = T_spindlelaw12_mod (ctlF 300) Gk (tabB (rows (ctlF 300)) (orC fn2 B1) 38) (.int .i64 x) (.int .i64 n) S := by kernel_rfl
  rw [e, T_spindlelaw12_mod]
  have h0 : ¬ n = 0 := by omega
  have r : ∀ x, aInt .rem .i64 x n = some (.int .i64 (Int.tmod x n)) := fun x => by simp [aInt, h0]
  have hb : -n < Int.tmod x n ∧ Int.tmod x n < n := by
    have h1 := Int.tmod_lt_of_pos x hn.1
    have h2 := Int.tmod_lt_of_pos (-x) hn.1
    rw [Int.neg_tmod] at h2
    exact ⟨by omega, h1⟩
  have w : IntKind.wrap .i64 (Int.tmod x n + n) = Int.tmod x n + n := wr _ (by omega)
  simp only [eql_b4, neq_b4, len_nils24, len_is24, len_hs24, len_nils25, len_is25, len_hs25, len_nils26, len_is26, len_hs26, len_nils51, len_is51, len_hs51, len_nils54, len_is54, len_hs54, len_nils57, len_is57, len_hs57, bO_s, gB_t, asBool_b, asInt_i, asAgg_a, asTup_a, asStr_s, asCons_c, asNil_n, nthA_0, nthA_s, aggCells_a, addV_p, addV_i, seeV_p, seeV_i, same_nil, same_1, same_2, tr_v, decide_true, decide_false, Bool.false_eq_true, if_false, if_true, Bool.not_true, Bool.not_false, Bool.and_true, Bool.true_and, Bool.and_self, List.getElem?_cons_zero, List.getElem?_cons_succ, Nat.zero_add, Nat.add_zero, beq_self_eq_true, bne_self_eq_false, Int.reduceBNe, Int.reduceBEq, Int.reduceLT, Int.reduceGT, Int.reduceLE, Int.reduceGE, Nat.reduceAdd, Nat.reduceMul, Nat.reduceLeDiff, r, w]
  rfl
theorem fn2_parts {a b c d : Nat} (ha : a < 4) (hb : b < 4) (hc : c < 4) (hd : d < 4) (S : Heap) : fn2 f_kinds_parts 0 [.int .u8 6, subs a b c d] S = some (partsV a b c d, S) := by
  have h : ofSubs [.int .u8 6, subs a b c d] = some (a, b, c, d) := by
    show (match Nat.blt a 4 && Nat.blt b 4 && Nat.blt c 4 && Nat.blt d 4 with | true => some (a, b, c, d) | false => none) = some (a, b, c, d)
    have h1 : Nat.blt a 4 = true := by simpa [Nat.blt_eq] using ha
    have h2 : Nat.blt b 4 = true := by simpa [Nat.blt_eq] using hb
    have h3 : Nat.blt c 4 = true := by simpa [Nat.blt_eq] using hc
    have h4 : Nat.blt d 4 = true := by simpa [Nat.blt_eq] using hd
    rw [h1, h2, h3, h4]; rfl
  show (match ofSubs [.int .u8 6, subs a b c d] with | some x => some (partsV x.1 x.2.1 x.2.2.1 x.2.2.2, S) | none => none) = _
  rw [h]
theorem cx_pieces {a b c d : Nat} (ha : a < 4) (hb : b < 4) (hc : c < 4) (hd : d < 4) (S : Heap) : Cx f_kinds_Pieces 0 [.int .u8 6, subs a b c d] S = some (.tup [.int .i64 (num a b c d), .int .i64 0], S) := by
  have e : Cx f_kinds_Pieces 0 [.int .u8 6, subs a b c d] S = T_kinds_Pieces (ctlF 300) Gk (tabB (rows (ctlF 300)) (orC fn2 B1) 38) (.int .u8 6) (subs a b c d) S := by kernel_rfl
  have hq : tabB (rows (ctlF 300)) (orC fn2 B1) 38 f_kinds_parts 0 [.int .u8 6, subs a b c d] S = some (partsV a b c d, S) := by
    show (match orC fn2 B1 f_kinds_parts 0 [.int .u8 6, subs a b c d] S with | some r => some r | none => _) = _
    have : orC fn2 B1 f_kinds_parts 0 [.int .u8 6, subs a b c d] S = some (partsV a b c d, S) := by
      unfold orC
      rw [fn2_parts ha hb hc hd]
    rw [this]
  rw [e, T_kinds_Pieces]
  unfold subs at hq ⊢
  unfold partsV at hq
  have hle : (4 : Nat) ≤ 4 := by omega
  have t4 : List.take 4 (List.drop 0 ([.int .u8 (Int.ofNat a), .int .u8 (Int.ofNat b), .int .u8 (Int.ofNat c), .int .u8 (Int.ofNat d)] : List AV)) = [.int .u8 (Int.ofNat a), .int .u8 (Int.ofNat b), .int .u8 (Int.ofNat c), .int .u8 (Int.ofNat d)] := rfl
  simp only [eql_b4, neq_b4, len_nils24, len_is24, len_hs24, len_nils25, len_is25, len_hs25, len_nils26, len_is26, len_hs26, len_nils51, len_is51, len_hs51, len_nils54, len_is54, len_hs54, len_nils57, len_is57, len_hs57, bO_s, gB_t, asBool_b, asInt_i, asAgg_a, asTup_a, asStr_s, asCons_c, asNil_n, nthA_0, nthA_s, aggCells_a, addV_p, addV_i, seeV_p, seeV_i, same_nil, same_1, same_2, tr_v, decide_true, decide_false, Bool.false_eq_true, if_false, if_true, Bool.not_true, Bool.not_false, Bool.and_true, Bool.true_and, Bool.and_self, List.getElem?_cons_zero, List.getElem?_cons_succ, Nat.zero_add, Nat.add_zero, beq_self_eq_true, bne_self_eq_false, Int.reduceBNe, Int.reduceBEq, Int.reduceLT, Int.reduceGT, Int.reduceLE, Int.reduceGE, Nat.reduceAdd, Nat.reduceMul, Nat.reduceLeDiff, ln4, hle, t4, hq]
  rfl
theorem tmod2 {m n : Int} (h : 0 ≤ m ∧ m < n) : Int.tmod (Int.tmod m n + n) n = m := by
  obtain ⟨m, rfl⟩ := Int.eq_ofNat_of_zero_le h.1
  obtain ⟨n, rfl⟩ := Int.eq_ofNat_of_zero_le (show 0 ≤ n by omega)
  show Int.ofNat ((m % n + n) % n) = m
  rw [Nat.add_mod_right, Nat.mod_mod, Nat.mod_eq_of_lt (by omega)]; rfl
theorem tmod_in {x n : Int} (h : 0 < n) : 0 ≤ Int.tmod (Int.tmod x n + n) n ∧ Int.tmod (Int.tmod x n + n) n < n := by
  have h2 := Int.tmod_lt_of_pos (-x) h
  rw [Int.neg_tmod] at h2
  exact ⟨Int.tmod_nonneg _ (by omega), Int.tmod_lt_of_pos _ h⟩
theorem rect_mod (kind : Int) (a b c d : Nat) (part n : Int) (S : Heap) (hn : 0 < n ∧ n ≤ 16) (hP : Cx f_kinds_Pieces 0 [.int .u8 kind, subs (a % 4) (b % 4) (c % 4) (d % 4)] S = some (.tup [.int .i64 n, .int .i64 0], S)) :
    T_spindlelaw12_KindsRects (ctlF 300) Gk Cx (.int .u8 kind) (subs a b c d) (.int .i64 part) S = T_spindlelaw12_KindsRects (ctlF 300) Gk Cx (.int .u8 kind) (subs (a % 4) (b % 4) (c % 4) (d % 4)) (.int .i64 (Int.tmod (Int.tmod part n + n) n)) S := by
  have i1 : (1 : Int) < ((4 : Nat) : Int) := by omega
  have i2 : (2 : Int) < ((4 : Nat) : Int) := by omega
  have i3 : (3 : Int) < ((4 : Nat) : Int) := by omega
  have i0 : (0 : Int) < ((4 : Nat) : Int) := by omega
  have hle : (4 : Nat) ≤ 4 := by omega
  have n1 : ¬ n < 1 := by omega
  have m1 := cx_mod part n hn S
  have m2 := cx_mod (Int.tmod (Int.tmod part n + n) n) n hn S
  rw [tmod2 (tmod_in hn.1)] at m2
  obtain ⟨m, hm⟩ : ∃ m, m = Int.tmod (Int.tmod part n + n) n := ⟨_, rfl⟩
  rw [← hm] at m1 m2 ⊢
  have t4 : ∀ x y z w : AV, List.take 4 (List.drop 0 [x, y, z, w]) = [x, y, z, w] := fun _ _ _ _ => rfl
  unfold T_spindlelaw12_KindsRects
  unfold subs at hP ⊢
  rw [lp]
  simp only [eql_b4, neq_b4, len_nils24, len_is24, len_hs24, len_nils25, len_is25, len_hs25, len_nils26, len_is26, len_hs26, len_nils51, len_is51, len_hs51, len_nils54, len_is54, len_hs54, len_nils57, len_is57, len_hs57, bO_s, gB_t, asBool_b, asInt_i, asAgg_a, asTup_a, asStr_s, asCons_c, asNil_n, nthA_0, nthA_s, aggCells_a, addV_p, addV_i, seeV_p, seeV_i, same_nil, same_1, same_2, tr_v, decide_true, decide_false, Bool.false_eq_true, if_false, if_true, Bool.not_true, Bool.not_false, Bool.and_true, Bool.true_and, Bool.and_self, List.getElem?_cons_zero, List.getElem?_cons_succ, Nat.zero_add, Nat.add_zero, beq_self_eq_true, bne_self_eq_false, Int.reduceBNe, Int.reduceBEq, Int.reduceLT, Int.reduceGT, Int.reduceLE, Int.reduceGE, Nat.reduceAdd, Nat.reduceMul, Nat.reduceLeDiff, ln4]
  rw [bloopF]
  simp only [eql_b4, neq_b4, len_nils24, len_is24, len_hs24, len_nils25, len_is25, len_hs25, len_nils26, len_is26, len_hs26, len_nils51, len_is51, len_hs51, len_nils54, len_is54, len_hs54, len_nils57, len_is57, len_hs57, bO_s, gB_t, asBool_b, asInt_i, asAgg_a, asTup_a, asStr_s, asCons_c, asNil_n, nthA_0, nthA_s, aggCells_a, addV_p, addV_i, seeV_p, seeV_i, same_nil, same_1, same_2, tr_v, decide_true, decide_false, Bool.false_eq_true, if_false, if_true, Bool.not_true, Bool.not_false, Bool.and_true, Bool.true_and, Bool.and_self, List.getElem?_cons_zero, List.getElem?_cons_succ, Nat.zero_add, Nat.add_zero, beq_self_eq_true, bne_self_eq_false, Int.reduceBNe, Int.reduceBEq, Int.reduceLT, Int.reduceGT, Int.reduceLE, Int.reduceGE, Nat.reduceAdd, Nat.reduceMul, Nat.reduceLeDiff, i0, tn0, gt0, ln4, st0, w01]
  rw [bloopF]
  simp only [eql_b4, neq_b4, len_nils24, len_is24, len_hs24, len_nils25, len_is25, len_hs25, len_nils26, len_is26, len_hs26, len_nils51, len_is51, len_hs51, len_nils54, len_is54, len_hs54, len_nils57, len_is57, len_hs57, bO_s, gB_t, asBool_b, asInt_i, asAgg_a, asTup_a, asStr_s, asCons_c, asNil_n, nthA_0, nthA_s, aggCells_a, addV_p, addV_i, seeV_p, seeV_i, same_nil, same_1, same_2, tr_v, decide_true, decide_false, Bool.false_eq_true, if_false, if_true, Bool.not_true, Bool.not_false, Bool.and_true, Bool.true_and, Bool.and_self, List.getElem?_cons_zero, List.getElem?_cons_succ, Nat.zero_add, Nat.add_zero, beq_self_eq_true, bne_self_eq_false, Int.reduceBNe, Int.reduceBEq, Int.reduceLT, Int.reduceGT, Int.reduceLE, Int.reduceGE, Nat.reduceAdd, Nat.reduceMul, Nat.reduceLeDiff, i1, tn1, gt1, ln4, st1, w12]
  rw [bloopF]
  simp only [eql_b4, neq_b4, len_nils24, len_is24, len_hs24, len_nils25, len_is25, len_hs25, len_nils26, len_is26, len_hs26, len_nils51, len_is51, len_hs51, len_nils54, len_is54, len_hs54, len_nils57, len_is57, len_hs57, bO_s, gB_t, asBool_b, asInt_i, asAgg_a, asTup_a, asStr_s, asCons_c, asNil_n, nthA_0, nthA_s, aggCells_a, addV_p, addV_i, seeV_p, seeV_i, same_nil, same_1, same_2, tr_v, decide_true, decide_false, Bool.false_eq_true, if_false, if_true, Bool.not_true, Bool.not_false, Bool.and_true, Bool.true_and, Bool.and_self, List.getElem?_cons_zero, List.getElem?_cons_succ, Nat.zero_add, Nat.add_zero, beq_self_eq_true, bne_self_eq_false, Int.reduceBNe, Int.reduceBEq, Int.reduceLT, Int.reduceGT, Int.reduceLE, Int.reduceGE, Nat.reduceAdd, Nat.reduceMul, Nat.reduceLeDiff, i2, tn2, gt2, ln4, st2, w23]
  rw [bloopF]
  simp only [eql_b4, neq_b4, len_nils24, len_is24, len_hs24, len_nils25, len_is25, len_hs25, len_nils26, len_is26, len_hs26, len_nils51, len_is51, len_hs51, len_nils54, len_is54, len_hs54, len_nils57, len_is57, len_hs57, bO_s, gB_t, asBool_b, asInt_i, asAgg_a, asTup_a, asStr_s, asCons_c, asNil_n, nthA_0, nthA_s, aggCells_a, addV_p, addV_i, seeV_p, seeV_i, same_nil, same_1, same_2, tr_v, decide_true, decide_false, Bool.false_eq_true, if_false, if_true, Bool.not_true, Bool.not_false, Bool.and_true, Bool.true_and, Bool.and_self, List.getElem?_cons_zero, List.getElem?_cons_succ, Nat.zero_add, Nat.add_zero, beq_self_eq_true, bne_self_eq_false, Int.reduceBNe, Int.reduceBEq, Int.reduceLT, Int.reduceGT, Int.reduceLE, Int.reduceGE, Nat.reduceAdd, Nat.reduceMul, Nat.reduceLeDiff, i3, tn3, gt3, ln4, st3, w34]
  rw [bloopF]
  simp only [eql_b4, neq_b4, len_nils24, len_is24, len_hs24, len_nils25, len_is25, len_hs25, len_nils26, len_is26, len_hs26, len_nils51, len_is51, len_hs51, len_nils54, len_is54, len_hs54, len_nils57, len_is57, len_hs57, bO_s, gB_t, asBool_b, asInt_i, asAgg_a, asTup_a, asStr_s, asCons_c, asNil_n, nthA_0, nthA_s, aggCells_a, addV_p, addV_i, seeV_p, seeV_i, same_nil, same_1, same_2, tr_v, decide_true, decide_false, Bool.false_eq_true, if_false, if_true, Bool.not_true, Bool.not_false, Bool.and_true, Bool.true_and, Bool.and_self, List.getElem?_cons_zero, List.getElem?_cons_succ, Nat.zero_add, Nat.add_zero, beq_self_eq_true, bne_self_eq_false, Int.reduceBNe, Int.reduceBEq, Int.reduceLT, Int.reduceGT, Int.reduceLE, Int.reduceGE, Nat.reduceAdd, Nat.reduceMul, Nat.reduceLeDiff, sel, ln4, hle, t4, tm4, hP, n1, m1]
  conv => rhs; rw [bloopF]
  simp only [eql_b4, neq_b4, len_nils24, len_is24, len_hs24, len_nils25, len_is25, len_hs25, len_nils26, len_is26, len_hs26, len_nils51, len_is51, len_hs51, len_nils54, len_is54, len_hs54, len_nils57, len_is57, len_hs57, bO_s, gB_t, asBool_b, asInt_i, asAgg_a, asTup_a, asStr_s, asCons_c, asNil_n, nthA_0, nthA_s, aggCells_a, addV_p, addV_i, seeV_p, seeV_i, same_nil, same_1, same_2, tr_v, decide_true, decide_false, Bool.false_eq_true, if_false, if_true, Bool.not_true, Bool.not_false, Bool.and_true, Bool.true_and, Bool.and_self, List.getElem?_cons_zero, List.getElem?_cons_succ, Nat.zero_add, Nat.add_zero, beq_self_eq_true, bne_self_eq_false, Int.reduceBNe, Int.reduceBEq, Int.reduceLT, Int.reduceGT, Int.reduceLE, Int.reduceGE, Nat.reduceAdd, Nat.reduceMul, Nat.reduceLeDiff, i0, tn0, gt0, ln4, st0, w01]
  conv => rhs; rw [bloopF]
  simp only [eql_b4, neq_b4, len_nils24, len_is24, len_hs24, len_nils25, len_is25, len_hs25, len_nils26, len_is26, len_hs26, len_nils51, len_is51, len_hs51, len_nils54, len_is54, len_hs54, len_nils57, len_is57, len_hs57, bO_s, gB_t, asBool_b, asInt_i, asAgg_a, asTup_a, asStr_s, asCons_c, asNil_n, nthA_0, nthA_s, aggCells_a, addV_p, addV_i, seeV_p, seeV_i, same_nil, same_1, same_2, tr_v, decide_true, decide_false, Bool.false_eq_true, if_false, if_true, Bool.not_true, Bool.not_false, Bool.and_true, Bool.true_and, Bool.and_self, List.getElem?_cons_zero, List.getElem?_cons_succ, Nat.zero_add, Nat.add_zero, beq_self_eq_true, bne_self_eq_false, Int.reduceBNe, Int.reduceBEq, Int.reduceLT, Int.reduceGT, Int.reduceLE, Int.reduceGE, Nat.reduceAdd, Nat.reduceMul, Nat.reduceLeDiff, i1, tn1, gt1, ln4, st1, w12]
  conv => rhs; rw [bloopF]
  simp only [eql_b4, neq_b4, len_nils24, len_is24, len_hs24, len_nils25, len_is25, len_hs25, len_nils26, len_is26, len_hs26, len_nils51, len_is51, len_hs51, len_nils54, len_is54, len_hs54, len_nils57, len_is57, len_hs57, bO_s, gB_t, asBool_b, asInt_i, asAgg_a, asTup_a, asStr_s, asCons_c, asNil_n, nthA_0, nthA_s, aggCells_a, addV_p, addV_i, seeV_p, seeV_i, same_nil, same_1, same_2, tr_v, decide_true, decide_false, Bool.false_eq_true, if_false, if_true, Bool.not_true, Bool.not_false, Bool.and_true, Bool.true_and, Bool.and_self, List.getElem?_cons_zero, List.getElem?_cons_succ, Nat.zero_add, Nat.add_zero, beq_self_eq_true, bne_self_eq_false, Int.reduceBNe, Int.reduceBEq, Int.reduceLT, Int.reduceGT, Int.reduceLE, Int.reduceGE, Nat.reduceAdd, Nat.reduceMul, Nat.reduceLeDiff, i2, tn2, gt2, ln4, st2, w23]
  conv => rhs; rw [bloopF]
  simp only [eql_b4, neq_b4, len_nils24, len_is24, len_hs24, len_nils25, len_is25, len_hs25, len_nils26, len_is26, len_hs26, len_nils51, len_is51, len_hs51, len_nils54, len_is54, len_hs54, len_nils57, len_is57, len_hs57, bO_s, gB_t, asBool_b, asInt_i, asAgg_a, asTup_a, asStr_s, asCons_c, asNil_n, nthA_0, nthA_s, aggCells_a, addV_p, addV_i, seeV_p, seeV_i, same_nil, same_1, same_2, tr_v, decide_true, decide_false, Bool.false_eq_true, if_false, if_true, Bool.not_true, Bool.not_false, Bool.and_true, Bool.true_and, Bool.and_self, List.getElem?_cons_zero, List.getElem?_cons_succ, Nat.zero_add, Nat.add_zero, beq_self_eq_true, bne_self_eq_false, Int.reduceBNe, Int.reduceBEq, Int.reduceLT, Int.reduceGT, Int.reduceLE, Int.reduceGE, Nat.reduceAdd, Nat.reduceMul, Nat.reduceLeDiff, i3, tn3, gt3, ln4, st3, w34]
  conv => rhs; rw [bloopF]
  simp only [eql_b4, neq_b4, len_nils24, len_is24, len_hs24, len_nils25, len_is25, len_hs25, len_nils26, len_is26, len_hs26, len_nils51, len_is51, len_hs51, len_nils54, len_is54, len_hs54, len_nils57, len_is57, len_hs57, bO_s, gB_t, asBool_b, asInt_i, asAgg_a, asTup_a, asStr_s, asCons_c, asNil_n, nthA_0, nthA_s, aggCells_a, addV_p, addV_i, seeV_p, seeV_i, same_nil, same_1, same_2, tr_v, decide_true, decide_false, Bool.false_eq_true, if_false, if_true, Bool.not_true, Bool.not_false, Bool.and_true, Bool.true_and, Bool.and_self, List.getElem?_cons_zero, List.getElem?_cons_succ, Nat.zero_add, Nat.add_zero, beq_self_eq_true, bne_self_eq_false, Int.reduceBNe, Int.reduceBEq, Int.reduceLT, Int.reduceGT, Int.reduceLE, Int.reduceGE, Nat.reduceAdd, Nat.reduceMul, Nat.reduceLeDiff, sel, ln4, hle, t4, tm4, Nat.mod_mod, hP, n1, m2]
theorem c2_rect (kind : Int) (a b c d : Nat) (part : Int) (S : Heap) : C2 f_spindlelaw12_KindsRects 0 [.int .u8 kind, subs a b c d, .int .i64 part] S = T_spindlelaw12_KindsRects (ctlF 300) Gk Cx (.int .u8 kind) (subs a b c d) (.int .i64 part) S := by kernel_rfl
theorem rect_other (a b c d : Nat) (p : Int) : ((List.range 256).all fun k => (Nat.ble 3 k && Nat.ble k 6) || isT (C2 f_spindlelaw12_KindsRects 0 [.int .u8 (Int.ofNat k), subs a b c d, .int .i64 p] S0)) = true := by kernel_rfl
theorem rc3 (a b c d : Nat) : isT (C2 f_spindlelaw12_KindsRects 0 [.int .u8 3, subs a b c d, .int .i64 0] S0) = true := by kernel_rfl
theorem rc4 (a b c d : Nat) : isT (C2 f_spindlelaw12_KindsRects 0 [.int .u8 4, subs a b c d, .int .i64 0] S0) = true := by kernel_rfl
theorem rc41 (a b c d : Nat) : isT (C2 f_spindlelaw12_KindsRects 0 [.int .u8 4, subs a b c d, .int .i64 1] S0) = true := by kernel_rfl
theorem rc5 (a b c d : Nat) : isT (C2 f_spindlelaw12_KindsRects 0 [.int .u8 5, subs a b c d, .int .i64 0] S0) = true := by kernel_rfl
theorem rc51 (a b c d : Nat) : isT (C2 f_spindlelaw12_KindsRects 0 [.int .u8 5, subs a b c d, .int .i64 1] S0) = true := by kernel_rfl
theorem pc3 (a b c d : Nat) (S : Heap) : Cx f_kinds_Pieces 0 [.int .u8 3, subs a b c d] S = some (.tup [.int .i64 1, .int .i64 0], S) := by kernel_rfl
theorem pc4 (a b c d : Nat) (S : Heap) : Cx f_kinds_Pieces 0 [.int .u8 4, subs a b c d] S = some (.tup [.int .i64 2, .int .i64 0], S) := by kernel_rfl
theorem pc5 (a b c d : Nat) (S : Heap) : Cx f_kinds_Pieces 0 [.int .u8 5, subs a b c d] S = some (.tup [.int .i64 2, .int .i64 0], S) := by kernel_rfl
theorem rc6 {a b c d : Nat} (ha : a < 4) (hb : b < 4) (hc : c < 4) (hd : d < 4) {p : Nat} (hp : p < num a b c d) : isT (C2 f_spindlelaw12_KindsRects 0 [.int .u8 6, subs a b c d, iN p] S0) = true := by
  have h : (four fun a => four fun b => four fun c => four fun d => (List.range (num a b c d)).all fun p => isT (C2 f_spindlelaw12_KindsRects 0 [.int .u8 6, subs a b c d, iN p] S0)) = true :=
    four_of (four_of kr_00 kr_01 kr_02 kr_03) (four_of kr_10 kr_11 kr_12 kr_13) (four_of kr_20 kr_21 kr_22 kr_23) (four_of kr_30 kr_31 kr_32 kr_33)
  exact List.all_eq_true.1 (four_lt (four_lt (four_lt (four_lt h ha) hb) hc) hd) p (List.mem_range.2 hp)
theorem num_in {a b c d : Nat} : 4 ≤ num a b c d ∧ num a b c d ≤ 16 := by
  have h : ∀ s, 1 ≤ (qR s).length ∧ (qR s).length ≤ 4 := fun s => by
    match s with
    | 0 => exact ⟨by decide, by decide⟩
    | 1 => exact ⟨by decide, by decide⟩
    | 2 => exact ⟨by decide, by decide⟩
    | s + 3 => exact ⟨(by show 1 ≤ 4; omega), (by show 4 ≤ 4; omega)⟩
  have := h a; have := h b; have := h c; have := h d
  unfold num; omega
theorem rects_law {kind a b c d : Nat} (hk : kind ≤ 255) {part : Int} : ∃ S', C2 f_spindlelaw12_KindsRects 0 [.int .u8 (kind : Int), subs a b c d, .int .i64 part] S0 = some (.bool true, S') := by
  by_cases hr : 3 ≤ kind ∧ kind ≤ 6
  · have h4 : ∀ x : Nat, x % 4 < 4 := fun x => Nat.mod_lt x (by omega)
    have : kind = 3 ∨ kind = 4 ∨ kind = 5 ∨ kind = 6 := by omega
    rcases this with rfl | rfl | rfl | rfl
    · obtain ⟨S', hS⟩ := isT_of (rc3 (a % 4) (b % 4) (c % 4) (d % 4))
      refine ⟨S', ?_⟩
      have hm := tmod_in (x := part) (n := 1) (by omega)
      have e := rect_mod 3 a b c d part 1 S0 ⟨by omega, by omega⟩ (pc3 _ _ _ _ _)
      rw [show Int.tmod (Int.tmod part 1 + 1) 1 = 0 by omega] at e
      exact (c2_rect 3 a b c d part S0).trans (e.trans ((c2_rect 3 _ _ _ _ 0 S0).symm.trans hS))
    · have hm := tmod_in (x := part) (n := 2) (by omega)
      have e := rect_mod 4 a b c d part 2 S0 ⟨by omega, by omega⟩ (pc4 _ _ _ _ _)
      have : Int.tmod (Int.tmod part 2 + 2) 2 = 0 ∨ Int.tmod (Int.tmod part 2 + 2) 2 = 1 := by omega
      rcases this with h | h
      · obtain ⟨S', hS⟩ := isT_of (rc4 (a % 4) (b % 4) (c % 4) (d % 4))
        rw [h] at e
        exact ⟨S', (c2_rect 4 a b c d part S0).trans (e.trans ((c2_rect 4 _ _ _ _ 0 S0).symm.trans hS))⟩
      · obtain ⟨S', hS⟩ := isT_of (rc41 (a % 4) (b % 4) (c % 4) (d % 4))
        rw [h] at e
        exact ⟨S', (c2_rect 4 a b c d part S0).trans (e.trans ((c2_rect 4 _ _ _ _ 1 S0).symm.trans hS))⟩
    · have hm := tmod_in (x := part) (n := 2) (by omega)
      have e := rect_mod 5 a b c d part 2 S0 ⟨by omega, by omega⟩ (pc5 _ _ _ _ _)
      have : Int.tmod (Int.tmod part 2 + 2) 2 = 0 ∨ Int.tmod (Int.tmod part 2 + 2) 2 = 1 := by omega
      rcases this with h | h
      · obtain ⟨S', hS⟩ := isT_of (rc5 (a % 4) (b % 4) (c % 4) (d % 4))
        rw [h] at e
        exact ⟨S', (c2_rect 5 a b c d part S0).trans (e.trans ((c2_rect 5 _ _ _ _ 0 S0).symm.trans hS))⟩
      · obtain ⟨S', hS⟩ := isT_of (rc51 (a % 4) (b % 4) (c % 4) (d % 4))
        rw [h] at e
        exact ⟨S', (c2_rect 5 a b c d part S0).trans (e.trans ((c2_rect 5 _ _ _ _ 1 S0).symm.trans hS))⟩
    · have hn := num_in (a := a % 4) (b := b % 4) (c := c % 4) (d := d % 4)
      have hm := tmod_in (x := part) (n := (num (a % 4) (b % 4) (c % 4) (d % 4) : Int)) (by omega)
      have e := rect_mod 6 a b c d part (num (a % 4) (b % 4) (c % 4) (d % 4) : Int) S0 ⟨by omega, by omega⟩ (cx_pieces (h4 _) (h4 _) (h4 _) (h4 _) _)
      obtain ⟨p, hp⟩ := Int.eq_ofNat_of_zero_le hm.1
      obtain ⟨S', hS⟩ := isT_of (rc6 (h4 a) (h4 b) (h4 c) (h4 d) (p := p) (by omega))
      rw [hp] at e
      exact ⟨S', (c2_rect 6 a b c d part S0).trans (e.trans ((c2_rect 6 _ _ _ _ (p : Int) S0).symm.trans hS))⟩
  · have h := List.all_eq_true.1 (rect_other a b c d part) kind (List.mem_range.2 (by omega))
    have hf : (Nat.ble 3 kind && Nat.ble kind 6) = false := by
      cases hb : (Nat.ble 3 kind && Nat.ble kind 6) with
      | false => rfl
      | true =>
        simp only [Bool.and_eq_true] at hb
        exact absurd ⟨Nat.le_of_ble_eq_true hb.1, Nat.le_of_ble_eq_true hb.2⟩ hr
    rw [hf, Bool.false_or] at h
    exact isT_of h
theorem kindsRects_law (xs : List AV) (h : argsOk Tryd.prog maxLen 16 Tryd.f8.params.toList xs) : ∃ (C : CallF) (S' : Heap), NOk Tryd.prog Gk C ∧ C 8 0 xs S0 = some (.bool true, S') := by
  rw [Tryd.params8] at h
  obtain ⟨a, r, rfl, h1, b, r2, rfl, h2, c, r3, rfl, h3, rfl⟩ := h
  obtain ⟨kind, rfl, hk⟩ := arg5 h1
  obtain ⟨x, y, z, w, rfl, _⟩ := arg23 h2
  obtain ⟨n, rfl, _⟩ := arg3 h3
  obtain ⟨kind, rfl⟩ := Int.eq_ofNat_of_zero_le hk.1
  obtain ⟨S', hS⟩ := rects_law (a := x) (b := y) (c := z) (d := w) (part := n) (show kind ≤ 255 by omega)
  exact ⟨C2, S', C2_ok, hS⟩
end Go.Ab.tK
