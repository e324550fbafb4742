/- The statement KindsCovers, whatever the arguments. -/
import Derived.Test.YtomnllhlclpdjaaDoorKN
import Derived.Test.YtomnllhlclpdjaaDoorKV0
import Derived.Test.YtomnllhlclpdjaaDoorKV1
set_option maxRecDepth 100000
set_option linter.unusedSimpArgs false
set_option linter.unusedVariables false
set_option linter.unusedSectionVars false
namespace Go.Ab.tK
open Go Go.Proofs

theorem cov_mod (G : Nat → Option (List AV)) (C : CallF) (kind : Int) (a b c d : Nat) (S : Heap) : T_spindlelaw12_KindsCovers (ctlF 300) G C (.int .u8 kind) (subs a b c d) S = T_spindlelaw12_KindsCovers (ctlF 300) G C (.int .u8 kind) (subs (a % 4) (b % 4) (c % 4) (d % 4)) S := by
  have hle : (4 : Nat) ≤ 4 := by omega
  have i1 : (1 : Int) < ((4 : Nat) : Int) := by omega
  have i2 : (2 : Int) < ((4 : Nat) : Int) := by omega
  have i3 : (3 : Int) < ((4 : Nat) : Int) := by omega
  have i0 : (0 : Int) < ((4 : Nat) : Int) := by omega
  unfold T_spindlelaw12_KindsCovers subs
  rw [lp]
  simp only [eql_b4, neq_b4, len_nils24, len_is24, len_hs24, len_nils25, len_is25, len_hs25, len_nils26, len_is26, len_hs26, len_nils51, len_is51, len_hs51, len_nils54, len_is54, len_hs54, len_nils57, len_is57, len_hs57, bO_s, gB_t, asBool_b, asInt_i, asAgg_a, asTup_a, asStr_s, asCons_c, asNil_n, nthA_0, nthA_s, aggCells_a, addV_p, addV_i, seeV_p, seeV_i, same_nil, same_1, same_2, tr_v, decide_true, decide_false, Bool.false_eq_true, if_false, if_true, Bool.not_true, Bool.not_false, Bool.and_true, Bool.true_and, Bool.and_self, List.getElem?_cons_zero, List.getElem?_cons_succ, Nat.zero_add, Nat.add_zero, beq_self_eq_true, bne_self_eq_false, Int.reduceBNe, Int.reduceBEq, Int.reduceLT, Int.reduceGT, Int.reduceLE, Int.reduceGE, Nat.reduceAdd, Nat.reduceMul, Nat.reduceLeDiff, ln4]
  rw [bloopF]
  simp only [eql_b4, neq_b4, len_nils24, len_is24, len_hs24, len_nils25, len_is25, len_hs25, len_nils26, len_is26, len_hs26, len_nils51, len_is51, len_hs51, len_nils54, len_is54, len_hs54, len_nils57, len_is57, len_hs57, bO_s, gB_t, asBool_b, asInt_i, asAgg_a, asTup_a, asStr_s, asCons_c, asNil_n, nthA_0, nthA_s, aggCells_a, addV_p, addV_i, seeV_p, seeV_i, same_nil, same_1, same_2, tr_v, decide_true, decide_false, Bool.false_eq_true, if_false, if_true, Bool.not_true, Bool.not_false, Bool.and_true, Bool.true_and, Bool.and_self, List.getElem?_cons_zero, List.getElem?_cons_succ, Nat.zero_add, Nat.add_zero, beq_self_eq_true, bne_self_eq_false, Int.reduceBNe, Int.reduceBEq, Int.reduceLT, Int.reduceGT, Int.reduceLE, Int.reduceGE, Nat.reduceAdd, Nat.reduceMul, Nat.reduceLeDiff, i0, tn0, gt0, ln4, st0, w01]
  rw [bloopF]
  simp only [eql_b4, neq_b4, len_nils24, len_is24, len_hs24, len_nils25, len_is25, len_hs25, len_nils26, len_is26, len_hs26, len_nils51, len_is51, len_hs51, len_nils54, len_is54, len_hs54, len_nils57, len_is57, len_hs57, bO_s, gB_t, asBool_b, asInt_i, asAgg_a, asTup_a, asStr_s, asCons_c, asNil_n, nthA_0, nthA_s, aggCells_a, addV_p, addV_i, seeV_p, seeV_i, same_nil, same_1, same_2, tr_v, decide_true, decide_false, Bool.false_eq_true, if_false, if_true, Bool.not_true, Bool.not_false, Bool.and_true, Bool.true_and, Bool.and_self, List.getElem?_cons_zero, List.getElem?_cons_succ, Nat.zero_add, Nat.add_zero, beq_self_eq_true, bne_self_eq_false, Int.reduceBNe, Int.reduceBEq, Int.reduceLT, Int.reduceGT, Int.reduceLE, Int.reduceGE, Nat.reduceAdd, Nat.reduceMul, Nat.reduceLeDiff, i1, tn1, gt1, ln4, st1, w12]
  rw [bloopF]
  simp only [eql_b4, neq_b4, len_nils24, len_is24, len_hs24, len_nils25, len_is25, len_hs25, len_nils26, len_is26, len_hs26, len_nils51, len_is51, len_hs51, len_nils54, len_is54, len_hs54, len_nils57, len_is57, len_hs57, bO_s, gB_t, asBool_b, asInt_i, asAgg_a, asTup_a, asStr_s, asCons_c, asNil_n, nthA_0, nthA_s, aggCells_a, addV_p, addV_i, seeV_p, seeV_i, same_nil, same_1, same_2, tr_v, decide_true, decide_false, Bool.false_eq_true, if_false, if_true, Bool.not_true, Bool.not_false, Bool.and_true, Bool.true_and, Bool.and_self, List.getElem?_cons_zero, List.getElem?_cons_succ, Nat.zero_add, Nat.add_zero, beq_self_eq_true, bne_self_eq_false, Int.reduceBNe, Int.reduceBEq, Int.reduceLT, Int.reduceGT, Int.reduceLE, Int.reduceGE, Nat.reduceAdd, Nat.reduceMul, Nat.reduceLeDiff, i2, tn2, gt2, ln4, st2, w23]
  rw [bloopF]
  simp only [eql_b4, neq_b4, len_nils24, len_is24, len_hs24, len_nils25, len_is25, len_hs25, len_nils26, len_is26, len_hs26, len_nils51, len_is51, len_hs51, len_nils54, len_is54, len_hs54, len_nils57, len_is57, len_hs57, bO_s, gB_t, asBool_b, asInt_i, asAgg_a, asTup_a, asStr_s, asCons_c, asNil_n, nthA_0, nthA_s, aggCells_a, addV_p, addV_i, seeV_p, seeV_i, same_nil, same_1, same_2, tr_v, decide_true, decide_false, Bool.false_eq_true, if_false, if_true, Bool.not_true, Bool.not_false, Bool.and_true, Bool.true_and, Bool.and_self, List.getElem?_cons_zero, List.getElem?_cons_succ, Nat.zero_add, Nat.add_zero, beq_self_eq_true, bne_self_eq_false, Int.reduceBNe, Int.reduceBEq, Int.reduceLT, Int.reduceGT, Int.reduceLE, Int.reduceGE, Nat.reduceAdd, Nat.reduceMul, Nat.reduceLeDiff, i3, tn3, gt3, ln4, st3, w34]
  rw [bloopF]
  simp only [eql_b4, neq_b4, len_nils24, len_is24, len_hs24, len_nils25, len_is25, len_hs25, len_nils26, len_is26, len_hs26, len_nils51, len_is51, len_hs51, len_nils54, len_is54, len_hs54, len_nils57, len_is57, len_hs57, bO_s, gB_t, asBool_b, asInt_i, asAgg_a, asTup_a, asStr_s, asCons_c, asNil_n, nthA_0, nthA_s, aggCells_a, addV_p, addV_i, seeV_p, seeV_i, same_nil, same_1, same_2, tr_v, decide_true, decide_false, Bool.false_eq_true, if_false, if_true, Bool.not_true, Bool.not_false, Bool.and_true, Bool.true_and, Bool.and_self, List.getElem?_cons_zero, List.getElem?_cons_succ, Nat.zero_add, Nat.add_zero, beq_self_eq_true, bne_self_eq_false, Int.reduceBNe, Int.reduceBEq, Int.reduceLT, Int.reduceGT, Int.reduceLE, Int.reduceGE, Nat.reduceAdd, Nat.reduceMul, Nat.reduceLeDiff, sel]
  conv => rhs; rw [bloopF]
  simp only [eql_b4, neq_b4, len_nils24, len_is24, len_hs24, len_nils25, len_is25, len_hs25, len_nils26, len_is26, len_hs26, len_nils51, len_is51, len_hs51, len_nils54, len_is54, len_hs54, len_nils57, len_is57, len_hs57, bO_s, gB_t, asBool_b, asInt_i, asAgg_a, asTup_a, asStr_s, asCons_c, asNil_n, nthA_0, nthA_s, aggCells_a, addV_p, addV_i, seeV_p, seeV_i, same_nil, same_1, same_2, tr_v, decide_true, decide_false, Bool.false_eq_true, if_false, if_true, Bool.not_true, Bool.not_false, Bool.and_true, Bool.true_and, Bool.and_self, List.getElem?_cons_zero, List.getElem?_cons_succ, Nat.zero_add, Nat.add_zero, beq_self_eq_true, bne_self_eq_false, Int.reduceBNe, Int.reduceBEq, Int.reduceLT, Int.reduceGT, Int.reduceLE, Int.reduceGE, Nat.reduceAdd, Nat.reduceMul, Nat.reduceLeDiff, i0, tn0, gt0, ln4, st0, w01]
  conv => rhs; rw [bloopF]
  simp only [eql_b4, neq_b4, len_nils24, len_is24, len_hs24, len_nils25, len_is25, len_hs25, len_nils26, len_is26, len_hs26, len_nils51, len_is51, len_hs51, len_nils54, len_is54, len_hs54, len_nils57, len_is57, len_hs57, bO_s, gB_t, asBool_b, asInt_i, asAgg_a, asTup_a, asStr_s, asCons_c, asNil_n, nthA_0, nthA_s, aggCells_a, addV_p, addV_i, seeV_p, seeV_i, same_nil, same_1, same_2, tr_v, decide_true, decide_false, Bool.false_eq_true, if_false, if_true, Bool.not_true, Bool.not_false, Bool.and_true, Bool.true_and, Bool.and_self, List.getElem?_cons_zero, List.getElem?_cons_succ, Nat.zero_add, Nat.add_zero, beq_self_eq_true, bne_self_eq_false, Int.reduceBNe, Int.reduceBEq, Int.reduceLT, Int.reduceGT, Int.reduceLE, Int.reduceGE, Nat.reduceAdd, Nat.reduceMul, Nat.reduceLeDiff, i1, tn1, gt1, ln4, st1, w12]
  conv => rhs; rw [bloopF]
  simp only [eql_b4, neq_b4, len_nils24, len_is24, len_hs24, len_nils25, len_is25, len_hs25, len_nils26, len_is26, len_hs26, len_nils51, len_is51, len_hs51, len_nils54, len_is54, len_hs54, len_nils57, len_is57, len_hs57, bO_s, gB_t, asBool_b, asInt_i, asAgg_a, asTup_a, asStr_s, asCons_c, asNil_n, nthA_0, nthA_s, aggCells_a, addV_p, addV_i, seeV_p, seeV_i, same_nil, same_1, same_2, tr_v, decide_true, decide_false, Bool.false_eq_true, if_false, if_true, Bool.not_true, Bool.not_false, Bool.and_true, Bool.true_and, Bool.and_self, List.getElem?_cons_zero, List.getElem?_cons_succ, Nat.zero_add, Nat.add_zero, beq_self_eq_true, bne_self_eq_false, Int.reduceBNe, Int.reduceBEq, Int.reduceLT, Int.reduceGT, Int.reduceLE, Int.reduceGE, Nat.reduceAdd, Nat.reduceMul, Nat.reduceLeDiff, i2, tn2, gt2, ln4, st2, w23]
  conv => rhs; rw [bloopF]
  simp only [eql_b4, neq_b4, len_nils24, len_is24, len_hs24, len_nils25, len_is25, len_hs25, len_nils26, len_is26, len_hs26, len_nils51, len_is51, len_hs51, len_nils54, len_is54, len_hs54, len_nils57, len_is57, len_hs57, bO_s, gB_t, asBool_b, asInt_i, asAgg_a, asTup_a, asStr_s, asCons_c, asNil_n, nthA_0, nthA_s, aggCells_a, addV_p, addV_i, seeV_p, seeV_i, same_nil, same_1, same_2, tr_v, decide_true, decide_false, Bool.false_eq_true, if_false, if_true, Bool.not_true, Bool.not_false, Bool.and_true, Bool.true_and, Bool.and_self, List.getElem?_cons_zero, List.getElem?_cons_succ, Nat.zero_add, Nat.add_zero, beq_self_eq_true, bne_self_eq_false, Int.reduceBNe, Int.reduceBEq, Int.reduceLT, Int.reduceGT, Int.reduceLE, Int.reduceGE, Nat.reduceAdd, Nat.reduceMul, Nat.reduceLeDiff, i3, tn3, gt3, ln4, st3, w34]
  conv => rhs; rw [bloopF]
  simp only [eql_b4, neq_b4, len_nils24, len_is24, len_hs24, len_nils25, len_is25, len_hs25, len_nils26, len_is26, len_hs26, len_nils51, len_is51, len_hs51, len_nils54, len_is54, len_hs54, len_nils57, len_is57, len_hs57, bO_s, gB_t, asBool_b, asInt_i, asAgg_a, asTup_a, asStr_s, asCons_c, asNil_n, nthA_0, nthA_s, aggCells_a, addV_p, addV_i, seeV_p, seeV_i, same_nil, same_1, same_2, tr_v, decide_true, decide_false, Bool.false_eq_true, if_false, if_true, Bool.not_true, Bool.not_false, Bool.and_true, Bool.true_and, Bool.and_self, List.getElem?_cons_zero, List.getElem?_cons_succ, Nat.zero_add, Nat.add_zero, beq_self_eq_true, bne_self_eq_false, Int.reduceBNe, Int.reduceBEq, Int.reduceLT, Int.reduceGT, Int.reduceLE, Int.reduceGE, Nat.reduceAdd, Nat.reduceMul, Nat.reduceLeDiff, sel, tm4, Nat.mod_mod, ln4, hle]
theorem c2_cov (kind : Int) (a b c d : Nat) (S : Heap) : C2 f_spindlelaw12_KindsCovers 0 [.int .u8 kind, subs a b c d] S = T_spindlelaw12_KindsCovers (ctlF 300) Gk Cx (.int .u8 kind) (subs a b c d) S := by kernel_rfl
theorem cov_other (a b c d : Nat) : ((List.range 256).all fun k => Nat.beq k 6 || isT (C2 f_spindlelaw12_KindsCovers 0 [.int .u8 (Int.ofNat k), subs a b c d] S0)) = true := by kernel_rfl
theorem cov6 {a b c d : Nat} (ha : a < 4) (hb : b < 4) (hc : c < 4) (hd : d < 4) : isT (C2 f_spindlelaw12_KindsCovers 0 [.int .u8 6, subs a b c d] S0) = true := by
  have h : (four fun a => four fun b => four fun c => four fun d => isT (C2 f_spindlelaw12_KindsCovers 0 [.int .u8 6, subs a b c d] S0)) = true :=
    four_of (four_of kc_00 kc_01 kc_02 kc_03) (four_of kc_10 kc_11 kc_12 kc_13) (four_of kc_20 kc_21 kc_22 kc_23) (four_of kc_30 kc_31 kc_32 kc_33)
  exact four_lt (four_lt (four_lt (four_lt h ha) hb) hc) hd
theorem kindsCovers_law (xs : List AV) (h : argsOk Tryd.prog maxLen 16 Tryd.f7.params.toList xs) : ∃ (C : CallF) (S' : Heap), NOk Tryd.prog Gk C ∧ C 7 0 xs S0 = some (.bool true, S') := by
  rw [Tryd.params7] at h
  obtain ⟨a, r, rfl, h1, b, r2, rfl, h2, rfl⟩ := h
  obtain ⟨kind, rfl, hk⟩ := arg5 h1
  obtain ⟨x, y, z, w, rfl, _⟩ := arg23 h2
  obtain ⟨kind, rfl⟩ := Int.eq_ofNat_of_zero_le hk.1
  by_cases h6 : kind = 6
  · subst h6
    have h := cov6 (Nat.mod_lt x (by omega : 4 > 0)) (Nat.mod_lt y (by omega : 4 > 0)) (Nat.mod_lt z (by omega : 4 > 0)) (Nat.mod_lt w (by omega : 4 > 0))
    obtain ⟨S', hS⟩ := isT_of h
    rw [c2_cov, ← cov_mod, ← c2_cov] at hS
    exact ⟨C2, S', C2_ok, hS⟩
  · have h := List.all_eq_true.1 (cov_other x y z w) kind (List.mem_range.2 (by omega))
    rw [beq_ne h6, Bool.false_or] at h
    obtain ⟨S', hS⟩ := isT_of h
    exact ⟨C2, S', C2_ok, hS⟩

end Go.Ab.tK
