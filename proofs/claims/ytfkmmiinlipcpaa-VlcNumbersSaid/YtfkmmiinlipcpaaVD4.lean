/- The statement VlcNumbers. -/
import Derived.Test.YtfkmmiinlipcpaaVD3
set_option maxRecDepth 100000
set_option linter.unusedSimpArgs false
set_option linter.unusedVariables false
set_option linter.unusedSectionVars false
namespace Go.Ab.tV
open Go Go.Proofs

def numN (t o : Nat) : Nat := bef t + min t 3 - o
theorem num_sym {t o : Nat} (ht : t ≤ 16) (ho : o ≤ min t 3) : symR t o = ((numN t o : Int), 0) := by
  unfold symR numN
  rw [m3_nat, if_neg (by omega)]
  simp only [Int.toNat_natCast, Prod.mk.injEq, and_true]
  omega
theorem num_fin : ((List.range 17).all fun t => (List.range 17).all fun u => (List.range (min t 3 + 1)).all fun o => (List.range (min u 3 + 1)).all fun p => (decide (numN t o < numN u p)) == (decide (t < u) || (t == u && decide (p < o)))) = true := by kernel_rfl
theorem nums_lt {t u o p : Nat} (ht : t ≤ 16) (hu : u ≤ 16) (ho : o ≤ min t 3) (hp : p ≤ min u 3) : decide ((numN t o : Int) < (numN u p : Int)) = (decide (t < u) || (t == u && decide (p < o))) := by
  have h1 := List.all_eq_true.1 num_fin t (List.mem_range.2 (by omega))
  have h2 := List.all_eq_true.1 h1 u (List.mem_range.2 (by omega))
  have h3 := List.all_eq_true.1 h2 o (List.mem_range.2 (by omega))
  have h4 := eq_of_beq (List.all_eq_true.1 h3 p (List.mem_range.2 (by omega)))
  rw [← h4]; congr 1; simp
theorem clsC_pos (c n : Nat) : 0 < (clsC c n).length := by
  unfold clsC
  split
  · rw [bitsN_len]; omega
  · unfold ukC
    rw [List.length_append, ueC_len]
    have h0 : n / 2 ^ (c % 4) + 1 ≠ 0 := Nat.succ_ne_zero _
    obtain ⟨h1, _, _⟩ := L2_spec h0
    omega
def szN (i : Nat) : Nat := if i = 0 then 4 else if i = 1 then 15 else 16
theorem numbers_law (t o u p c : Int) : ∃ S', Cn Bk 9 f_spindlelaw18_VlcNumbers 0 [.int .i64 t, .int .i64 o, .int .i64 u, .int .i64 p, .int .i64 c] S0 = some (.bool true, S') := by
  have hB := Bk_silent
  rw [c_spindlelaw18_VlcNumbers _ _ _ _ _ _ _ _ (hB.no _ _ _ _ (kn_no (by decide))), T_spindlelaw18_VlcNumbers]
  have e0 := fun S => known18_c hB 8 (S := S)
  have q1 := modI_lt t (show (0 : Int) < 17 by omega)
  have q2 := modI_lt u (show (0 : Int) < 17 by omega)
  have q3 := modI_lt c (show (0 : Int) < 5 by omega)
  have m1 := mod_c hB 7 (S := S0) t 17 (by omega)
  have m2 := mod_c hB 7 (S := S0) u 17 (by omega)
  have m3' := mod_c hB 7 (S := S0) c 5 (by omega)
  obtain ⟨tn, htn⟩ := Int.eq_ofNat_of_zero_le q1.1
  obtain ⟨un, hun⟩ := Int.eq_ofNat_of_zero_le q2.1
  obtain ⟨cn, hcn⟩ := Int.eq_ofNat_of_zero_le q3.1
  rw [htn] at q1 m1
  rw [hun] at q2 m2
  rw [hcn] at q3 m3'
  have w1 : IntKind.wrap .i64 ((if (tn : Int) < 3 then (tn : Int) else 3) + 1) = ((min tn 3 + 1 : Nat) : Int) := by
    rw [wr _ (by split <;> omega)]; split <;> omega
  have w2 : IntKind.wrap .i64 ((if (un : Int) < 3 then (un : Int) else 3) + 1) = ((min un 3 + 1 : Nat) : Int) := by
    rw [wr _ (by split <;> omega)]; split <;> omega
  have q4 := modI_lt o (show (0 : Int) < ((min tn 3 + 1 : Nat) : Int) by omega)
  have q5 := modI_lt p (show (0 : Int) < ((min un 3 + 1 : Nat) : Int) by omega)
  have m4 := mod_c hB 7 (S := S0) o ((min tn 3 + 1 : Nat) : Int) (by omega)
  have m5 := mod_c hB 7 (S := S0) p ((min un 3 + 1 : Nat) : Int) (by omega)
  obtain ⟨on, hon⟩ := Int.eq_ofNat_of_zero_le q4.1
  obtain ⟨pn, hpn⟩ := Int.eq_ofNat_of_zero_le q5.1
  rw [hon] at q4 m4
  rw [hpn] at q5 m5
  have ht : tn ≤ 16 := by omega
  have hu : un ≤ 16 := by omega
  have ho : on ≤ min tn 3 := by omega
  have hp : pn ≤ min un 3 := by omega
  have s1 := symbol_c hB 6 (S := S0) tn on
  have s2 := symbol_c hB 6 (S := S0) un pn
  rw [num_sym ht ho] at s1
  rw [num_sym hu hp] at s2
  obtain ⟨n', hn1, hn2, hn3, _⟩ := sym_ok ht ho
  rw [num_sym ht ho] at hn1
  have hn4 : n' = numN tn on := by have := (Prod.mk.inj hn1).1; omega
  subst hn4
  have s3 := pair_c hB 6 (S := S0) (numN tn on : Int)
  rw [hn3] at s3
  have hlt := nums_lt ht hu ho hp
  have hgt : (bO (α := LSt) (if decide ((tn : Int) < (un : Int)) = true then bO (aBin Try.prog .neq 4 (.bool (decide ((numN tn on : Int) < (numN un pn : Int)))) (.bool true)) fun t53 => asBool t53 fun b54 => some ([.int .i64 tn, .int .i64 on, .int .i64 cn, .bool b54], S0) else if ((tn : Int) == (un : Int)) = true then bO (aBin Try.prog .neq 4 (.bool (decide ((numN tn on : Int) < (numN un pn : Int)))) (.bool (decide ((on : Int) > (pn : Int))))) fun t55 => asBool t55 fun b56 => some ([.int .i64 tn, .int .i64 on, .int .i64 cn, .bool b56], S0) else bO (aBin Try.prog .neq 4 (.bool (decide ((numN tn on : Int) < (numN un pn : Int)))) (.bool false)) fun t57 => asBool t57 fun b58 => some ([.int .i64 tn, .int .i64 on, .int .i64 cn, .bool b58], S0)) fun r => some r) = some ([.int .i64 tn, .int .i64 on, .int .i64 cn, .bool false], S0) := by
    rw [hlt]
    by_cases a1 : tn < un
    · have a2 : (tn : Int) < un := by omega
      simp only [eql_ptr31, eql_nilp31, eql_ptr38, eql_nilp38, eql_ptr54, eql_nilp54, eql_ptr62, eql_nilp62, eql_ptr137, eql_nilp137, eql_ptr149, eql_nilp149, eql_b4, neq_b4, len_nils37, len_is37, len_hs37, len_nils71, len_is71, len_hs71, len_nils76, len_is76, len_hs76, len_nils81, len_is81, len_hs81, len_nils100, len_is100, len_hs100, len_nils103, len_is103, len_hs103, bO_s, gB_t, asBool_b, asInt_i, asAgg_a, asTup_a, asStr_s, asCons_c, asNil_n, nthA_0, nthA_s, aggCells_a, addV_p, addV_i, seeV_p, seeV_i, same_nil, same_1, same_2, tr_v, decide_true, decide_false, Bool.false_eq_true, if_false, if_true, Bool.not_true, Bool.not_false, Bool.and_true, Bool.true_and, Bool.and_self, List.getElem?_cons_zero, List.getElem?_cons_succ, Nat.zero_add, Nat.add_zero, beq_self_eq_true, bne_self_eq_false, Int.reduceBNe, Int.reduceBEq, Int.reduceLT, Int.reduceGT, Int.reduceLE, Int.reduceGE, Nat.reduceAdd, Nat.reduceMul, Nat.reduceLeDiff, a1, a2, Bool.true_or]
    · have a2 : ¬ (tn : Int) < un := by omega
      by_cases a3 : tn = un
      · subst a3
        by_cases a4 : pn < on
        · have a5 : (on : Int) > pn := by omega
          simp only [eql_ptr31, eql_nilp31, eql_ptr38, eql_nilp38, eql_ptr54, eql_nilp54, eql_ptr62, eql_nilp62, eql_ptr137, eql_nilp137, eql_ptr149, eql_nilp149, eql_b4, neq_b4, len_nils37, len_is37, len_hs37, len_nils71, len_is71, len_hs71, len_nils76, len_is76, len_hs76, len_nils81, len_is81, len_hs81, len_nils100, len_is100, len_hs100, len_nils103, len_is103, len_hs103, bO_s, gB_t, asBool_b, asInt_i, asAgg_a, asTup_a, asStr_s, asCons_c, asNil_n, nthA_0, nthA_s, aggCells_a, addV_p, addV_i, seeV_p, seeV_i, same_nil, same_1, same_2, tr_v, decide_true, decide_false, Bool.false_eq_true, if_false, if_true, Bool.not_true, Bool.not_false, Bool.and_true, Bool.true_and, Bool.and_self, List.getElem?_cons_zero, List.getElem?_cons_succ, Nat.zero_add, Nat.add_zero, beq_self_eq_true, bne_self_eq_false, Int.reduceBNe, Int.reduceBEq, Int.reduceLT, Int.reduceGT, Int.reduceLE, Int.reduceGE, Nat.reduceAdd, Nat.reduceMul, Nat.reduceLeDiff, a1, a2, a4, a5, Bool.false_or]
        · have a5 : ¬ (on : Int) > pn := by omega
          simp only [eql_ptr31, eql_nilp31, eql_ptr38, eql_nilp38, eql_ptr54, eql_nilp54, eql_ptr62, eql_nilp62, eql_ptr137, eql_nilp137, eql_ptr149, eql_nilp149, eql_b4, neq_b4, len_nils37, len_is37, len_hs37, len_nils71, len_is71, len_hs71, len_nils76, len_is76, len_hs76, len_nils81, len_is81, len_hs81, len_nils100, len_is100, len_hs100, len_nils103, len_is103, len_hs103, bO_s, gB_t, asBool_b, asInt_i, asAgg_a, asTup_a, asStr_s, asCons_c, asNil_n, nthA_0, nthA_s, aggCells_a, addV_p, addV_i, seeV_p, seeV_i, same_nil, same_1, same_2, tr_v, decide_true, decide_false, Bool.false_eq_true, if_false, if_true, Bool.not_true, Bool.not_false, Bool.and_true, Bool.true_and, Bool.and_self, List.getElem?_cons_zero, List.getElem?_cons_succ, Nat.zero_add, Nat.add_zero, beq_self_eq_true, bne_self_eq_false, Int.reduceBNe, Int.reduceBEq, Int.reduceLT, Int.reduceGT, Int.reduceLE, Int.reduceGE, Nat.reduceAdd, Nat.reduceMul, Nat.reduceLeDiff, a1, a2, a4, a5, Bool.false_or]
      · have a4 : (tn == un) = false := by simp [a3]
        have a5 : ((tn : Int) == (un : Int)) = false := by simp; omega
        simp only [eql_ptr31, eql_nilp31, eql_ptr38, eql_nilp38, eql_ptr54, eql_nilp54, eql_ptr62, eql_nilp62, eql_ptr137, eql_nilp137, eql_ptr149, eql_nilp149, eql_b4, neq_b4, len_nils37, len_is37, len_hs37, len_nils71, len_is71, len_hs71, len_nils76, len_is76, len_hs76, len_nils81, len_is81, len_hs81, len_nils100, len_is100, len_hs100, len_nils103, len_is103, len_hs103, bO_s, gB_t, asBool_b, asInt_i, asAgg_a, asTup_a, asStr_s, asCons_c, asNil_n, nthA_0, nthA_s, aggCells_a, addV_p, addV_i, seeV_p, seeV_i, same_nil, same_1, same_2, tr_v, decide_true, decide_false, Bool.false_eq_true, if_false, if_true, Bool.not_true, Bool.not_false, Bool.and_true, Bool.true_and, Bool.and_self, List.getElem?_cons_zero, List.getElem?_cons_succ, Nat.zero_add, Nat.add_zero, beq_self_eq_true, bne_self_eq_false, Int.reduceBNe, Int.reduceBEq, Int.reduceLT, Int.reduceGT, Int.reduceLE, Int.reduceGE, Nat.reduceAdd, Nat.reduceMul, Nat.reduceLeDiff, a1, a2, a4, a5, Bool.false_or, Bool.false_and]
  have hb : ∀ x : Option LSt, (bO x fun r => some r) = x := fun x => by cases x <;> rfl
  rw [hb] at hgt
  simp only [eql_ptr31, eql_nilp31, eql_ptr38, eql_nilp38, eql_ptr54, eql_nilp54, eql_ptr62, eql_nilp62, eql_ptr137, eql_nilp137, eql_ptr149, eql_nilp149, eql_b4, neq_b4, len_nils37, len_is37, len_hs37, len_nils71, len_is71, len_hs71, len_nils76, len_is76, len_hs76, len_nils81, len_is81, len_hs81, len_nils100, len_is100, len_hs100, len_nils103, len_is103, len_hs103, bO_s, gB_t, asBool_b, asInt_i, asAgg_a, asTup_a, asStr_s, asCons_c, asNil_n, nthA_0, nthA_s, aggCells_a, addV_p, addV_i, seeV_p, seeV_i, same_nil, same_1, same_2, tr_v, decide_true, decide_false, Bool.false_eq_true, if_false, if_true, Bool.not_true, Bool.not_false, Bool.and_true, Bool.true_and, Bool.and_self, List.getElem?_cons_zero, List.getElem?_cons_succ, Nat.zero_add, Nat.add_zero, beq_self_eq_true, bne_self_eq_false, Int.reduceBNe, Int.reduceBEq, Int.reduceLT, Int.reduceGT, Int.reduceLE, Int.reduceGE, Nat.reduceAdd, Nat.reduceMul, Nat.reduceLeDiff, m1, m2, m3', w1, w2, m4, m5, s1, s2, s3]
  simp only [eql_ptr31, eql_nilp31, eql_ptr38, eql_nilp38, eql_ptr54, eql_nilp54, eql_ptr62, eql_nilp62, eql_ptr137, eql_nilp137, eql_ptr149, eql_nilp149, eql_b4, neq_b4, len_nils37, len_is37, len_hs37, len_nils71, len_is71, len_hs71, len_nils76, len_is76, len_hs76, len_nils81, len_is81, len_hs81, len_nils100, len_is100, len_hs100, len_nils103, len_is103, len_hs103, bO_s, gB_t, asBool_b, asInt_i, asAgg_a, asTup_a, asStr_s, asCons_c, asNil_n, nthA_0, nthA_s, aggCells_a, addV_p, addV_i, seeV_p, seeV_i, same_nil, same_1, same_2, tr_v, decide_true, decide_false, Bool.false_eq_true, if_false, if_true, Bool.not_true, Bool.not_false, Bool.and_true, Bool.true_and, Bool.and_self, List.getElem?_cons_zero, List.getElem?_cons_succ, Nat.zero_add, Nat.add_zero, beq_self_eq_true, bne_self_eq_false, Int.reduceBNe, Int.reduceBEq, Int.reduceLT, Int.reduceGT, Int.reduceLE, Int.reduceGE, Nat.reduceAdd, Nat.reduceMul, Nat.reduceLeDiff] at hgt
  rw [hgt]
  simp only [eql_ptr31, eql_nilp31, eql_ptr38, eql_nilp38, eql_ptr54, eql_nilp54, eql_ptr62, eql_nilp62, eql_ptr137, eql_nilp137, eql_ptr149, eql_nilp149, eql_b4, neq_b4, len_nils37, len_is37, len_hs37, len_nils71, len_is71, len_hs71, len_nils76, len_is76, len_hs76, len_nils81, len_is81, len_hs81, len_nils100, len_is100, len_hs100, len_nils103, len_is103, len_hs103, bO_s, gB_t, asBool_b, asInt_i, asAgg_a, asTup_a, asStr_s, asCons_c, asNil_n, nthA_0, nthA_s, aggCells_a, addV_p, addV_i, seeV_p, seeV_i, same_nil, same_1, same_2, tr_v, decide_true, decide_false, Bool.false_eq_true, if_false, if_true, Bool.not_true, Bool.not_false, Bool.and_true, Bool.true_and, Bool.and_self, List.getElem?_cons_zero, List.getElem?_cons_succ, Nat.zero_add, Nat.add_zero, beq_self_eq_true, bne_self_eq_false, Int.reduceBNe, Int.reduceBEq, Int.reduceLT, Int.reduceGT, Int.reduceLE, Int.reduceGE, Nat.reduceAdd, Nat.reduceMul, Nat.reduceLeDiff]
  obtain ⟨K, hK⟩ : ∃ K, K = clsC cn (numN tn on) := ⟨_, rfl⟩
  have hKp := clsC_pos cn (numN tn on)
  have hKl := tokP_len cn 16 tn on
  have tk1 : ∀ sz : Nat, tn ≤ sz → sizedI sz = true → tokP cn sz tn on = (0, K) := by
    intro sz h1 h2
    unfold tokP
    rw [if_neg (by rw [h2]; simp; omega), num_sym ht ho, if_neg (by simp), hK]
    simp only [Int.toNat_natCast]
  have tk2 : ∀ sz : Nat, sz < tn → tokP cn sz tn on = (3, []) := by
    intro sz h1
    unfold tokP
    rw [if_pos (by omega)]
  have hsz : ∀ i : Nat, i < 3 → sizedI (szN i) = true ∧ ([.int .i64 4, .int .i64 15, .int .i64 16] : List AV)[i]? = some (.int .i64 (szN i : Int)) := by
    intro i hi
    match i, hi with
    | 0, _ => exact ⟨rfl, rfl⟩
    | 1, _ => exact ⟨rfl, rfl⟩
    | 2, _ => exact ⟨rfl, rfl⟩
  have hKl : K.length ≤ 80 := by
    have := tk1 16 ht rfl
    rw [show (((16 : Nat) : Int)) = 16 from rfl] at this
    rw [this] at hKl; exact hKl
  rw [← hK] at hKp
  have hKne : strEq (bitStr K) (ByteArray.mk #[]) = false := strEq_ne fun h => by
    have := congrArg ByteArray.size h
    rw [bits_len] at this
    have h0 : (ByteArray.mk #[]).size = 0 := rfl
    omega
  have hEE : strEq (ByteArray.mk #[]) (ByteArray.mk #[]) = true := strEq_self _
  refine loop_meas (fun o => ∃ S', o = some (AV.bool true, S')) (fun m st => ∃ i T sm, i + m = 3 ∧ st = ([.int .i64 (tn : Int), .int .i64 (on : Int), .int .i64 (cn : Int), .agg [.int .i64 4, .int .i64 15, .int .i64 16], .str sm, .int .i64 (i : Int)], T) ∧ (sm = ByteArray.mk #[] ∨ sm = bitStr K) ∧ (i = 3 → sm = bitStr K)) 3
    ⟨0, S0, _, rfl, rfl, .inl rfl, fun h => by cases h⟩ ?_
  rintro m st ⟨i, T, sm, him, rfl, h1, h2⟩
  cases m with
  | zero =>
    have hi : i = 3 := by omega
    subst hi
    have c1 : ¬ (((3 : Nat) : Int) < 3) := by omega
    refine .inl ⟨(0, [.str sm], T), by simp only [eql_ptr31, eql_nilp31, eql_ptr38, eql_nilp38, eql_ptr54, eql_nilp54, eql_ptr62, eql_nilp62, eql_ptr137, eql_nilp137, eql_ptr149, eql_nilp149, eql_b4, neq_b4, len_nils37, len_is37, len_hs37, len_nils71, len_is71, len_hs71, len_nils76, len_is76, len_hs76, len_nils81, len_is81, len_hs81, len_nils100, len_is100, len_hs100, len_nils103, len_is103, len_hs103, bO_s, gB_t, asBool_b, asInt_i, asAgg_a, asTup_a, asStr_s, asCons_c, asNil_n, nthA_0, nthA_s, aggCells_a, addV_p, addV_i, seeV_p, seeV_i, same_nil, same_1, same_2, tr_v, decide_true, decide_false, Bool.false_eq_true, if_false, if_true, Bool.not_true, Bool.not_false, Bool.and_true, Bool.true_and, Bool.and_self, List.getElem?_cons_zero, List.getElem?_cons_succ, Nat.zero_add, Nat.add_zero, beq_self_eq_true, bne_self_eq_false, Int.reduceBNe, Int.reduceBEq, Int.reduceLT, Int.reduceGT, Int.reduceLE, Int.reduceGE, Nat.reduceAdd, Nat.reduceMul, Nat.reduceLeDiff, c1], T, ?_⟩
    have := h2 rfl
    subst this
    simp only [eql_ptr31, eql_nilp31, eql_ptr38, eql_nilp38, eql_ptr54, eql_nilp54, eql_ptr62, eql_nilp62, eql_ptr137, eql_nilp137, eql_ptr149, eql_nilp149, eql_b4, neq_b4, len_nils37, len_is37, len_hs37, len_nils71, len_is71, len_hs71, len_nils76, len_is76, len_hs76, len_nils81, len_is81, len_hs81, len_nils100, len_is100, len_hs100, len_nils103, len_is103, len_hs103, bO_s, gB_t, asBool_b, asInt_i, asAgg_a, asTup_a, asStr_s, asCons_c, asNil_n, nthA_0, nthA_s, aggCells_a, addV_p, addV_i, seeV_p, seeV_i, same_nil, same_1, same_2, tr_v, decide_true, decide_false, Bool.false_eq_true, if_false, if_true, Bool.not_true, Bool.not_false, Bool.and_true, Bool.true_and, Bool.and_self, List.getElem?_cons_zero, List.getElem?_cons_succ, Nat.zero_add, Nat.add_zero, beq_self_eq_true, bne_self_eq_false, Int.reduceBNe, Int.reduceBEq, Int.reduceLT, Int.reduceGT, Int.reduceLE, Int.reduceGE, Nat.reduceAdd, Nat.reduceMul, Nat.reduceLeDiff, hKne, e0, sel]
  | succ m =>
    have hi : i < 3 := by omega
    have c1 : (i : Int) < 3 := by omega
    have c2 : (0 : Int) ≤ (i : Int) := by omega
    have c3 : (i : Int) < ((3 : Nat) : Int) := by omega
    have w3 : IntKind.wrap .i64 ((i : Int) + 1) = ((i + 1 : Nat) : Int) := by rw [wr _ (by omega)]; omega
    obtain ⟨z1, z2⟩ := hsz i hi
    have z2' : ([.int .i64 4, .int .i64 15, .int .i64 16] : List AV)[Int.toNat (i : Int) * 1]? = some (.int .i64 (szN i : Int)) := by rw [Int.toNat_natCast, Nat.mul_one]; exact z2
    obtain ⟨T1, f1, hw1, fr1⟩ := write_c hB 7 (S := T)
    obtain ⟨T2, q', f2, hw2, fr2, _⟩ := puttoken_c hB 3 hw1 (by simp) cn (szN i) tn on
    by_cases hle : tn ≤ szN i
    · rw [tk1 _ hle z1, List.nil_append] at hw2
      rw [tk1 _ hle z1] at f2
      have hw2 : Wr T2 T.next q' K := hw2
      have c4 : (tn : Int) ≤ (szN i : Int) := by omega
      obtain ⟨T3, f3, f3r⟩ := wbits_c hB 6 hw2 (by omega)
      rcases h1 with rfl | rfl
      · refine .inr ⟨m, ([.int .i64 (tn : Int), .int .i64 (on : Int), .int .i64 (cn : Int), .agg [.int .i64 4, .int .i64 15, .int .i64 16], .str (bitStr K), .int .i64 ((i + 1 : Nat) : Int)], T3), by omega, by simp only [eql_ptr31, eql_nilp31, eql_ptr38, eql_nilp38, eql_ptr54, eql_nilp54, eql_ptr62, eql_nilp62, eql_ptr137, eql_nilp137, eql_ptr149, eql_nilp149, eql_b4, neq_b4, len_nils37, len_is37, len_hs37, len_nils71, len_is71, len_hs71, len_nils76, len_is76, len_hs76, len_nils81, len_is81, len_hs81, len_nils100, len_is100, len_hs100, len_nils103, len_is103, len_hs103, bO_s, gB_t, asBool_b, asInt_i, asAgg_a, asTup_a, asStr_s, asCons_c, asNil_n, nthA_0, nthA_s, aggCells_a, addV_p, addV_i, seeV_p, seeV_i, same_nil, same_1, same_2, tr_v, decide_true, decide_false, Bool.false_eq_true, if_false, if_true, Bool.not_true, Bool.not_false, Bool.and_true, Bool.true_and, Bool.and_self, List.getElem?_cons_zero, List.getElem?_cons_succ, Nat.zero_add, Nat.add_zero, beq_self_eq_true, bne_self_eq_false, Int.reduceBNe, Int.reduceBEq, Int.reduceLT, Int.reduceGT, Int.reduceLE, Int.reduceGE, Nat.reduceAdd, Nat.reduceMul, Nat.reduceLeDiff, c1, f1, c2, c3, z2', f2, c4, hEE, f3, w3], i + 1, T3, _, by omega, rfl, .inr rfl, fun _ => rfl⟩
      · obtain ⟨T4, f4, _⟩ := wbits_c hB 6 (hw2.fr f3r (by simp) (by simp)) (by omega)
        refine .inr ⟨m, ([.int .i64 (tn : Int), .int .i64 (on : Int), .int .i64 (cn : Int), .agg [.int .i64 4, .int .i64 15, .int .i64 16], .str (bitStr K), .int .i64 ((i + 1 : Nat) : Int)], T4), by omega, by simp only [eql_ptr31, eql_nilp31, eql_ptr38, eql_nilp38, eql_ptr54, eql_nilp54, eql_ptr62, eql_nilp62, eql_ptr137, eql_nilp137, eql_ptr149, eql_nilp149, eql_b4, neq_b4, len_nils37, len_is37, len_hs37, len_nils71, len_is71, len_hs71, len_nils76, len_is76, len_hs76, len_nils81, len_is81, len_hs81, len_nils100, len_is100, len_hs100, len_nils103, len_is103, len_hs103, bO_s, gB_t, asBool_b, asInt_i, asAgg_a, asTup_a, asStr_s, asCons_c, asNil_n, nthA_0, nthA_s, aggCells_a, addV_p, addV_i, seeV_p, seeV_i, same_nil, same_1, same_2, tr_v, decide_true, decide_false, Bool.false_eq_true, if_false, if_true, Bool.not_true, Bool.not_false, Bool.and_true, Bool.true_and, Bool.and_self, List.getElem?_cons_zero, List.getElem?_cons_succ, Nat.zero_add, Nat.add_zero, beq_self_eq_true, bne_self_eq_false, Int.reduceBNe, Int.reduceBEq, Int.reduceLT, Int.reduceGT, Int.reduceLE, Int.reduceGE, Nat.reduceAdd, Nat.reduceMul, Nat.reduceLeDiff, c1, f1, c2, c3, z2', f2, c4, hKne, strEq_self, f3, f4, w3], i + 1, T4, _, by omega, rfl, .inr rfl, fun _ => rfl⟩
    · rw [tk2 _ (by omega), List.append_nil] at hw2
      rw [tk2 _ (by omega)] at f2
      have c4 : ¬ (tn : Int) ≤ (szN i : Int) := by omega
      have f3 : Cn Bk 8 f_bits_Writer_Len 0 [.ptr T.next 0] T2 = some (.int .i64 0, T2) := wlen_c hB 7 hw2 (by simp)
      refine .inr ⟨m, ([.int .i64 (tn : Int), .int .i64 (on : Int), .int .i64 (cn : Int), .agg [.int .i64 4, .int .i64 15, .int .i64 16], .str sm, .int .i64 ((i + 1 : Nat) : Int)], T2), by omega, by simp only [eql_ptr31, eql_nilp31, eql_ptr38, eql_nilp38, eql_ptr54, eql_nilp54, eql_ptr62, eql_nilp62, eql_ptr137, eql_nilp137, eql_ptr149, eql_nilp149, eql_b4, neq_b4, len_nils37, len_is37, len_hs37, len_nils71, len_is71, len_hs71, len_nils76, len_is76, len_hs76, len_nils81, len_is81, len_hs81, len_nils100, len_is100, len_hs100, len_nils103, len_is103, len_hs103, bO_s, gB_t, asBool_b, asInt_i, asAgg_a, asTup_a, asStr_s, asCons_c, asNil_n, nthA_0, nthA_s, aggCells_a, addV_p, addV_i, seeV_p, seeV_i, same_nil, same_1, same_2, tr_v, decide_true, decide_false, Bool.false_eq_true, if_false, if_true, Bool.not_true, Bool.not_false, Bool.and_true, Bool.true_and, Bool.and_self, List.getElem?_cons_zero, List.getElem?_cons_succ, Nat.zero_add, Nat.add_zero, beq_self_eq_true, bne_self_eq_false, Int.reduceBNe, Int.reduceBEq, Int.reduceLT, Int.reduceGT, Int.reduceLE, Int.reduceGE, Nat.reduceAdd, Nat.reduceMul, Nat.reduceLeDiff, c1, f1, c2, c3, z2', f2, c4, f3, w3, List.length_nil], i + 1, T2, sm, by omega, rfl, h1, fun h => ?_⟩
      exfalso
      have : i = 2 := by omega
      subst this
      exact hle (by unfold szN; simp; omega)
theorem vlcNumbers_law (xs : List AV) (h : argsOk Try.prog maxLen 16 Try.f4.params.toList xs) : ∃ (C : CallF) (S' : Heap), NOk Try.prog (fun _ => none) C ∧ C 4 0 xs S0 = some (.bool true, S') := by
  rw [Try.params4] at h
  obtain ⟨a, r, rfl, h1, b, r2, rfl, h2, c, r3, rfl, h3, d, r4, rfl, h4, e, r5, rfl, h5, rfl⟩ := h
  obtain ⟨t, rfl, _⟩ := arg3 h1
  obtain ⟨o, rfl, _⟩ := arg3 h2
  obtain ⟨u, rfl, _⟩ := arg3 h3
  obtain ⟨p, rfl, _⟩ := arg3 h4
  obtain ⟨n, rfl, _⟩ := arg3 h5
  obtain ⟨S', hS⟩ := numbers_law t o u p n
  exact ⟨Cn Bk 9, S', Cn_ok 9, hS⟩
end Go.Ab.tV
