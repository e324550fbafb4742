/- The statement KindsBack, whatever the arguments. -/
import Derived.Test.YtomnllhlclpdjaaDoorKBk
set_option maxRecDepth 100000
set_option linter.unusedSimpArgs false
set_option linter.unusedVariables false
set_option linter.unusedSectionVars false
namespace Go.Ab.tK
open Go Go.Proofs

theorem of_outT (X : Ctl) (G : Nat → Option (List AV)) (C : CallF) (n : Int) (intra : Bool) (S : Heap) (hn : -9223372036854775808 ≤ n ∧ n ≤ 9223372036854775807) (ho : n < 0 ∨ n > 30) :
    T_kinds_Of X G C (.int .i64 n) (.bool intra) S = some (X.tr S (.tup [.agg (mb 0 0 0), .int .i64 3]) S) := by
  rw [T_kinds_Of]
  simp only [asInt_i, asBool_b]
  rw [show ([.int .u8 0, .int .u8 0, .int .u8 0, .int .u8 0, .int .u8 0, .int .u8 0, .int .u8 0, .int .u8 0, .int .u8 0, .int .u8 0, .int .u8 0, .int .u8 0, .int .u8 0, .int .u8 0, .int .u8 0, .int .u8 0, .int .u8 0, .int .u8 0, .int .u8 0, .int .u8 0, .int .u8 0, .int .u8 0, .int .u8 0, .nils, .nils, .int .u8 0, .int .i64 0, .nils, .str ByteArray.empty] : List AV) = mb 0 0 0 from rfl]
  have hl : (mb 0 0 0).length = 29 := rfl
  have hsl : (setCells (mb 0 0 0) 0 (mb 0 0 0)).length = 29 := rfl
  have hle : (29 : Nat) ≤ 29 := by omega
  cases intra
  · by_cases h0 : n ≥ 0
    · have h1 : ¬ n ≤ 3 := by omega
      have h2 : ¬ n < 5 := by omega
      have hw : IntKind.wrap .i64 (n - 5) = n - 5 := wr _ (by omega)
      have h3 : ¬ n - 5 < 0 := by omega
      have h4 : n - 5 > 25 := by omega
      simp only [eql_b4, neq_b4, len_nils24, len_is24, len_hs24, len_nils25, len_is25, len_hs25, len_nils26, len_is26, len_hs26, len_nils51, len_is51, len_hs51, len_nils54, len_is54, len_hs54, len_nils57, len_is57, len_hs57, bO_s, gB_t, asBool_b, asInt_i, asAgg_a, asTup_a, asStr_s, asCons_c, asNil_n, nthA_0, nthA_s, aggCells_a, addV_p, addV_i, seeV_p, seeV_i, same_nil, same_1, same_2, tr_v, decide_true, decide_false, Bool.false_eq_true, if_false, if_true, Bool.not_true, Bool.not_false, Bool.and_true, Bool.true_and, Bool.and_self, List.getElem?_cons_zero, List.getElem?_cons_succ, Nat.zero_add, Nat.add_zero, beq_self_eq_true, bne_self_eq_false, Int.reduceBNe, Int.reduceBEq, Int.reduceLT, Int.reduceGT, Int.reduceLE, Int.reduceGE, Nat.reduceAdd, Nat.reduceMul, Nat.reduceLeDiff, h0, h1, h2, hw, h3, h4, hl, hsl, hle, z29, fz_mb]
    · have h2 : n < 5 := by omega
      simp only [eql_b4, neq_b4, len_nils24, len_is24, len_hs24, len_nils25, len_is25, len_hs25, len_nils26, len_is26, len_hs26, len_nils51, len_is51, len_hs51, len_nils54, len_is54, len_hs54, len_nils57, len_is57, len_hs57, bO_s, gB_t, asBool_b, asInt_i, asAgg_a, asTup_a, asStr_s, asCons_c, asNil_n, nthA_0, nthA_s, aggCells_a, addV_p, addV_i, seeV_p, seeV_i, same_nil, same_1, same_2, tr_v, decide_true, decide_false, Bool.false_eq_true, if_false, if_true, Bool.not_true, Bool.not_false, Bool.and_true, Bool.true_and, Bool.and_self, List.getElem?_cons_zero, List.getElem?_cons_succ, Nat.zero_add, Nat.add_zero, beq_self_eq_true, bne_self_eq_false, Int.reduceBNe, Int.reduceBEq, Int.reduceLT, Int.reduceGT, Int.reduceLE, Int.reduceGE, Nat.reduceAdd, Nat.reduceMul, Nat.reduceLeDiff, h0, h2, hl, hsl, hle, z29, fz_mb]
  · by_cases h0 : n < 0
    · simp only [eql_b4, neq_b4, len_nils24, len_is24, len_hs24, len_nils25, len_is25, len_hs25, len_nils26, len_is26, len_hs26, len_nils51, len_is51, len_hs51, len_nils54, len_is54, len_hs54, len_nils57, len_is57, len_hs57, bO_s, gB_t, asBool_b, asInt_i, asAgg_a, asTup_a, asStr_s, asCons_c, asNil_n, nthA_0, nthA_s, aggCells_a, addV_p, addV_i, seeV_p, seeV_i, same_nil, same_1, same_2, tr_v, decide_true, decide_false, Bool.false_eq_true, if_false, if_true, Bool.not_true, Bool.not_false, Bool.and_true, Bool.true_and, Bool.and_self, List.getElem?_cons_zero, List.getElem?_cons_succ, Nat.zero_add, Nat.add_zero, beq_self_eq_true, bne_self_eq_false, Int.reduceBNe, Int.reduceBEq, Int.reduceLT, Int.reduceGT, Int.reduceLE, Int.reduceGE, Nat.reduceAdd, Nat.reduceMul, Nat.reduceLeDiff, h0, hl, hsl, hle, z29, fz_mb]
    · have h4 : n > 25 := by omega
      simp only [eql_b4, neq_b4, len_nils24, len_is24, len_hs24, len_nils25, len_is25, len_hs25, len_nils26, len_is26, len_hs26, len_nils51, len_is51, len_hs51, len_nils54, len_is54, len_hs54, len_nils57, len_is57, len_hs57, bO_s, gB_t, asBool_b, asInt_i, asAgg_a, asTup_a, asStr_s, asCons_c, asNil_n, nthA_0, nthA_s, aggCells_a, addV_p, addV_i, seeV_p, seeV_i, same_nil, same_1, same_2, tr_v, decide_true, decide_false, Bool.false_eq_true, if_false, if_true, Bool.not_true, Bool.not_false, Bool.and_true, Bool.true_and, Bool.and_self, List.getElem?_cons_zero, List.getElem?_cons_succ, Nat.zero_add, Nat.add_zero, beq_self_eq_true, bne_self_eq_false, Int.reduceBNe, Int.reduceBEq, Int.reduceLT, Int.reduceGT, Int.reduceLE, Int.reduceGE, Nat.reduceAdd, Nat.reduceMul, Nat.reduceLeDiff, h0, h4, hl, hsl, hle, z29, fz_mb]
theorem c1_of (n : Int) (intra : Bool) : C1 f_kinds_Of 0 [.int .i64 n, .bool intra] S0 = T_kinds_Of (ctlF 300) Gk (tabB (rows (ctlF 300)) B1 39) (.int .i64 n) (.bool intra) S0 := by kernel_rfl
theorem of_outC {n : Int} (intra : Bool) (hn : -9223372036854775808 ≤ n ∧ n ≤ 9223372036854775807) (ho : n < 0 ∨ n > 30) : isV (locC C1 f_kinds_Of 0 [.int .i64 n, .bool intra] S0) (.tup [.agg (mb 0 0 0), .int .i64 3]) = true := by
  unfold locC
  rw [c1_of, of_outT _ _ _ n intra S0 hn ho]
  kernel_rfl
theorem back_law {kind mode cbp n : Int} {intra : Bool} (hk : 0 ≤ kind ∧ kind ≤ 255) (hm : 0 ≤ mode ∧ mode ≤ 255) (hc : 0 ≤ cbp ∧ cbp ≤ 255) (hn : -9223372036854775808 ≤ n ∧ n ≤ 9223372036854775807) :
    ∃ fs k, Cn (selC fs C1) k f_spindlelaw12_KindsBack 0 [.int .u8 kind, .int .u8 mode, .int .u8 cbp, .int .i64 n, .bool intra] S0 = some (.bool true, S0) := by
  have it : isV (locC C1 f_kinds_Intra 0 [.int .u8 1] S0) (.bool true) = true := by kernel_rfl
  have nn : ∃ c g, isV (locC C1 f_kinds_Of 0 [.int .i64 n, .bool intra] S0) (.tup [.agg c, .int .i64 g]) = true ∧ c.length = 29 ∧ c.all cell = true ∧ (g == 0) = inR n intra ∧
    (g = 0 → isV (locC C1 f_spindlelaw12_typed 0 [.agg c, .bool intra, .int .i64 n] S0) (.bool true) = true) := by
    by_cases ho : n < 0 ∨ n > 30
    · refine ⟨mb 0 0 0, 3, of_outC intra hn ho, rfl, rfl, ?_, fun h => by cases h⟩
      have : inR n intra = false := by
        unfold inR
        rcases ho with h | h
        · have : ¬ 0 ≤ n := by omega
          simp [this]
        · have : ¬ n ≤ (if intra = true then 25 else 30) := by split <;> omega
          simp [this]
      rw [this]; rfl
    · obtain ⟨m, rfl⟩ := Int.eq_ofNat_of_zero_le (show 0 ≤ n by omega)
      have h := List.all_eq_true.1 n_all m (List.mem_range.2 (by omega))
      simp only [Bool.and_eq_true] at h
      cases intra
      · exact okN_of h.2
      · exact okN_of h.1
  obtain ⟨c, g, o1, o2, o3, o4, o5⟩ := nn
  rcases x_any hk hm hc intra with hX | ⟨rfl, hm3⟩
  · obtain ⟨a, f, x1, x2, x3⟩ := okX_of hX
    exact ⟨known0 ++ [f_kinds_Type, f_kinds_Of, f_spindlelaw12_typed], 2, back_walk (sel_no rfl) rfl (sel_yes rfl o1 _ _) o2 o3 o4 (fun h => sel_yes rfl (o5 h) _ _) (sel_yes rfl x1 _ _) x2 (fun h => by obtain ⟨d, d1, d2, d3, d4⟩ := x3 h; exact ⟨d, sel_yes rfl d1 _ _, d2, d3, sel_yes rfl d4 _ _⟩) (sel_yes rfl awake_v _ _)⟩
  · have hh := ty_hi (selC (known0 ++ [f_kinds_Of, f_spindlelaw12_typed]) C1) 0 mode cbp intra S0 hm3 (fun f args h => sel_no (by rcases h with rfl | rfl <;> rfl)) (sel_yes rfl it _ _)
    exact ⟨known0 ++ [f_kinds_Of, f_spindlelaw12_typed], 2, back_walk (sel_no rfl) rfl (sel_yes rfl o1 _ _) o2 o3 o4 (fun h => sel_yes rfl (o5 h) _ _) hh.1 (fun _ => rfl) (fun h => by cases h) (sel_yes rfl awake_v _ _)⟩
theorem kindsBack_law (xs : List AV) (h : argsOk Tryd.prog maxLen 16 Tryd.f6.params.toList xs) : ∃ (C : CallF) (S' : Heap), NOk Tryd.prog Gk C ∧ C 6 0 xs S0 = some (.bool true, S') := by
  rw [Tryd.params6] at h
  obtain ⟨a, r, rfl, h1, b, r2, rfl, h2, c, r3, rfl, h3, d, r4, rfl, h4, e, r5, rfl, h5, rfl⟩ := h
  obtain ⟨kind, rfl, hk⟩ := arg5 h1
  obtain ⟨mode, rfl, hm⟩ := arg5 h2
  obtain ⟨cbp, rfl, hc⟩ := arg5 h3
  obtain ⟨n, rfl, hn⟩ := arg3 h4
  obtain ⟨intra, rfl⟩ := arg4 h5
  obtain ⟨fs, k, hS⟩ := back_law (intra := intra) hk hm hc hn
  exact ⟨_, S0, Cs_ok fs k, hS⟩
end Go.Ab.tK
