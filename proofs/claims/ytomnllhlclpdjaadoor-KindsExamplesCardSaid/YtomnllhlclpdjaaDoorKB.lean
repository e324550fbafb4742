/- The types of macroblocks: Type and Of of both sides, and the statement KindsTypes. No condition beyond what a call's arguments are. -/
import Derived.Test.YtomnllhlclpdjaaDoorKA
set_option maxRecDepth 100000
set_option linter.unusedSimpArgs false
set_option linter.unusedVariables false
set_option linter.unusedSectionVars false
namespace Go.Ab.tK
open Go Go.Proofs

def mb (kind mode cbp : Int) : List AV := [.int .u8 kind, .int .u8 mode, .int .u8 0, .int .u8 0, .int .u8 0, .int .u8 0, .int .u8 0, .int .u8 0, .int .u8 0, .int .u8 0, .int .u8 0, .int .u8 0, .int .u8 0, .int .u8 0, .int .u8 0, .int .u8 0, .int .u8 0, .int .u8 0, .int .u8 0, .int .u8 0, .int .u8 0, .int .u8 0, .int .u8 0, .nils, .nils, .int .u8 cbp, .int .i64 0, .nils, .str ByteArray.empty]
/-- Both sides return the same number and error. -/
noncomputable def okTy (kind mode cbp : Int) (intra : Bool) : Bool := match locC C1 f_kinds_Type 0 [.agg (mb kind mode cbp), .bool intra] S0, locC C1 f_spindleref12_Type 0 [.agg (mb kind mode cbp), .bool intra] S0 with
  | some (.tup [.int .i64 a, .int .i64 e], _), some (.tup [.int .i64 b, .int .i64 f], _) => a == b && e == f
  | _, _ => false
theorem ty_all (mode cbp : Int) : ((List.range 256).all fun k => Nat.beq k 1 || (okTy (Int.ofNat k) mode cbp true && okTy (Int.ofNat k) mode cbp false)) = true := by kernel_rfl
theorem ty1_all : ((List.range 4).all fun m => (List.range 256).all fun c => okTy 1 (Int.ofNat m) (Int.ofNat c) true && okTy 1 (Int.ofNat m) (Int.ofNat c) false) = true := by kernel_rfl
theorem okTy_of {kind mode cbp : Int} {intra : Bool} (h : okTy kind mode cbp intra = true) : ∃ a e, isV (locC C1 f_kinds_Type 0 [.agg (mb kind mode cbp), .bool intra] S0) (.tup [.int .i64 a, .int .i64 e]) = true ∧ isV (locC C1 f_spindleref12_Type 0 [.agg (mb kind mode cbp), .bool intra] S0) (.tup [.int .i64 a, .int .i64 e]) = true := by
  unfold okTy at h
  split at h
  · rename_i a e S b f T h1 h2
    simp only [Bool.and_eq_true, beq_iff_eq] at h
    obtain ⟨rfl, rfl⟩ := h
    exact ⟨a, e, isV_of h1 (by simp [AV.beq, beqL]), isV_of h2 (by simp [AV.beq, beqL])⟩
  · cases h
/-- Both sides return the same macroblock, which equals itself. -/
noncomputable def okOf (n : Int) (intra : Bool) : Bool := match locC C1 f_kinds_Of 0 [.int .i64 n, .bool intra] S0, locC C1 f_spindleref12_Of 0 [.int .i64 n, .bool intra] S0 with
  | some (.tup [.agg c, .int .i64 g], _), some (.tup [.agg d, .int .i64 h], _) => beqL c d && g == h && Nat.beq c.length 29 && c.all cell && isV (locC C1 f_spindlekit_EqualMb 0 [.agg c, .agg c] S0) (.bool true) && beqL c c
  | _, _ => false
theorem of_all : ((List.range 31).all fun n => okOf (Int.ofNat n) true && okOf (Int.ofNat n) false) = true := by kernel_rfl
theorem okOf_of {n : Int} {intra : Bool} (h : okOf n intra = true) : ∃ c g, isV (locC C1 f_kinds_Of 0 [.int .i64 n, .bool intra] S0) (.tup [.agg c, .int .i64 g]) = true ∧ isV (locC C1 f_spindleref12_Of 0 [.int .i64 n, .bool intra] S0) (.tup [.agg c, .int .i64 g]) = true ∧
    c.length = 29 ∧ c.all cell = true ∧ isV (locC C1 f_spindlekit_EqualMb 0 [.agg c, .agg c] S0) (.bool true) = true := by
  unfold okOf at h
  split at h
  · rename_i c g S d h' T h1 h2
    simp only [Bool.and_eq_true, beq_iff_eq] at h
    obtain ⟨⟨⟨⟨⟨e1, rfl⟩, e3⟩, e4⟩, e5⟩, e6⟩ := h
    have := beqL_eq _ _ e1
    subst this
    exact ⟨c, g, isV_of h1 (by simp [AV.beq, beqL, e6]), isV_of h2 (by simp [AV.beq, beqL, e6]), Nat.eq_of_beq_eq_true e3, e4, e5⟩
  · cases h
theorem of_big (m : Nat) (intra : Bool) : isV (locC C1 f_spindleref12_Of 0 [.int .i64 (Int.ofNat (m + 31)), .bool intra] S0) (.tup [.agg (mb 0 0 0), .int .i64 3]) = true := by cases intra <;> kernel_rfl
theorem of_neg (m : Nat) (intra : Bool) : isV (locC C1 f_spindleref12_Of 0 [.int .i64 (Int.negSucc m), .bool intra] S0) (.tup [.agg (mb 0 0 0), .int .i64 3]) = true := by cases intra <;> kernel_rfl
theorem eq0 : isV (locC C1 f_spindlekit_EqualMb 0 [.agg (mb 0 0 0), .agg (mb 0 0 0)] S0) (.bool true) = true := by kernel_rfl
theorem intra_all : ((List.range 256).all fun k => (match locC C1 f_kinds_Intra 0 [.int .u8 (Int.ofNat k)] S0, locC C1 f_spindleref12_Intra 0 [.int .u8 (Int.ofNat k)] S0 with | some (.bool a, _), some (.bool b, _) => a == b | _, _ => false)) = true := by kernel_rfl
theorem intra_of {kind : Int} (hk : 0 ≤ kind ∧ kind ≤ 255) : ∃ b, isV (locC C1 f_kinds_Intra 0 [.int .u8 kind] S0) (.bool b) = true ∧ isV (locC C1 f_spindleref12_Intra 0 [.int .u8 kind] S0) (.bool b) = true := by
  obtain ⟨k, rfl⟩ := Int.eq_ofNat_of_zero_le hk.1
  have h := List.all_eq_true.1 intra_all k (List.mem_range.2 (by omega))
  split at h
  · rename_i a _ b _ h1 h2
    simp only [beq_iff_eq] at h
    subst h
    exact ⟨a, isV_of h1 (by simp [AV.beq]), isV_of h2 (by simp [AV.beq])⟩
  · cases h
theorem awake_v : isV (locC C1 f_spindlelaw12_awake 0 [] S0) (.bool true) = true := by kernel_rfl

theorem z29 : List.take 29 (List.drop 0 (setCells (mb 0 0 0) 0 (mb 0 0 0))) = mb 0 0 0 := rfl
theorem fz_mb (S : Heap) : fz 40 (.tup [.agg (mb 0 0 0), .int .i64 3]) S = some (.tup [.agg (mb 0 0 0), .int .i64 3], S) := rfl
theorem of_out (B : CallF) (k : Nat) (n : Int) (intra : Bool) (S : Heap) (hn : -9223372036854775808 ≤ n ∧ n ≤ 9223372036854775807) (ho : n < 0 ∨ n > 30) (hB : B f_kinds_Of 0 [.int .i64 n, .bool intra] S = none) :
    Cn B (k + 1) f_kinds_Of 0 [.int .i64 n, .bool intra] S = some (.tup [.agg (mb 0 0 0), .int .i64 3], S) := by
  rw [c_kinds_Of _ _ _ _ _ hB, T_kinds_Of]
  simp only [asInt_i, asBool_b]
  rw [show ([.int .u8 0, .int .u8 0, .int .u8 0, .int .u8 0, .int .u8 0, .int .u8 0, .int .u8 0, .int .u8 0, .int .u8 0, .int .u8 0, .int .u8 0, .int .u8 0, .int .u8 0, .int .u8 0, .int .u8 0, .int .u8 0, .int .u8 0, .int .u8 0, .int .u8 0, .int .u8 0, .int .u8 0, .int .u8 0, .int .u8 0, .nils, .nils, .int .u8 0, .int .i64 0, .nils, .str ByteArray.empty] : List AV) = mb 0 0 0 from rfl]
  have hl : (mb 0 0 0).length = 29 := rfl
  have hsl : (setCells (mb 0 0 0) 0 (mb 0 0 0)).length = 29 := rfl
  have hle : (29 : Nat) ≤ 29 := by omega
  cases intra
  · by_cases h0 : n ≥ 0
    · have h1 : ¬ n ≤ 3 := by omega
      have h2 : ¬ n < 5 := by omega
      have hw : IntKind.wrap .i64 (n - 5) = n - 5 := wr _ (by omega)
      have h3 : ¬ n - 5 < 0 := by omega
      have h4 : n - 5 > 25 := by omega
      simp only [eql_b4, neq_b4, len_nils24, len_is24, len_hs24, len_nils25, len_is25, len_hs25, len_nils26, len_is26, len_hs26, len_nils51, len_is51, len_hs51, len_nils54, len_is54, len_hs54, len_nils57, len_is57, len_hs57, bO_s, gB_t, asBool_b, asInt_i, asAgg_a, asTup_a, asStr_s, asCons_c, asNil_n, nthA_0, nthA_s, aggCells_a, addV_p, addV_i, seeV_p, seeV_i, same_nil, same_1, same_2, tr_v, decide_true, decide_false, Bool.false_eq_true, if_false, if_true, Bool.not_true, Bool.not_false, Bool.and_true, Bool.true_and, Bool.and_self, List.getElem?_cons_zero, List.getElem?_cons_succ, Nat.zero_add, Nat.add_zero, beq_self_eq_true, bne_self_eq_false, Int.reduceBNe, Int.reduceBEq, Int.reduceLT, Int.reduceGT, Int.reduceLE, Int.reduceGE, Nat.reduceAdd, Nat.reduceMul, Nat.reduceLeDiff, h0, h1, h2, hw, h3, h4, hl, hsl, hle, z29, fz_mb]
    · have h2 : n < 5 := by omega
      simp only [eql_b4, neq_b4, len_nils24, len_is24, len_hs24, len_nils25, len_is25, len_hs25, len_nils26, len_is26, len_hs26, len_nils51, len_is51, len_hs51, len_nils54, len_is54, len_hs54, len_nils57, len_is57, len_hs57, bO_s, gB_t, asBool_b, asInt_i, asAgg_a, asTup_a, asStr_s, asCons_c, asNil_n, nthA_0, nthA_s, aggCells_a, addV_p, addV_i, seeV_p, seeV_i, same_nil, same_1, same_2, tr_v, decide_true, decide_false, Bool.false_eq_true, if_false, if_true, Bool.not_true, Bool.not_false, Bool.and_true, Bool.true_and, Bool.and_self, List.getElem?_cons_zero, List.getElem?_cons_succ, Nat.zero_add, Nat.add_zero, beq_self_eq_true, bne_self_eq_false, Int.reduceBNe, Int.reduceBEq, Int.reduceLT, Int.reduceGT, Int.reduceLE, Int.reduceGE, Nat.reduceAdd, Nat.reduceMul, Nat.reduceLeDiff, h0, h2, hl, hsl, hle, z29, fz_mb]
  · by_cases h0 : n < 0
    · simp only [eql_b4, neq_b4, len_nils24, len_is24, len_hs24, len_nils25, len_is25, len_hs25, len_nils26, len_is26, len_hs26, len_nils51, len_is51, len_hs51, len_nils54, len_is54, len_hs54, len_nils57, len_is57, len_hs57, bO_s, gB_t, asBool_b, asInt_i, asAgg_a, asTup_a, asStr_s, asCons_c, asNil_n, nthA_0, nthA_s, aggCells_a, addV_p, addV_i, seeV_p, seeV_i, same_nil, same_1, same_2, tr_v, decide_true, decide_false, Bool.false_eq_true, if_false, if_true, Bool.not_true, Bool.not_false, Bool.and_true, Bool.true_and, Bool.and_self, List.getElem?_cons_zero, List.getElem?_cons_succ, Nat.zero_add, Nat.add_zero, beq_self_eq_true, bne_self_eq_false, Int.reduceBNe, Int.reduceBEq, Int.reduceLT, Int.reduceGT, Int.reduceLE, Int.reduceGE, Nat.reduceAdd, Nat.reduceMul, Nat.reduceLeDiff, h0, hl, hsl, hle, z29, fz_mb]
    · have h4 : n > 25 := by omega
      simp only [eql_b4, neq_b4, len_nils24, len_is24, len_hs24, len_nils25, len_is25, len_hs25, len_nils26, len_is26, len_hs26, len_nils51, len_is51, len_hs51, len_nils54, len_is54, len_hs54, len_nils57, len_is57, len_hs57, bO_s, gB_t, asBool_b, asInt_i, asAgg_a, asTup_a, asStr_s, asCons_c, asNil_n, nthA_0, nthA_s, aggCells_a, addV_p, addV_i, seeV_p, seeV_i, same_nil, same_1, same_2, tr_v, decide_true, decide_false, Bool.false_eq_true, if_false, if_true, Bool.not_true, Bool.not_false, Bool.and_true, Bool.true_and, Bool.and_self, List.getElem?_cons_zero, List.getElem?_cons_succ, Nat.zero_add, Nat.add_zero, beq_self_eq_true, bne_self_eq_false, Int.reduceBNe, Int.reduceBEq, Int.reduceLT, Int.reduceGT, Int.reduceLE, Int.reduceGE, Nat.reduceAdd, Nat.reduceMul, Nat.reduceLeDiff, h0, h4, hl, hsl, hle, z29, fz_mb]
theorem ty_hi (B : CallF) (k : Nat) (mode cbp : Int) (intra : Bool) (S : Heap) (hm : mode > 3) (hB : ∀ f args, f = f_kinds_Type ∨ f = f_spindleref12_Type → B f 0 args S = none) (hi : Cn B k f_kinds_Intra 0 [.int .u8 1] S = some (.bool true, S)) :
    Cn B (k + 1) f_kinds_Type 0 [.agg (mb 1 mode cbp), .bool intra] S = some (.tup [.int .i64 0, .int .i64 3], S) ∧ Cn B (k + 1) f_spindleref12_Type 0 [.agg (mb 1 mode cbp), .bool intra] S = some (.tup [.int .i64 0, .int .i64 3], S) := by
  have hl : (mb 1 mode cbp).length = 29 := rfl
  have m0 : (mb 1 mode cbp)[0]? = some (.int .u8 1) := rfl
  have m1 : (mb 1 mode cbp)[1]? = some (.int .u8 mode) := rfl
  constructor
  · rw [c_kinds_Type _ _ _ _ _ (hB _ _ (.inl rfl)), T_kinds_Type]
    cases intra <;> simp only [eql_b4, neq_b4, len_nils24, len_is24, len_hs24, len_nils25, len_is25, len_hs25, len_nils26, len_is26, len_hs26, len_nils51, len_is51, len_hs51, len_nils54, len_is54, len_hs54, len_nils57, len_is57, len_hs57, bO_s, gB_t, asBool_b, asInt_i, asAgg_a, asTup_a, asStr_s, asCons_c, asNil_n, nthA_0, nthA_s, aggCells_a, addV_p, addV_i, seeV_p, seeV_i, same_nil, same_1, same_2, tr_v, decide_true, decide_false, Bool.false_eq_true, if_false, if_true, Bool.not_true, Bool.not_false, Bool.and_true, Bool.true_and, Bool.and_self, List.getElem?_cons_zero, List.getElem?_cons_succ, Nat.zero_add, Nat.add_zero, beq_self_eq_true, bne_self_eq_false, Int.reduceBNe, Int.reduceBEq, Int.reduceLT, Int.reduceGT, Int.reduceLE, Int.reduceGE, Nat.reduceAdd, Nat.reduceMul, Nat.reduceLeDiff, hl, m0, m1, hi, hm]
  · rw [c_spindleref12_Type _ _ _ _ _ (hB _ _ (.inr rfl)), T_spindleref12_Type]
    cases intra <;> simp only [eql_b4, neq_b4, len_nils24, len_is24, len_hs24, len_nils25, len_is25, len_hs25, len_nils26, len_is26, len_hs26, len_nils51, len_is51, len_hs51, len_nils54, len_is54, len_hs54, len_nils57, len_is57, len_hs57, bO_s, gB_t, asBool_b, asInt_i, asAgg_a, asTup_a, asStr_s, asCons_c, asNil_n, nthA_0, nthA_s, aggCells_a, addV_p, addV_i, seeV_p, seeV_i, same_nil, same_1, same_2, tr_v, decide_true, decide_false, Bool.false_eq_true, if_false, if_true, Bool.not_true, Bool.not_false, Bool.and_true, Bool.true_and, Bool.and_self, List.getElem?_cons_zero, List.getElem?_cons_succ, Nat.zero_add, Nat.add_zero, beq_self_eq_true, bne_self_eq_false, Int.reduceBNe, Int.reduceBEq, Int.reduceLT, Int.reduceGT, Int.reduceLE, Int.reduceGE, Nat.reduceAdd, Nat.reduceMul, Nat.reduceLeDiff, hl, m0, m1, hm]

/-- What is known of the two sides' Type, whatever the macroblock. -/
theorem ty_any {kind mode cbp : Int} (hk : 0 ≤ kind ∧ kind ≤ 255) (hm : 0 ≤ mode ∧ mode ≤ 255) (hc : 0 ≤ cbp ∧ cbp ≤ 255) (intra : Bool) :
    (okTy kind mode cbp intra = true) ∨ (kind = 1 ∧ mode > 3) := by
  obtain ⟨k, rfl⟩ := Int.eq_ofNat_of_zero_le hk.1
  by_cases h1 : k = 1
  · subst h1
    by_cases h2 : mode > 3
    · exact .inr ⟨rfl, h2⟩
    · obtain ⟨m, rfl⟩ := Int.eq_ofNat_of_zero_le hm.1
      obtain ⟨c, rfl⟩ := Int.eq_ofNat_of_zero_le hc.1
      have h := List.all_eq_true.1 (List.all_eq_true.1 ty1_all m (List.mem_range.2 (by omega))) c (List.mem_range.2 (by omega))
      simp only [Bool.and_eq_true] at h
      cases intra
      · exact .inl h.2
      · exact .inl h.1
  · have h := List.all_eq_true.1 (ty_all mode cbp) k (List.mem_range.2 (by omega))
    have : Nat.beq k 1 = false := by
      cases hb : Nat.beq k 1 with
      | false => rfl
      | true => exact absurd (Nat.eq_of_beq_eq_true hb) h1
    simp only [this, Bool.false_or, Bool.and_eq_true] at h
    cases intra
    · exact .inl h.2
    · exact .inl h.1
theorem of_any {n : Int} (intra : Bool) : (okOf n intra = true) ∨ (n < 0 ∨ n > 30) := by
  by_cases h : n < 0 ∨ n > 30
  · exact .inr h
  · obtain ⟨m, rfl⟩ := Int.eq_ofNat_of_zero_le (show 0 ≤ n by omega)
    have h := List.all_eq_true.1 of_all m (List.mem_range.2 (by omega))
    simp only [Bool.and_eq_true] at h
    cases intra
    · exact .inl h.2
    · exact .inl h.1
theorem of_out' {n : Int} (intra : Bool) (ho : n < 0 ∨ n > 30) : isV (locC C1 f_spindleref12_Of 0 [.int .i64 n, .bool intra] S0) (.tup [.agg (mb 0 0 0), .int .i64 3]) = true := by
  rcases ho with h | h
  · obtain ⟨m, rfl⟩ := Int.eq_negSucc_of_lt_zero h
    exact of_neg m intra
  · obtain ⟨m, rfl⟩ := Int.eq_ofNat_of_zero_le (show 0 ≤ n by omega)
    obtain ⟨j, rfl⟩ := Nat.le.dest (show 31 ≤ m by omega)
    rw [Nat.add_comm]
    exact of_big j intra

def known0 : List Nat := [f_spindleref12_Of, f_spindlekit_EqualMb, f_spindlelaw12_awake, f_kinds_Intra, f_spindleref12_Intra]
theorem types_walk {B : CallF} {k : Nat} {kind mode cbp n : Int} {intra : Bool} {a e g : Int} {b : Bool} {c : List AV} (hB : B f_spindlelaw12_KindsTypes 0 [.int .u8 kind, .int .u8 mode, .int .u8 cbp, .int .i64 n, .bool intra] S0 = none)
    (h1 : Cn B k f_kinds_Type 0 [.agg (mb kind mode cbp), .bool intra] S0 = some (.tup [.int .i64 a, .int .i64 e], S0)) (h2 : Cn B k f_spindleref12_Type 0 [.agg (mb kind mode cbp), .bool intra] S0 = some (.tup [.int .i64 a, .int .i64 e], S0))
    (h3 : Cn B k f_kinds_Of 0 [.int .i64 n, .bool intra] S0 = some (.tup [.agg c, .int .i64 g], S0)) (h4 : Cn B k f_spindleref12_Of 0 [.int .i64 n, .bool intra] S0 = some (.tup [.agg c, .int .i64 g], S0)) (hcl : c.length = 29) (hcc : c.all cell = true)
    (h5 : Cn B k f_kinds_Intra 0 [.int .u8 kind] S0 = some (.bool b, S0)) (h6 : Cn B k f_spindleref12_Intra 0 [.int .u8 kind] S0 = some (.bool b, S0)) (h7 : Cn B k f_spindlekit_EqualMb 0 [.agg c, .agg c] S0 = some (.bool true, S0)) (h8 : Cn B k f_spindlelaw12_awake 0 [] S0 = some (.bool true, S0)) :
    Cn B (k + 1) f_spindlelaw12_KindsTypes 0 [.int .u8 kind, .int .u8 mode, .int .u8 cbp, .int .i64 n, .bool intra] S0 = some (.bool true, S0) := by
  rw [c_spindlelaw12_KindsTypes _ _ _ _ _ _ _ _ hB, T_spindlelaw12_KindsTypes]
  unfold mb at h1 h2
  have hs := setCells_all (mb 0 0 0) c (by rw [hcl]; rfl)
  unfold mb at hs
  have ht : List.take 29 (List.drop 0 c) = c := by rw [List.drop_zero, List.take_of_length_le (by omega)]
  have hbb : (b == b) = true := by simp
  have hle : (29 : Nat) ≤ 29 := by omega
  simp only [eql_b4, neq_b4, len_nils24, len_is24, len_hs24, len_nils25, len_is25, len_hs25, len_nils26, len_is26, len_hs26, len_nils51, len_is51, len_hs51, len_nils54, len_is54, len_hs54, len_nils57, len_is57, len_hs57, bO_s, gB_t, asBool_b, asInt_i, asAgg_a, asTup_a, asStr_s, asCons_c, asNil_n, nthA_0, nthA_s, aggCells_a, addV_p, addV_i, seeV_p, seeV_i, same_nil, same_1, same_2, tr_v, decide_true, decide_false, Bool.false_eq_true, if_false, if_true, Bool.not_true, Bool.not_false, Bool.and_true, Bool.true_and, Bool.and_self, List.getElem?_cons_zero, List.getElem?_cons_succ, Nat.zero_add, Nat.add_zero, beq_self_eq_true, bne_self_eq_false, Int.reduceBNe, Int.reduceBEq, Int.reduceLT, Int.reduceGT, Int.reduceLE, Int.reduceGE, Nat.reduceAdd, Nat.reduceMul, Nat.reduceLeDiff, h1, h2, h3, h4, h5, h6, hcl, hcc, hle, hbb, hs, ht, h7, h8]
theorem types_law {kind mode cbp n : Int} {intra : Bool} (hk : 0 ≤ kind ∧ kind ≤ 255) (hm : 0 ≤ mode ∧ mode ≤ 255) (hc : 0 ≤ cbp ∧ cbp ≤ 255) (hn : -9223372036854775808 ≤ n ∧ n ≤ 9223372036854775807) :
    ∃ fs k, Cn (selC fs C1) k f_spindlelaw12_KindsTypes 0 [.int .u8 kind, .int .u8 mode, .int .u8 cbp, .int .i64 n, .bool intra] S0 = some (.bool true, S0) := by
  obtain ⟨b, i1, i2⟩ := intra_of hk
  rcases ty_any hk hm hc intra with ht | ⟨rfl, hm3⟩
  · obtain ⟨a, e, t1, t2⟩ := okTy_of ht
    rcases of_any (n := n) intra with ho | ho
    · obtain ⟨c, g, o1, o2, o3, o4, o5⟩ := okOf_of ho
      refine ⟨known0 ++ [f_kinds_Type, f_spindleref12_Type, f_kinds_Of], 2, types_walk (sel_no rfl) (sel_yes rfl t1 _ _) (sel_yes rfl t2 _ _) (sel_yes rfl o1 _ _) (sel_yes rfl o2 _ _) o3 o4 (sel_yes rfl i1 _ _) (sel_yes rfl i2 _ _) (sel_yes rfl o5 _ _) (sel_yes rfl awake_v _ _)⟩
    · refine ⟨known0 ++ [f_kinds_Type, f_spindleref12_Type], 2, types_walk (sel_no rfl) (sel_yes rfl t1 _ _) (sel_yes rfl t2 _ _) (of_out _ 0 n intra S0 hn ho (sel_no rfl)) (sel_yes rfl (of_out' intra ho) _ _) rfl rfl (sel_yes rfl i1 _ _) (sel_yes rfl i2 _ _) (sel_yes rfl eq0 _ _) (sel_yes rfl awake_v _ _)⟩
  · have it : isV (locC C1 f_kinds_Intra 0 [.int .u8 1] S0) (.bool true) = true := by kernel_rfl
    rcases of_any (n := n) intra with ho | ho
    · obtain ⟨c, g, o1, o2, o3, o4, o5⟩ := okOf_of ho
      have hh := ty_hi (selC (known0 ++ [f_kinds_Of]) C1) 0 mode cbp intra S0 hm3 (fun f args h => sel_no (by rcases h with rfl | rfl <;> rfl)) (sel_yes rfl it _ _)
      refine ⟨known0 ++ [f_kinds_Of], 2, types_walk (sel_no rfl) hh.1 hh.2 (sel_yes rfl o1 _ _) (sel_yes rfl o2 _ _) o3 o4 (sel_yes rfl i1 _ _) (sel_yes rfl i2 _ _) (sel_yes rfl o5 _ _) (sel_yes rfl awake_v _ _)⟩
    · have hh := ty_hi (selC known0 C1) 0 mode cbp intra S0 hm3 (fun f args h => sel_no (by rcases h with rfl | rfl <;> rfl)) (sel_yes rfl it _ _)
      refine ⟨known0, 2, types_walk (sel_no rfl) hh.1 hh.2 (of_out _ 0 n intra S0 hn ho (sel_no rfl)) (sel_yes rfl (of_out' intra ho) _ _) rfl rfl (sel_yes rfl i1 _ _) (sel_yes rfl i2 _ _) (sel_yes rfl eq0 _ _) (sel_yes rfl awake_v _ _)⟩
theorem kindsTypes_law (xs : List AV) (h : argsOk Tryd.prog maxLen 16 Tryd.f3.params.toList xs) : ∃ (C : CallF) (S' : Heap), NOk Tryd.prog Gk C ∧ C 3 0 xs S0 = some (.bool true, S') := by
  rw [Tryd.params3] at h
  obtain ⟨a, r, rfl, h1, b, r2, rfl, h2, c, r3, rfl, h3, d, r4, rfl, h4, e, r5, rfl, h5, rfl⟩ := h
  obtain ⟨kind, rfl, hk⟩ := arg5 h1
  obtain ⟨mode, rfl, hm⟩ := arg5 h2
  obtain ⟨cbp, rfl, hc⟩ := arg5 h3
  obtain ⟨n, rfl, hn⟩ := arg3 h4
  obtain ⟨intra, rfl⟩ := arg4 h5
  obtain ⟨fs, k, hS⟩ := types_law (intra := intra) hk hm hc hn
  exact ⟨_, S0, Cs_ok fs k, hS⟩
end Go.Ab.tK
