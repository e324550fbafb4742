/- Types and macroblocks are one to one: the statement KindsBack. No condition beyond what a call's arguments are. -/
import Derived.Test.YtomnllhlclpdjaaDoorKB
set_option maxRecDepth 100000
set_option linter.unusedSimpArgs false
set_option linter.unusedVariables false
set_option linter.unusedSectionVars false
namespace Go.Ab.tK
open Go Go.Proofs

def inR (n : Int) (intra : Bool) : Bool := decide (0 ≤ n) && decide (n ≤ (if intra then 25 else 30)) && (intra || n != 4)
noncomputable def okN (n : Int) (intra : Bool) : Bool := match locC C1 f_kinds_Of 0 [.int .i64 n, .bool intra] S0 with
  | some (.tup [.agg c, .int .i64 g], _) => Nat.beq c.length 29 && c.all cell && ((g == 0) == inR n intra) && (g != 0 || isV (locC C1 f_spindlelaw12_typed 0 [.agg c, .bool intra, .int .i64 n] S0) (.bool true)) && beqL c c
  | _ => false
theorem n_all : ((List.range 31).all fun n => okN (Int.ofNat n) true && okN (Int.ofNat n) false) = true := by kernel_rfl
theorem okN_of {n : Int} {intra : Bool} (h : okN n intra = true) : ∃ c g, isV (locC C1 f_kinds_Of 0 [.int .i64 n, .bool intra] S0) (.tup [.agg c, .int .i64 g]) = true ∧ c.length = 29 ∧ c.all cell = true ∧ (g == 0) = inR n intra ∧
    (g = 0 → isV (locC C1 f_spindlelaw12_typed 0 [.agg c, .bool intra, .int .i64 n] S0) (.bool true) = true) := by
  unfold okN at h
  split at h
  · rename_i c g S h1
    simp only [Bool.and_eq_true, Bool.or_eq_true] at h
    obtain ⟨⟨⟨⟨e1, e2⟩, e3⟩, e4⟩, e6⟩ := h
    refine ⟨c, g, isV_of h1 (by simp [AV.beq, beqL, e6]), Nat.eq_of_beq_eq_true e1, e2, by simpa using e3, fun h0 => ?_⟩
    subst h0
    simpa using e4
  · cases h
noncomputable def okX (x : List AV) (intra : Bool) : Bool := match locC C1 f_kinds_Type 0 [.agg x, .bool intra] S0 with
  | some (.tup [.int .i64 a, .int .i64 f], _) => if f = 0 then (match locC C1 f_kinds_Of 0 [.int .i64 a, .bool intra] S0 with
    | some (.tup [.agg d, .int .i64 g], _) => g == 0 && Nat.beq d.length 29 && d.all cell && isV (locC C1 f_spindlekit_EqualMb 0 [.agg x, .agg d] S0) (.bool true) && beqL d d
    | _ => false) else a == 0
  | _ => false
theorem okX_of {x : List AV} {intra : Bool} (h : okX x intra = true) : ∃ a f, isV (locC C1 f_kinds_Type 0 [.agg x, .bool intra] S0) (.tup [.int .i64 a, .int .i64 f]) = true ∧ (f ≠ 0 → a = 0) ∧
    (f = 0 → ∃ d, isV (locC C1 f_kinds_Of 0 [.int .i64 a, .bool intra] S0) (.tup [.agg d, .int .i64 0]) = true ∧ d.length = 29 ∧ d.all cell = true ∧ isV (locC C1 f_spindlekit_EqualMb 0 [.agg x, .agg d] S0) (.bool true) = true) := by
  unfold okX at h
  split at h
  · rename_i a f S h1
    refine ⟨a, f, isV_of h1 (by simp [AV.beq, beqL]), fun hf => ?_, fun hf => ?_⟩
    · rw [if_neg hf] at h; simpa using h
    · rw [if_pos hf] at h
      split at h
      · rename_i d g T h2
        simp only [Bool.and_eq_true, beq_iff_eq] at h
        obtain ⟨⟨⟨⟨rfl, e1⟩, e2⟩, e3⟩, e4⟩ := h
        exact ⟨d, isV_of h2 (by simp [AV.beq, beqL, e4]), Nat.eq_of_beq_eq_true e1, e2, e3⟩
      · cases h
  · cases h
theorem x_all : ((List.range 256).all fun k => Nat.beq k 1 || (okX (mb (Int.ofNat k) 0 0) true && okX (mb (Int.ofNat k) 0 0) false)) = true := by kernel_rfl
theorem x1_all : ((List.range 4).all fun m => (List.range 256).all fun c => okX (mb 1 (Int.ofNat m) (Int.ofNat c)) true && okX (mb 1 (Int.ofNat m) (Int.ofNat c)) false) = true := by kernel_rfl
theorem x_any {kind mode cbp : Int} (hk : 0 ≤ kind ∧ kind ≤ 255) (hm : 0 ≤ mode ∧ mode ≤ 255) (hc : 0 ≤ cbp ∧ cbp ≤ 255) (intra : Bool) :
    (okX (if kind = 1 then mb kind mode cbp else mb kind 0 0) intra = true) ∨ (kind = 1 ∧ mode > 3) := by
  obtain ⟨k, rfl⟩ := Int.eq_ofNat_of_zero_le hk.1
  by_cases h1 : k = 1
  · subst h1
    by_cases h2 : mode > 3
    · exact .inr ⟨rfl, h2⟩
    · obtain ⟨m, rfl⟩ := Int.eq_ofNat_of_zero_le hm.1
      obtain ⟨c, rfl⟩ := Int.eq_ofNat_of_zero_le hc.1
      have h := List.all_eq_true.1 (List.all_eq_true.1 x1_all m (List.mem_range.2 (by omega))) c (List.mem_range.2 (by omega))
      simp only [Bool.and_eq_true] at h
      rw [if_pos (show ((1 : Nat) : Int) = 1 from rfl)]
      cases intra
      · exact .inl h.2
      · exact .inl h.1
  · have h := List.all_eq_true.1 x_all k (List.mem_range.2 (by omega))
    have : Nat.beq k 1 = false := by
      cases hb : Nat.beq k 1 with
      | false => rfl
      | true => exact absurd (Nat.eq_of_beq_eq_true hb) h1
    simp only [this, Bool.false_or, Bool.and_eq_true] at h
    rw [if_neg (by omega)]
    cases intra
    · exact .inl h.2
    · exact .inl h.1

theorem back_walk {B : CallF} {k : Nat} {kind mode cbp n : Int} {intra : Bool} {g a f : Int} {c x : List AV} (hB : B f_spindlelaw12_KindsBack 0 [.int .u8 kind, .int .u8 mode, .int .u8 cbp, .int .i64 n, .bool intra] S0 = none)
    (hx : x = if kind = 1 then mb kind mode cbp else mb kind 0 0) (h1 : Cn B k f_kinds_Of 0 [.int .i64 n, .bool intra] S0 = some (.tup [.agg c, .int .i64 g], S0)) (hcl : c.length = 29) (hcc : c.all cell = true) (hg : (g == 0) = inR n intra)
    (h2 : g = 0 → Cn B k f_spindlelaw12_typed 0 [.agg c, .bool intra, .int .i64 n] S0 = some (.bool true, S0)) (h3 : Cn B k f_kinds_Type 0 [.agg x, .bool intra] S0 = some (.tup [.int .i64 a, .int .i64 f], S0)) (h4 : f ≠ 0 → a = 0)
    (h5 : f = 0 → ∃ d, Cn B k f_kinds_Of 0 [.int .i64 a, .bool intra] S0 = some (.tup [.agg d, .int .i64 0], S0) ∧ d.length = 29 ∧ d.all cell = true ∧ Cn B k f_spindlekit_EqualMb 0 [.agg x, .agg d] S0 = some (.bool true, S0)) (h8 : Cn B k f_spindlelaw12_awake 0 [] S0 = some (.bool true, S0)) :
    Cn B (k + 1) f_spindlelaw12_KindsBack 0 [.int .u8 kind, .int .u8 mode, .int .u8 cbp, .int .i64 n, .bool intra] S0 = some (.bool true, S0) := by
  rw [c_spindlelaw12_KindsBack _ _ _ _ _ _ _ _ hB, T_spindlelaw12_KindsBack]
  have hs := setCells_all (mb 0 0 0) c (by rw [hcl]; rfl)
  have ht : List.take 29 (List.drop 0 c) = c := by rw [List.drop_zero, List.take_of_length_le (by omega)]
  have hle : (29 : Nat) ≤ 29 := by omega
  rw [show ([.int .u8 0, .int .u8 0, .int .u8 0, .int .u8 0, .int .u8 0, .int .u8 0, .int .u8 0, .int .u8 0, .int .u8 0, .int .u8 0, .int .u8 0, .int .u8 0, .int .u8 0, .int .u8 0, .int .u8 0, .int .u8 0, .int .u8 0, .int .u8 0, .int .u8 0, .int .u8 0, .int .u8 0, .int .u8 0, .int .u8 0, .nils, .nils, .int .u8 0, .int .i64 0, .nils, .str ByteArray.empty] : List AV) = mb 0 0 0 from rfl]
  have hm : ∀ m' c', ([.int .u8 kind, .int .u8 m', .int .u8 0, .int .u8 0, .int .u8 0, .int .u8 0, .int .u8 0, .int .u8 0, .int .u8 0, .int .u8 0, .int .u8 0, .int .u8 0, .int .u8 0, .int .u8 0, .int .u8 0, .int .u8 0, .int .u8 0, .int .u8 0, .int .u8 0, .int .u8 0, .int .u8 0, .int .u8 0, .int .u8 0, .nils, .nils, .int .u8 c', .int .i64 0, .nils, .str ByteArray.empty] : List AV) = mb kind m' c' := fun _ _ => rfl
  have ml : ∀ k' m' c', (mb k' m' c').length = 29 := fun _ _ _ => rfl
  have mt : ∀ k' m' c', List.take 29 (List.drop 0 (mb k' m' c')) = mb k' m' c' := fun _ _ _ => rfl
  have hx1 : kind = 1 → mb kind mode cbp = x := fun h => by rw [hx, if_pos h]
  have hx0 : kind ≠ 1 → mb kind 0 0 = x := fun h => by rw [hx, if_neg h]
  have hxl : x.length = 29 := by rw [hx]; split <;> rfl
  have hxt : List.take 29 (List.drop 0 x) = x := by rw [List.drop_zero, List.take_of_length_le (by omega)]
  cases intra with
  | true =>
    by_cases n0 : n ≥ 0
    · by_cases n1 : n ≤ 25
      · have hi : inR n true = true := by unfold inR; simp [n0, n1]
        rw [hi] at hg
        have g0 : g = 0 := by simpa using hg
        have h2 := h2 g0
        by_cases hk : kind = 1
        · have hkb : (kind == 1) = true := by simp [hk]
          have hxk := hx1 hk
          by_cases hf : f = 0
          · obtain ⟨d, d1, d2, d3, d4⟩ := h5 hf
            have hs' := setCells_all (mb 0 0 0) d (by rw [d2]; rfl)
            have ht' : List.take 29 (List.drop 0 d) = d := by rw [List.drop_zero, List.take_of_length_le (by omega)]
            subst hf
            simp only [eql_b4, neq_b4, len_nils24, len_is24, len_hs24, len_nils25, len_is25, len_hs25, len_nils26, len_is26, len_hs26, len_nils51, len_is51, len_hs51, len_nils54, len_is54, len_hs54, len_nils57, len_is57, len_hs57, bO_s, gB_t, asBool_b, asInt_i, asAgg_a, asTup_a, asStr_s, asCons_c, asNil_n, nthA_0, nthA_s, aggCells_a, addV_p, addV_i, seeV_p, seeV_i, same_nil, same_1, same_2, tr_v, decide_true, decide_false, Bool.false_eq_true, if_false, if_true, Bool.not_true, Bool.not_false, Bool.and_true, Bool.true_and, Bool.and_self, List.getElem?_cons_zero, List.getElem?_cons_succ, Nat.zero_add, Nat.add_zero, beq_self_eq_true, bne_self_eq_false, Int.reduceBNe, Int.reduceBEq, Int.reduceLT, Int.reduceGT, Int.reduceLE, Int.reduceGE, Nat.reduceAdd, Nat.reduceMul, Nat.reduceLeDiff, h1, hcl, hcc, hle, n0, n1, h2, hg, hs, ht, hkb, hm, ml, mt, hxk, hxl, hxt, h3, d1, d2, d3, hs', ht', d4, h8]
          · have ha := h4 hf
            subst ha
            have hfb : (f != 0) = true := by simp [hf]
            simp only [eql_b4, neq_b4, len_nils24, len_is24, len_hs24, len_nils25, len_is25, len_hs25, len_nils26, len_is26, len_hs26, len_nils51, len_is51, len_hs51, len_nils54, len_is54, len_hs54, len_nils57, len_is57, len_hs57, bO_s, gB_t, asBool_b, asInt_i, asAgg_a, asTup_a, asStr_s, asCons_c, asNil_n, nthA_0, nthA_s, aggCells_a, addV_p, addV_i, seeV_p, seeV_i, same_nil, same_1, same_2, tr_v, decide_true, decide_false, Bool.false_eq_true, if_false, if_true, Bool.not_true, Bool.not_false, Bool.and_true, Bool.true_and, Bool.and_self, List.getElem?_cons_zero, List.getElem?_cons_succ, Nat.zero_add, Nat.add_zero, beq_self_eq_true, bne_self_eq_false, Int.reduceBNe, Int.reduceBEq, Int.reduceLT, Int.reduceGT, Int.reduceLE, Int.reduceGE, Nat.reduceAdd, Nat.reduceMul, Nat.reduceLeDiff, h1, hcl, hcc, hle, n0, n1, h2, hg, hs, ht, hkb, hm, ml, mt, hxk, hxl, hxt, h3, hfb, h8]
        · have hkb : (kind == 1) = false := by simp [hk]
          have hxk := hx0 hk
          by_cases hf : f = 0
          · obtain ⟨d, d1, d2, d3, d4⟩ := h5 hf
            have hs' := setCells_all (mb 0 0 0) d (by rw [d2]; rfl)
            have ht' : List.take 29 (List.drop 0 d) = d := by rw [List.drop_zero, List.take_of_length_le (by omega)]
            subst hf
            simp only [eql_b4, neq_b4, len_nils24, len_is24, len_hs24, len_nils25, len_is25, len_hs25, len_nils26, len_is26, len_hs26, len_nils51, len_is51, len_hs51, len_nils54, len_is54, len_hs54, len_nils57, len_is57, len_hs57, bO_s, gB_t, asBool_b, asInt_i, asAgg_a, asTup_a, asStr_s, asCons_c, asNil_n, nthA_0, nthA_s, aggCells_a, addV_p, addV_i, seeV_p, seeV_i, same_nil, same_1, same_2, tr_v, decide_true, decide_false, Bool.false_eq_true, if_false, if_true, Bool.not_true, Bool.not_false, Bool.and_true, Bool.true_and, Bool.and_self, List.getElem?_cons_zero, List.getElem?_cons_succ, Nat.zero_add, Nat.add_zero, beq_self_eq_true, bne_self_eq_false, Int.reduceBNe, Int.reduceBEq, Int.reduceLT, Int.reduceGT, Int.reduceLE, Int.reduceGE, Nat.reduceAdd, Nat.reduceMul, Nat.reduceLeDiff, h1, hcl, hcc, hle, n0, n1, h2, hg, hs, ht, hkb, hm, ml, mt, hxk, hxl, hxt, h3, d1, d2, d3, hs', ht', d4, h8]
          · have ha := h4 hf
            subst ha
            have hfb : (f != 0) = true := by simp [hf]
            simp only [eql_b4, neq_b4, len_nils24, len_is24, len_hs24, len_nils25, len_is25, len_hs25, len_nils26, len_is26, len_hs26, len_nils51, len_is51, len_hs51, len_nils54, len_is54, len_hs54, len_nils57, len_is57, len_hs57, bO_s, gB_t, asBool_b, asInt_i, asAgg_a, asTup_a, asStr_s, asCons_c, asNil_n, nthA_0, nthA_s, aggCells_a, addV_p, addV_i, seeV_p, seeV_i, same_nil, same_1, same_2, tr_v, decide_true, decide_false, Bool.false_eq_true, if_false, if_true, Bool.not_true, Bool.not_false, Bool.and_true, Bool.true_and, Bool.and_self, List.getElem?_cons_zero, List.getElem?_cons_succ, Nat.zero_add, Nat.add_zero, beq_self_eq_true, bne_self_eq_false, Int.reduceBNe, Int.reduceBEq, Int.reduceLT, Int.reduceGT, Int.reduceLE, Int.reduceGE, Nat.reduceAdd, Nat.reduceMul, Nat.reduceLeDiff, h1, hcl, hcc, hle, n0, n1, h2, hg, hs, ht, hkb, hm, ml, mt, hxk, hxl, hxt, h3, hfb, h8]
      · have hi : inR n true = false := by unfold inR; simp [n1]
        rw [hi] at hg
        by_cases hk : kind = 1
        · have hkb : (kind == 1) = true := by simp [hk]
          have hxk := hx1 hk
          by_cases hf : f = 0
          · obtain ⟨d, d1, d2, d3, d4⟩ := h5 hf
            have hs' := setCells_all (mb 0 0 0) d (by rw [d2]; rfl)
            have ht' : List.take 29 (List.drop 0 d) = d := by rw [List.drop_zero, List.take_of_length_le (by omega)]
            subst hf
            simp only [eql_b4, neq_b4, len_nils24, len_is24, len_hs24, len_nils25, len_is25, len_hs25, len_nils26, len_is26, len_hs26, len_nils51, len_is51, len_hs51, len_nils54, len_is54, len_hs54, len_nils57, len_is57, len_hs57, bO_s, gB_t, asBool_b, asInt_i, asAgg_a, asTup_a, asStr_s, asCons_c, asNil_n, nthA_0, nthA_s, aggCells_a, addV_p, addV_i, seeV_p, seeV_i, same_nil, same_1, same_2, tr_v, decide_true, decide_false, Bool.false_eq_true, if_false, if_true, Bool.not_true, Bool.not_false, Bool.and_true, Bool.true_and, Bool.and_self, List.getElem?_cons_zero, List.getElem?_cons_succ, Nat.zero_add, Nat.add_zero, beq_self_eq_true, bne_self_eq_false, Int.reduceBNe, Int.reduceBEq, Int.reduceLT, Int.reduceGT, Int.reduceLE, Int.reduceGE, Nat.reduceAdd, Nat.reduceMul, Nat.reduceLeDiff, h1, hcl, hcc, hle, n0, n1, hg, hs, ht, hkb, hm, ml, mt, hxk, hxl, hxt, h3, d1, d2, d3, hs', ht', d4, h8]
          · have ha := h4 hf
            subst ha
            have hfb : (f != 0) = true := by simp [hf]
            simp only [eql_b4, neq_b4, len_nils24, len_is24, len_hs24, len_nils25, len_is25, len_hs25, len_nils26, len_is26, len_hs26, len_nils51, len_is51, len_hs51, len_nils54, len_is54, len_hs54, len_nils57, len_is57, len_hs57, bO_s, gB_t, asBool_b, asInt_i, asAgg_a, asTup_a, asStr_s, asCons_c, asNil_n, nthA_0, nthA_s, aggCells_a, addV_p, addV_i, seeV_p, seeV_i, same_nil, same_1, same_2, tr_v, decide_true, decide_false, Bool.false_eq_true, if_false, if_true, Bool.not_true, Bool.not_false, Bool.and_true, Bool.true_and, Bool.and_self, List.getElem?_cons_zero, List.getElem?_cons_succ, Nat.zero_add, Nat.add_zero, beq_self_eq_true, bne_self_eq_false, Int.reduceBNe, Int.reduceBEq, Int.reduceLT, Int.reduceGT, Int.reduceLE, Int.reduceGE, Nat.reduceAdd, Nat.reduceMul, Nat.reduceLeDiff, h1, hcl, hcc, hle, n0, n1, hg, hs, ht, hkb, hm, ml, mt, hxk, hxl, hxt, h3, hfb, h8]
        · have hkb : (kind == 1) = false := by simp [hk]
          have hxk := hx0 hk
          by_cases hf : f = 0
          · obtain ⟨d, d1, d2, d3, d4⟩ := h5 hf
            have hs' := setCells_all (mb 0 0 0) d (by rw [d2]; rfl)
            have ht' : List.take 29 (List.drop 0 d) = d := by rw [List.drop_zero, List.take_of_length_le (by omega)]
            subst hf
            simp only [eql_b4, neq_b4, len_nils24, len_is24, len_hs24, len_nils25, len_is25, len_hs25, len_nils26, len_is26, len_hs26, len_nils51, len_is51, len_hs51, len_nils54, len_is54, len_hs54, len_nils57, len_is57, len_hs57, bO_s, gB_t, asBool_b, asInt_i, asAgg_a, asTup_a, asStr_s, asCons_c, asNil_n, nthA_0, nthA_s, aggCells_a, addV_p, addV_i, seeV_p, seeV_i, same_nil, same_1, same_2, tr_v, decide_true, decide_false, Bool.false_eq_true, if_false, if_true, Bool.not_true, Bool.not_false, Bool.and_true, Bool.true_and, Bool.and_self, List.getElem?_cons_zero, List.getElem?_cons_succ, Nat.zero_add, Nat.add_zero, beq_self_eq_true, bne_self_eq_false, Int.reduceBNe, Int.reduceBEq, Int.reduceLT, Int.reduceGT, Int.reduceLE, Int.reduceGE, Nat.reduceAdd, Nat.reduceMul, Nat.reduceLeDiff, h1, hcl, hcc, hle, n0, n1, hg, hs, ht, hkb, hm, ml, mt, hxk, hxl, hxt, h3, d1, d2, d3, hs', ht', d4, h8]
          · have ha := h4 hf
            subst ha
            have hfb : (f != 0) = true := by simp [hf]
            simp only [eql_b4, neq_b4, len_nils24, len_is24, len_hs24, len_nils25, len_is25, len_hs25, len_nils26, len_is26, len_hs26, len_nils51, len_is51, len_hs51, len_nils54, len_is54, len_hs54, len_nils57, len_is57, len_hs57, bO_s, gB_t, asBool_b, asInt_i, asAgg_a, asTup_a, asStr_s, asCons_c, asNil_n, nthA_0, nthA_s, aggCells_a, addV_p, addV_i, seeV_p, seeV_i, same_nil, same_1, same_2, tr_v, decide_true, decide_false, Bool.false_eq_true, if_false, if_true, Bool.not_true, Bool.not_false, Bool.and_true, Bool.true_and, Bool.and_self, List.getElem?_cons_zero, List.getElem?_cons_succ, Nat.zero_add, Nat.add_zero, beq_self_eq_true, bne_self_eq_false, Int.reduceBNe, Int.reduceBEq, Int.reduceLT, Int.reduceGT, Int.reduceLE, Int.reduceGE, Nat.reduceAdd, Nat.reduceMul, Nat.reduceLeDiff, h1, hcl, hcc, hle, n0, n1, hg, hs, ht, hkb, hm, ml, mt, hxk, hxl, hxt, h3, hfb, h8]
    · have n0' : ¬ 0 ≤ n := n0
      have hi : inR n true = false := by unfold inR; simp [n0']
      rw [hi] at hg
      by_cases hk : kind = 1
      · have hkb : (kind == 1) = true := by simp [hk]
        have hxk := hx1 hk
        by_cases hf : f = 0
        · obtain ⟨d, d1, d2, d3, d4⟩ := h5 hf
          have hs' := setCells_all (mb 0 0 0) d (by rw [d2]; rfl)
          have ht' : List.take 29 (List.drop 0 d) = d := by rw [List.drop_zero, List.take_of_length_le (by omega)]
          subst hf
          simp only [eql_b4, neq_b4, len_nils24, len_is24, len_hs24, len_nils25, len_is25, len_hs25, len_nils26, len_is26, len_hs26, len_nils51, len_is51, len_hs51, len_nils54, len_is54, len_hs54, len_nils57, len_is57, len_hs57, bO_s, gB_t, asBool_b, asInt_i, asAgg_a, asTup_a, asStr_s, asCons_c, asNil_n, nthA_0, nthA_s, aggCells_a, addV_p, addV_i, seeV_p, seeV_i, same_nil, same_1, same_2, tr_v, decide_true, decide_false, Bool.false_eq_true, if_false, if_true, Bool.not_true, Bool.not_false, Bool.and_true, Bool.true_and, Bool.and_self, List.getElem?_cons_zero, List.getElem?_cons_succ, Nat.zero_add, Nat.add_zero, beq_self_eq_true, bne_self_eq_false, Int.reduceBNe, Int.reduceBEq, Int.reduceLT, Int.reduceGT, Int.reduceLE, Int.reduceGE, Nat.reduceAdd, Nat.reduceMul, Nat.reduceLeDiff, h1, hcl, hcc, hle, n0, hg, hs, ht, hkb, hm, ml, mt, hxk, hxl, hxt, h3, d1, d2, d3, hs', ht', d4, h8]
        · have ha := h4 hf
          subst ha
          have hfb : (f != 0) = true := by simp [hf]
          simp only [eql_b4, neq_b4, len_nils24, len_is24, len_hs24, len_nils25, len_is25, len_hs25, len_nils26, len_is26, len_hs26, len_nils51, len_is51, len_hs51, len_nils54, len_is54, len_hs54, len_nils57, len_is57, len_hs57, bO_s, gB_t, asBool_b, asInt_i, asAgg_a, asTup_a, asStr_s, asCons_c, asNil_n, nthA_0, nthA_s, aggCells_a, addV_p, addV_i, seeV_p, seeV_i, same_nil, same_1, same_2, tr_v, decide_true, decide_false, Bool.false_eq_true, if_false, if_true, Bool.not_true, Bool.not_false, Bool.and_true, Bool.true_and, Bool.and_self, List.getElem?_cons_zero, List.getElem?_cons_succ, Nat.zero_add, Nat.add_zero, beq_self_eq_true, bne_self_eq_false, Int.reduceBNe, Int.reduceBEq, Int.reduceLT, Int.reduceGT, Int.reduceLE, Int.reduceGE, Nat.reduceAdd, Nat.reduceMul, Nat.reduceLeDiff, h1, hcl, hcc, hle, n0, hg, hs, ht, hkb, hm, ml, mt, hxk, hxl, hxt, h3, hfb, h8]
      · have hkb : (kind == 1) = false := by simp [hk]
        have hxk := hx0 hk
        by_cases hf : f = 0
        · obtain ⟨d, d1, d2, d3, d4⟩ := h5 hf
          have hs' := setCells_all (mb 0 0 0) d (by rw [d2]; rfl)
          have ht' : List.take 29 (List.drop 0 d) = d := by rw [List.drop_zero, List.take_of_length_le (by omega)]
          subst hf
          simp only [eql_b4, neq_b4, len_nils24, len_is24, len_hs24, len_nils25, len_is25, len_hs25, len_nils26, len_is26, len_hs26, len_nils51, len_is51, len_hs51, len_nils54, len_is54, len_hs54, len_nils57, len_is57, len_hs57, bO_s, gB_t, asBool_b, asInt_i, asAgg_a, asTup_a, asStr_s, asCons_c, asNil_n, nthA_0, nthA_s, aggCells_a, addV_p, addV_i, seeV_p, seeV_i, same_nil, same_1, same_2, tr_v, decide_true, decide_false, Bool.false_eq_true, if_false, if_true, Bool.not_true, Bool.not_false, Bool.and_true, Bool.true_and, Bool.and_self, List.getElem?_cons_zero, List.getElem?_cons_succ, Nat.zero_add, Nat.add_zero, beq_self_eq_true, bne_self_eq_false, Int.reduceBNe, Int.reduceBEq, Int.reduceLT, Int.reduceGT, Int.reduceLE, Int.reduceGE, Nat.reduceAdd, Nat.reduceMul, Nat.reduceLeDiff, h1, hcl, hcc, hle, n0, hg, hs, ht, hkb, hm, ml, mt, hxk, hxl, hxt, h3, d1, d2, d3, hs', ht', d4, h8]
        · have ha := h4 hf
          subst ha
          have hfb : (f != 0) = true := by simp [hf]
          simp only [eql_b4, neq_b4, len_nils24, len_is24, len_hs24, len_nils25, len_is25, len_hs25, len_nils26, len_is26, len_hs26, len_nils51, len_is51, len_hs51, len_nils54, len_is54, len_hs54, len_nils57, len_is57, len_hs57, bO_s, gB_t, asBool_b, asInt_i, asAgg_a, asTup_a, asStr_s, asCons_c, asNil_n, nthA_0, nthA_s, aggCells_a, addV_p, addV_i, seeV_p, seeV_i, same_nil, same_1, same_2, tr_v, decide_true, decide_false, Bool.false_eq_true, if_false, if_true, Bool.not_true, Bool.not_false, Bool.and_true, Bool.true_and, Bool.and_self, List.getElem?_cons_zero, List.getElem?_cons_succ, Nat.zero_add, Nat.add_zero, beq_self_eq_true, bne_self_eq_false, Int.reduceBNe, Int.reduceBEq, Int.reduceLT, Int.reduceGT, Int.reduceLE, Int.reduceGE, Nat.reduceAdd, Nat.reduceMul, Nat.reduceLeDiff, h1, hcl, hcc, hle, n0, hg, hs, ht, hkb, hm, ml, mt, hxk, hxl, hxt, h3, hfb, h8]
  | false =>
    by_cases n0 : n ≥ 0
    · by_cases n1 : n ≤ 30
      · by_cases n4 : n = 4
        · have n4b : (n != 4) = false := by simp [n4]
          have hi : inR n false = false := by unfold inR; simp [n4]
          rw [hi] at hg
          by_cases hk : kind = 1
          · have hkb : (kind == 1) = true := by simp [hk]
            have hxk := hx1 hk
            by_cases hf : f = 0
            · obtain ⟨d, d1, d2, d3, d4⟩ := h5 hf
              have hs' := setCells_all (mb 0 0 0) d (by rw [d2]; rfl)
              have ht' : List.take 29 (List.drop 0 d) = d := by rw [List.drop_zero, List.take_of_length_le (by omega)]
              subst hf
              simp only [eql_b4, neq_b4, len_nils24, len_is24, len_hs24, len_nils25, len_is25, len_hs25, len_nils26, len_is26, len_hs26, len_nils51, len_is51, len_hs51, len_nils54, len_is54, len_hs54, len_nils57, len_is57, len_hs57, bO_s, gB_t, asBool_b, asInt_i, asAgg_a, asTup_a, asStr_s, asCons_c, asNil_n, nthA_0, nthA_s, aggCells_a, addV_p, addV_i, seeV_p, seeV_i, same_nil, same_1, same_2, tr_v, decide_true, decide_false, Bool.false_eq_true, if_false, if_true, Bool.not_true, Bool.not_false, Bool.and_true, Bool.true_and, Bool.and_self, List.getElem?_cons_zero, List.getElem?_cons_succ, Nat.zero_add, Nat.add_zero, beq_self_eq_true, bne_self_eq_false, Int.reduceBNe, Int.reduceBEq, Int.reduceLT, Int.reduceGT, Int.reduceLE, Int.reduceGE, Nat.reduceAdd, Nat.reduceMul, Nat.reduceLeDiff, h1, hcl, hcc, hle, n0, n1, n4b, hg, hs, ht, hkb, hm, ml, mt, hxk, hxl, hxt, h3, d1, d2, d3, hs', ht', d4, h8]
            · have ha := h4 hf
              subst ha
              have hfb : (f != 0) = true := by simp [hf]
              simp only [eql_b4, neq_b4, len_nils24, len_is24, len_hs24, len_nils25, len_is25, len_hs25, len_nils26, len_is26, len_hs26, len_nils51, len_is51, len_hs51, len_nils54, len_is54, len_hs54, len_nils57, len_is57, len_hs57, bO_s, gB_t, asBool_b, asInt_i, asAgg_a, asTup_a, asStr_s, asCons_c, asNil_n, nthA_0, nthA_s, aggCells_a, addV_p, addV_i, seeV_p, seeV_i, same_nil, same_1, same_2, tr_v, decide_true, decide_false, Bool.false_eq_true, if_false, if_true, Bool.not_true, Bool.not_false, Bool.and_true, Bool.true_and, Bool.and_self, List.getElem?_cons_zero, List.getElem?_cons_succ, Nat.zero_add, Nat.add_zero, beq_self_eq_true, bne_self_eq_false, Int.reduceBNe, Int.reduceBEq, Int.reduceLT, Int.reduceGT, Int.reduceLE, Int.reduceGE, Nat.reduceAdd, Nat.reduceMul, Nat.reduceLeDiff, h1, hcl, hcc, hle, n0, n1, n4b, hg, hs, ht, hkb, hm, ml, mt, hxk, hxl, hxt, h3, hfb, h8]
          · have hkb : (kind == 1) = false := by simp [hk]
            have hxk := hx0 hk
            by_cases hf : f = 0
            · obtain ⟨d, d1, d2, d3, d4⟩ := h5 hf
              have hs' := setCells_all (mb 0 0 0) d (by rw [d2]; rfl)
              have ht' : List.take 29 (List.drop 0 d) = d := by rw [List.drop_zero, List.take_of_length_le (by omega)]
              subst hf
              simp only [eql_b4, neq_b4, len_nils24, len_is24, len_hs24, len_nils25, len_is25, len_hs25, len_nils26, len_is26, len_hs26, len_nils51, len_is51, len_hs51, len_nils54, len_is54, len_hs54, len_nils57, len_is57, len_hs57, bO_s, gB_t, asBool_b, asInt_i, asAgg_a, asTup_a, asStr_s, asCons_c, asNil_n, nthA_0, nthA_s, aggCells_a, addV_p, addV_i, seeV_p, seeV_i, same_nil, same_1, same_2, tr_v, decide_true, decide_false, Bool.false_eq_true, if_false, if_true, Bool.not_true, Bool.not_false, Bool.and_true, Bool.true_and, Bool.and_self, List.getElem?_cons_zero, List.getElem?_cons_succ, Nat.zero_add, Nat.add_zero, beq_self_eq_true, bne_self_eq_false, Int.reduceBNe, Int.reduceBEq, Int.reduceLT, Int.reduceGT, Int.reduceLE, Int.reduceGE, Nat.reduceAdd, Nat.reduceMul, Nat.reduceLeDiff, h1, hcl, hcc, hle, n0, n1, n4b, hg, hs, ht, hkb, hm, ml, mt, hxk, hxl, hxt, h3, d1, d2, d3, hs', ht', d4, h8]
            · have ha := h4 hf
              subst ha
              have hfb : (f != 0) = true := by simp [hf]
              simp only [eql_b4, neq_b4, len_nils24, len_is24, len_hs24, len_nils25, len_is25, len_hs25, len_nils26, len_is26, len_hs26, len_nils51, len_is51, len_hs51, len_nils54, len_is54, len_hs54, len_nils57, len_is57, len_hs57, bO_s, gB_t, asBool_b, asInt_i, asAgg_a, asTup_a, asStr_s, asCons_c, asNil_n, nthA_0, nthA_s, aggCells_a, addV_p, addV_i, seeV_p, seeV_i, same_nil, same_1, same_2, tr_v, decide_true, decide_false, Bool.false_eq_true, if_false, if_true, Bool.not_true, Bool.not_false, Bool.and_true, Bool.true_and, Bool.and_self, List.getElem?_cons_zero, List.getElem?_cons_succ, Nat.zero_add, Nat.add_zero, beq_self_eq_true, bne_self_eq_false, Int.reduceBNe, Int.reduceBEq, Int.reduceLT, Int.reduceGT, Int.reduceLE, Int.reduceGE, Nat.reduceAdd, Nat.reduceMul, Nat.reduceLeDiff, h1, hcl, hcc, hle, n0, n1, n4b, hg, hs, ht, hkb, hm, ml, mt, hxk, hxl, hxt, h3, hfb, h8]
        · have n4b : (n != 4) = true := by simp [n4]
          have hi : inR n false = true := by unfold inR; simp [n0, n1, n4]
          rw [hi] at hg
          have g0 : g = 0 := by simpa using hg
          have h2 := h2 g0
          by_cases hk : kind = 1
          · have hkb : (kind == 1) = true := by simp [hk]
            have hxk := hx1 hk
            by_cases hf : f = 0
            · obtain ⟨d, d1, d2, d3, d4⟩ := h5 hf
              have hs' := setCells_all (mb 0 0 0) d (by rw [d2]; rfl)
              have ht' : List.take 29 (List.drop 0 d) = d := by rw [List.drop_zero, List.take_of_length_le (by omega)]
              subst hf
              simp only [eql_b4, neq_b4, len_nils24, len_is24, len_hs24, len_nils25, len_is25, len_hs25, len_nils26, len_is26, len_hs26, len_nils51, len_is51, len_hs51, len_nils54, len_is54, len_hs54, len_nils57, len_is57, len_hs57, bO_s, gB_t, asBool_b, asInt_i, asAgg_a, asTup_a, asStr_s, asCons_c, asNil_n, nthA_0, nthA_s, aggCells_a, addV_p, addV_i, seeV_p, seeV_i, same_nil, same_1, same_2, tr_v, decide_true, decide_false, Bool.false_eq_true, if_false, if_true, Bool.not_true, Bool.not_false, Bool.and_true, Bool.true_and, Bool.and_self, List.getElem?_cons_zero, List.getElem?_cons_succ, Nat.zero_add, Nat.add_zero, beq_self_eq_true, bne_self_eq_false, Int.reduceBNe, Int.reduceBEq, Int.reduceLT, Int.reduceGT, Int.reduceLE, Int.reduceGE, Nat.reduceAdd, Nat.reduceMul, Nat.reduceLeDiff, h1, hcl, hcc, hle, n0, n1, n4b, h2, hg, hs, ht, hkb, hm, ml, mt, hxk, hxl, hxt, h3, d1, d2, d3, hs', ht', d4, h8]
            · have ha := h4 hf
              subst ha
              have hfb : (f != 0) = true := by simp [hf]
              simp only [eql_b4, neq_b4, len_nils24, len_is24, len_hs24, len_nils25, len_is25, len_hs25, len_nils26, len_is26, len_hs26, len_nils51, len_is51, len_hs51, len_nils54, len_is54, len_hs54, len_nils57, len_is57, len_hs57, bO_s, gB_t, asBool_b, asInt_i, asAgg_a, asTup_a, asStr_s, asCons_c, asNil_n, nthA_0, nthA_s, aggCells_a, addV_p, addV_i, seeV_p, seeV_i, same_nil, same_1, same_2, tr_v, decide_true, decide_false, Bool.false_eq_true, if_false, if_true, Bool.not_true, Bool.not_false, Bool.and_true, Bool.true_and, Bool.and_self, List.getElem?_cons_zero, List.getElem?_cons_succ, Nat.zero_add, Nat.add_zero, beq_self_eq_true, bne_self_eq_false, Int.reduceBNe, Int.reduceBEq, Int.reduceLT, Int.reduceGT, Int.reduceLE, Int.reduceGE, Nat.reduceAdd, Nat.reduceMul, Nat.reduceLeDiff, h1, hcl, hcc, hle, n0, n1, n4b, h2, hg, hs, ht, hkb, hm, ml, mt, hxk, hxl, hxt, h3, hfb, h8]
          · have hkb : (kind == 1) = false := by simp [hk]
            have hxk := hx0 hk
            by_cases hf : f = 0
            · obtain ⟨d, d1, d2, d3, d4⟩ := h5 hf
              have hs' := setCells_all (mb 0 0 0) d (by rw [d2]; rfl)
              have ht' : List.take 29 (List.drop 0 d) = d := by rw [List.drop_zero, List.take_of_length_le (by omega)]
              subst hf
              simp only [eql_b4, neq_b4, len_nils24, len_is24, len_hs24, len_nils25, len_is25, len_hs25, len_nils26, len_is26, len_hs26, len_nils51, len_is51, len_hs51, len_nils54, len_is54, len_hs54, len_nils57, len_is57, len_hs57, bO_s, gB_t, asBool_b, asInt_i, asAgg_a, asTup_a, asStr_s, asCons_c, asNil_n, nthA_0, nthA_s, aggCells_a, addV_p, addV_i, seeV_p, seeV_i, same_nil, same_1, same_2, tr_v, decide_true, decide_false, Bool.false_eq_true, if_false, if_true, Bool.not_true, Bool.not_false, Bool.and_true, Bool.true_and, Bool.and_self, List.getElem?_cons_zero, List.getElem?_cons_succ, Nat.zero_add, Nat.add_zero, beq_self_eq_true, bne_self_eq_false, Int.reduceBNe, Int.reduceBEq, Int.reduceLT, Int.reduceGT, Int.reduceLE, Int.reduceGE, Nat.reduceAdd, Nat.reduceMul, Nat.reduceLeDiff, h1, hcl, hcc, hle, n0, n1, n4b, h2, hg, hs, ht, hkb, hm, ml, mt, hxk, hxl, hxt, h3, d1, d2, d3, hs', ht', d4, h8]
            · have ha := h4 hf
              subst ha
              have hfb : (f != 0) = true := by simp [hf]
              simp only [eql_b4, neq_b4, len_nils24, len_is24, len_hs24, len_nils25, len_is25, len_hs25, len_nils26, len_is26, len_hs26, len_nils51, len_is51, len_hs51, len_nils54, len_is54, len_hs54, len_nils57, len_is57, len_hs57, bO_s, gB_t, asBool_b, asInt_i, asAgg_a, asTup_a, asStr_s, asCons_c, asNil_n, nthA_0, nthA_s, aggCells_a, addV_p, addV_i, seeV_p, seeV_i, same_nil, same_1, same_2, tr_v, decide_true, decide_false, Bool.false_eq_true, if_false, if_true, Bool.not_true, Bool.not_false, Bool.and_true, Bool.true_and, Bool.and_self, List.getElem?_cons_zero, List.getElem?_cons_succ, Nat.zero_add, Nat.add_zero, beq_self_eq_true, bne_self_eq_false, Int.reduceBNe, Int.reduceBEq, Int.reduceLT, Int.reduceGT, Int.reduceLE, Int.reduceGE, Nat.reduceAdd, Nat.reduceMul, Nat.reduceLeDiff, h1, hcl, hcc, hle, n0, n1, n4b, h2, hg, hs, ht, hkb, hm, ml, mt, hxk, hxl, hxt, h3, hfb, h8]
      · have n1' : ¬ n ≤ 30 := n1
        have hi : inR n false = false := by unfold inR; simp [n1']
        rw [hi] at hg
        by_cases hk : kind = 1
        · have hkb : (kind == 1) = true := by simp [hk]
          have hxk := hx1 hk
          by_cases hf : f = 0
          · obtain ⟨d, d1, d2, d3, d4⟩ := h5 hf
            have hs' := setCells_all (mb 0 0 0) d (by rw [d2]; rfl)
            have ht' : List.take 29 (List.drop 0 d) = d := by rw [List.drop_zero, List.take_of_length_le (by omega)]
            subst hf
            simp only [eql_b4, neq_b4, len_nils24, len_is24, len_hs24, len_nils25, len_is25, len_hs25, len_nils26, len_is26, len_hs26, len_nils51, len_is51, len_hs51, len_nils54, len_is54, len_hs54, len_nils57, len_is57, len_hs57, bO_s, gB_t, asBool_b, asInt_i, asAgg_a, asTup_a, asStr_s, asCons_c, asNil_n, nthA_0, nthA_s, aggCells_a, addV_p, addV_i, seeV_p, seeV_i, same_nil, same_1, same_2, tr_v, decide_true, decide_false, Bool.false_eq_true, if_false, if_true, Bool.not_true, Bool.not_false, Bool.and_true, Bool.true_and, Bool.and_self, List.getElem?_cons_zero, List.getElem?_cons_succ, Nat.zero_add, Nat.add_zero, beq_self_eq_true, bne_self_eq_false, Int.reduceBNe, Int.reduceBEq, Int.reduceLT, Int.reduceGT, Int.reduceLE, Int.reduceGE, Nat.reduceAdd, Nat.reduceMul, Nat.reduceLeDiff, h1, hcl, hcc, hle, n0, n1, hg, hs, ht, hkb, hm, ml, mt, hxk, hxl, hxt, h3, d1, d2, d3, hs', ht', d4, h8]
          · have ha := h4 hf
            subst ha
            have hfb : (f != 0) = true := by simp [hf]
            simp only [eql_b4, neq_b4, len_nils24, len_is24, len_hs24, len_nils25, len_is25, len_hs25, len_nils26, len_is26, len_hs26, len_nils51, len_is51, len_hs51, len_nils54, len_is54, len_hs54, len_nils57, len_is57, len_hs57, bO_s, gB_t, asBool_b, asInt_i, asAgg_a, asTup_a, asStr_s, asCons_c, asNil_n, nthA_0, nthA_s, aggCells_a, addV_p, addV_i, seeV_p, seeV_i, same_nil, same_1, same_2, tr_v, decide_true, decide_false, Bool.false_eq_true, if_false, if_true, Bool.not_true, Bool.not_false, Bool.and_true, Bool.true_and, Bool.and_self, List.getElem?_cons_zero, List.getElem?_cons_succ, Nat.zero_add, Nat.add_zero, beq_self_eq_true, bne_self_eq_false, Int.reduceBNe, Int.reduceBEq, Int.reduceLT, Int.reduceGT, Int.reduceLE, Int.reduceGE, Nat.reduceAdd, Nat.reduceMul, Nat.reduceLeDiff, h1, hcl, hcc, hle, n0, n1, hg, hs, ht, hkb, hm, ml, mt, hxk, hxl, hxt, h3, hfb, h8]
        · have hkb : (kind == 1) = false := by simp [hk]
          have hxk := hx0 hk
          by_cases hf : f = 0
          · obtain ⟨d, d1, d2, d3, d4⟩ := h5 hf
            have hs' := setCells_all (mb 0 0 0) d (by rw [d2]; rfl)
            have ht' : List.take 29 (List.drop 0 d) = d := by rw [List.drop_zero, List.take_of_length_le (by omega)]
            subst hf
            simp only [eql_b4, neq_b4, len_nils24, len_is24, len_hs24, len_nils25, len_is25, len_hs25, len_nils26, len_is26, len_hs26, len_nils51, len_is51, len_hs51, len_nils54, len_is54, len_hs54, len_nils57, len_is57, len_hs57, bO_s, gB_t, asBool_b, asInt_i, asAgg_a, asTup_a, asStr_s, asCons_c, asNil_n, nthA_0, nthA_s, aggCells_a, addV_p, addV_i, seeV_p, seeV_i, same_nil, same_1, same_2, tr_v, decide_true, decide_false, Bool.false_eq_true, if_false, if_true, Bool.not_true, Bool.not_false, Bool.and_true, Bool.true_and, Bool.and_self, List.getElem?_cons_zero, List.getElem?_cons_succ, Nat.zero_add, Nat.add_zero, beq_self_eq_true, bne_self_eq_false, Int.reduceBNe, Int.reduceBEq, Int.reduceLT, Int.reduceGT, Int.reduceLE, Int.reduceGE, Nat.reduceAdd, Nat.reduceMul, Nat.reduceLeDiff, h1, hcl, hcc, hle, n0, n1, hg, hs, ht, hkb, hm, ml, mt, hxk, hxl, hxt, h3, d1, d2, d3, hs', ht', d4, h8]
          · have ha := h4 hf
            subst ha
            have hfb : (f != 0) = true := by simp [hf]
            simp only [eql_b4, neq_b4, len_nils24, len_is24, len_hs24, len_nils25, len_is25, len_hs25, len_nils26, len_is26, len_hs26, len_nils51, len_is51, len_hs51, len_nils54, len_is54, len_hs54, len_nils57, len_is57, len_hs57, bO_s, gB_t, asBool_b, asInt_i, asAgg_a, asTup_a, asStr_s, asCons_c, asNil_n, nthA_0, nthA_s, aggCells_a, addV_p, addV_i, seeV_p, seeV_i, same_nil, same_1, same_2, tr_v, decide_true, decide_false, Bool.false_eq_true, if_false, if_true, Bool.not_true, Bool.not_false, Bool.and_true, Bool.true_and, Bool.and_self, List.getElem?_cons_zero, List.getElem?_cons_succ, Nat.zero_add, Nat.add_zero, beq_self_eq_true, bne_self_eq_false, Int.reduceBNe, Int.reduceBEq, Int.reduceLT, Int.reduceGT, Int.reduceLE, Int.reduceGE, Nat.reduceAdd, Nat.reduceMul, Nat.reduceLeDiff, h1, hcl, hcc, hle, n0, n1, hg, hs, ht, hkb, hm, ml, mt, hxk, hxl, hxt, h3, hfb, h8]
    · have n0' : ¬ 0 ≤ n := n0
      have hi : inR n false = false := by unfold inR; simp [n0']
      rw [hi] at hg
      by_cases hk : kind = 1
      · have hkb : (kind == 1) = true := by simp [hk]
        have hxk := hx1 hk
        by_cases hf : f = 0
        · obtain ⟨d, d1, d2, d3, d4⟩ := h5 hf
          have hs' := setCells_all (mb 0 0 0) d (by rw [d2]; rfl)
          have ht' : List.take 29 (List.drop 0 d) = d := by rw [List.drop_zero, List.take_of_length_le (by omega)]
          subst hf
          simp only [eql_b4, neq_b4, len_nils24, len_is24, len_hs24, len_nils25, len_is25, len_hs25, len_nils26, len_is26, len_hs26, len_nils51, len_is51, len_hs51, len_nils54, len_is54, len_hs54, len_nils57, len_is57, len_hs57, bO_s, gB_t, asBool_b, asInt_i, asAgg_a, asTup_a, asStr_s, asCons_c, asNil_n, nthA_0, nthA_s, aggCells_a, addV_p, addV_i, seeV_p, seeV_i, same_nil, same_1, same_2, tr_v, decide_true, decide_false, Bool.false_eq_true, if_false, if_true, Bool.not_true, Bool.not_false, Bool.and_true, Bool.true_and, Bool.and_self, List.getElem?_cons_zero, List.getElem?_cons_succ, Nat.zero_add, Nat.add_zero, beq_self_eq_true, bne_self_eq_false, Int.reduceBNe, Int.reduceBEq, Int.reduceLT, Int.reduceGT, Int.reduceLE, Int.reduceGE, Nat.reduceAdd, Nat.reduceMul, Nat.reduceLeDiff, h1, hcl, hcc, hle, n0, hg, hs, ht, hkb, hm, ml, mt, hxk, hxl, hxt, h3, d1, d2, d3, hs', ht', d4, h8]
        · have ha := h4 hf
          subst ha
          have hfb : (f != 0) = true := by simp [hf]
          simp only [eql_b4, neq_b4, len_nils24, len_is24, len_hs24, len_nils25, len_is25, len_hs25, len_nils26, len_is26, len_hs26, len_nils51, len_is51, len_hs51, len_nils54, len_is54, len_hs54, len_nils57, len_is57, len_hs57, bO_s, gB_t, asBool_b, asInt_i, asAgg_a, asTup_a, asStr_s, asCons_c, asNil_n, nthA_0, nthA_s, aggCells_a, addV_p, addV_i, seeV_p, seeV_i, same_nil, same_1, same_2, tr_v, decide_true, decide_false, Bool.false_eq_true, if_false, if_true, Bool.not_true, Bool.not_false, Bool.and_true, Bool.true_and, Bool.and_self, List.getElem?_cons_zero, List.getElem?_cons_succ, Nat.zero_add, Nat.add_zero, beq_self_eq_true, bne_self_eq_false, Int.reduceBNe, Int.reduceBEq, Int.reduceLT, Int.reduceGT, Int.reduceLE, Int.reduceGE, Nat.reduceAdd, Nat.reduceMul, Nat.reduceLeDiff, h1, hcl, hcc, hle, n0, hg, hs, ht, hkb, hm, ml, mt, hxk, hxl, hxt, h3, hfb, h8]
      · have hkb : (kind == 1) = false := by simp [hk]
        have hxk := hx0 hk
        by_cases hf : f = 0
        · obtain ⟨d, d1, d2, d3, d4⟩ := h5 hf
          have hs' := setCells_all (mb 0 0 0) d (by rw [d2]; rfl)
          have ht' : List.take 29 (List.drop 0 d) = d := by rw [List.drop_zero, List.take_of_length_le (by omega)]
          subst hf
          simp only [eql_b4, neq_b4, len_nils24, len_is24, len_hs24, len_nils25, len_is25, len_hs25, len_nils26, len_is26, len_hs26, len_nils51, len_is51, len_hs51, len_nils54, len_is54, len_hs54, len_nils57, len_is57, len_hs57, bO_s, gB_t, asBool_b, asInt_i, asAgg_a, asTup_a, asStr_s, asCons_c, asNil_n, nthA_0, nthA_s, aggCells_a, addV_p, addV_i, seeV_p, seeV_i, same_nil, same_1, same_2, tr_v, decide_true, decide_false, Bool.false_eq_true, if_false, if_true, Bool.not_true, Bool.not_false, Bool.and_true, Bool.true_and, Bool.and_self, List.getElem?_cons_zero, List.getElem?_cons_succ, Nat.zero_add, Nat.add_zero, beq_self_eq_true, bne_self_eq_false, Int.reduceBNe, Int.reduceBEq, Int.reduceLT, Int.reduceGT, Int.reduceLE, Int.reduceGE, Nat.reduceAdd, Nat.reduceMul, Nat.reduceLeDiff, h1, hcl, hcc, hle, n0, hg, hs, ht, hkb, hm, ml, mt, hxk, hxl, hxt, h3, d1, d2, d3, hs', ht', d4, h8]
        · have ha := h4 hf
          subst ha
          have hfb : (f != 0) = true := by simp [hf]
          simp only [eql_b4, neq_b4, len_nils24, len_is24, len_hs24, len_nils25, len_is25, len_hs25, len_nils26, len_is26, len_hs26, len_nils51, len_is51, len_hs51, len_nils54, len_is54, len_hs54, len_nils57, len_is57, len_hs57, bO_s, gB_t, asBool_b, asInt_i, asAgg_a, asTup_a, asStr_s, asCons_c, asNil_n, nthA_0, nthA_s, aggCells_a, addV_p, addV_i, seeV_p, seeV_i, same_nil, same_1, same_2, tr_v, decide_true, decide_false, Bool.false_eq_true, if_false, if_true, Bool.not_true, Bool.not_false, Bool.and_true, Bool.true_and, Bool.and_self, List.getElem?_cons_zero, List.getElem?_cons_succ, Nat.zero_add, Nat.add_zero, beq_self_eq_true, bne_self_eq_false, Int.reduceBNe, Int.reduceBEq, Int.reduceLT, Int.reduceGT, Int.reduceLE, Int.reduceGE, Nat.reduceAdd, Nat.reduceMul, Nat.reduceLeDiff, h1, hcl, hcc, hle, n0, hg, hs, ht, hkb, hm, ml, mt, hxk, hxl, hxt, h3, hfb, h8]
end Go.Ab.tK
