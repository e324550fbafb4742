/- The reference's total of a block is the same. -/
import Derived.Test.YtcnenkckcemhdaaCnsW5
set_option maxRecDepth 100000
set_option linter.unusedSimpArgs false
set_option linter.unusedVariables false
set_option linter.unusedSectionVars false
namespace Go.Ab.tNearU
open Go Go.Proofs

theorem mem_lum {cat cb : Nat} : ∀ {n : Nat} {c : Cd}, c ∈ lum cat cb n → c.1 = cat ∧ c.2.1 = 0 ∧ c.2.2 < n
  | 0, c, h => by simp [lum] at h
  | n + 1, c, h => by
    simp only [lum] at h
    split at h
    · rcases List.mem_append.1 h with h | h
      · obtain ⟨h1, h2, h3⟩ := mem_lum h
        exact ⟨h1, h2, by omega⟩
      · have : c = (cat, 0, n) := by simpa using h
        rw [this]; exact ⟨rfl, rfl, Nat.lt_succ_self n⟩
    · obtain ⟨h1, h2, h3⟩ := mem_lum h
      exact ⟨h1, h2, by omega⟩
theorem mem_bls {kind cb : Nat} {c : Cd} (h : c ∈ bls kind cb) : CdOk c ∧ exF c.1 c.2.1 c.2.2 = true ∧ (c.1 = 1 → kind = 1) ∧ (c.1 = 2 → kind ≠ 1) := by
  unfold bls at h
  split at h
  · simp at h
  · rcases List.mem_append.1 h with h | h
    · rcases List.mem_append.1 h with h | h
      · rcases List.mem_append.1 h with h | h
        · split at h
          · have : c = (0, 0, 0) := by simpa using h
            rw [this]; exact ⟨⟨by decide, by decide, by decide⟩, rfl, fun h => (by cases h), fun h => (by cases h)⟩
          · simp at h
        · obtain ⟨h1, h2, h3⟩ := mem_lum h
          obtain ⟨a, b, k⟩ := c
          simp only at h1 h2 h3
          subst h2
          have hb : Nat.blt k 16 = true := by simpa [Nat.blt_eq] using h3
          by_cases hk : kind = 1
          · rw [if_pos hk] at h1
            subst h1
            exact ⟨⟨by simp only; omega, by simp only; omega, h3⟩, by show (Nat.beq 0 0 && Nat.blt k 16) = true; rw [hb]; rfl, fun _ => hk, fun h => (by cases h)⟩
          · rw [if_neg hk] at h1
            subst h1
            exact ⟨⟨by simp only; omega, by simp only; omega, h3⟩, by show (Nat.beq 0 0 && Nat.blt k 16) = true; rw [hb]; rfl, fun h => (by cases h), fun _ => hk⟩
      · split at h
        · have : c = (3, 0, 0) ∨ c = (3, 1, 0) := by simpa using h
          rcases this with h | h <;> (rw [h]; exact ⟨⟨by decide, by decide, by decide⟩, rfl, fun h => (by cases h), fun h => (by cases h)⟩)
        · simp at h
    · split at h
      · have : c = (4, 0, 0) ∨ c = (4, 0, 1) ∨ c = (4, 0, 2) ∨ c = (4, 0, 3) ∨ c = (4, 1, 0) ∨ c = (4, 1, 1) ∨ c = (4, 1, 2) ∨ c = (4, 1, 3) := by simpa [chrAC] using h
        rcases this with h | h | h | h | h | h | h | h <;> (rw [h]; exact ⟨⟨by decide, by decide, by decide⟩, rfl, fun h => (by cases h), fun h => (by cases h)⟩)
      · simp at h
theorem row_mem {m : M} {c : Cd} {r : AV} (h : m.row c = some r) : c ∈ m.bls := by
  unfold M.row at h
  rw [Option.bind_eq_some_iff] at h
  obtain ⟨i, hi, _⟩ := h
  obtain ⟨h1, h2⟩ := ixF_is hi
  rw [← h2]; exact List.getElem_mem h1
theorem row_excl {m : M} {a b : Nat} {x y : Nat} {r : AV} (h : m.row (1, a, x) = some r) : m.row (2, b, y) = none := by
  cases h2 : m.row (2, b, y) with
  | none => rfl
  | some q =>
    have k1 := (mem_bls (row_mem h)).2.2.1 rfl
    have k2 := (mem_bls (row_mem h2)).2.2.2 rfl
    exact absurd k1 k2
/-- The reference's block: the row, and whether there is one. -/
def blk15 (m : M) (c : Cd) : AV × Bool :=
  if c.1 = 1 ∨ c.1 = 2 then (match m.row (1, c.2.1, c.2.2) with
    | some r => (nrm r, true)
    | none => (match m.row (2, c.2.1, c.2.2) with | some r => (nrm r, true) | none => (.nils, false)))
  else (match m.row c with | some r => (nrm r, true) | none => (.nils, false))
theorem blk15_good {m : M} (hg : Good 1000 m) (c : Cd) : Row 1000 1 (blk15 m c).1 := by
  unfold blk15
  split
  · split
    · rename_i r h; exact (row_good hg h).nrm
    · split
      · rename_i r h; exact (row_good hg h).nrm
      · exact .inl rfl
  · split
    · rename_i r h; exact (row_good hg h).nrm
    · exact .inl rfl
theorem nz_blk15 {m : M} (hg : Good 1000 m) {c : Cd} (hex : exF c.1 c.2.1 c.2.2 = true) : nz (blk15 m c).1 = nz (coefA m c) := by
  obtain ⟨a, b, k⟩ := c
  unfold blk15 coefA alt
  simp only at hex ⊢
  by_cases hl : a = 1 ∨ a = 2
  · have hb : b = 0 := by
      rcases hl with h | h
      · subst h
        simp only [exF, Bool.and_eq_true] at hex
        exact Nat.eq_of_beq_eq_true hex.1
      · subst h
        simp only [exF, Bool.and_eq_true] at hex
        exact Nat.eq_of_beq_eq_true hex.1
    subst hb
    simp only [if_pos hl]
    rcases hl with h | h
    · subst h
      simp only [if_true]
      cases h1 : m.row (1, 0, k) with
      | some r => exact nz_nrm' (row_good hg h1)
      | none =>
        simp only
        cases h2 : m.row (2, 0, k) with
        | some r => exact nz_nrm' (row_good hg h2)
        | none => rfl
    · subst h
      have hne : ¬ ((2, 0, k) : Cd) = (1, 0, k) := by intro h; cases h
      simp only [if_neg hne]
      cases h1 : m.row (1, 0, k) with
      | some r =>
        have h2 := row_excl (b := 0) (y := k) h1
        rw [h2]
        exact nz_nrm' (row_good hg h1)
      | none =>
        simp only
        cases h2 : m.row (2, 0, k) with
        | some r => exact nz_nrm' (row_good hg h2)
        | none => rfl
  · simp only [if_neg hl]
    cases h1 : m.row (a, b, k) with
    | some r => exact nz_nrm' (row_good hg h1)
    | none => rfl
theorem block15_c {B : CallF} (hB : Known B) (k : Nat) {m : M} (hg : Good 1000 m) (hb : Byt m) {c : Cd} (hc : CdOk c) (S : Heap) :
    Cn B (k + 3) f_spindleref15_Block 0 [.agg m.cells, .agg (cdC c)] S = some (.tup [(blk15 m c).1, .bool (blk15 m c).2], S) := by
  rw [c_spindleref15_Block _ _ _ _ _ (hB.no _ _ _ _ (by decide)), T_spindleref15_Block]
  have l29 := M.len hg.pre
  have t29 : List.take 29 (List.drop 0 m.cells) = m.cells := by rw [List.drop_zero]; exact M.t29 hg.pre
  have l3 : (cdC c).length = 3 := rfl
  have t3 : List.take 3 (List.drop 0 (cdC c)) = cdC c := rfl
  have h29 : (29 : Nat) ≤ 29 := by omega
  have h3 : (3 : Nat) ≤ 3 := by omega
  have g0 : (cdC c)[0]? = some (.int .u8 (c.1 : Int)) := rfl
  have g1 : (cdC c)[1]? = some (.int .u8 (c.2.1 : Int)) := rfl
  have g2 : (cdC c)[2]? = some (.int .i64 (c.2.2 : Int)) := rfl
  have e2 := (luma_c hB (k + 2) hc.1 S).2
  have hfr : ∀ b : Bool, fz 40 (.tup [(blk15 m c).1, .bool b]) S = some (.tup [(blk15 m c).1, .bool b], S) := fun b => by
    obtain h' | ⟨n, cs, h', _⟩ := blk15_good hg c <;> rw [h'] <;> rfl
  by_cases hl : c.1 = 1 ∨ c.1 = 2
  · have hlb : (Nat.beq c.1 1 || Nat.beq c.1 2) = true := by rcases hl with h | h <;> rw [h] <;> rfl
    rw [hlb] at e2
    have e3 : Cn B (k + 2) f_spindleref13_Block 0 [.agg m.cells, .agg [.int .u8 1, .int .u8 (c.2.1 : Int), .int .i64 (c.2.2 : Int)]] S = some (match m.row (1, c.2.1, c.2.2) with | some r => .tup [nrm r, .bool true] | none => .tup [.nils, .bool false], S) := rBlock_c hB k hg hb (1, c.2.1, c.2.2) S
    have e4 : Cn B (k + 2) f_spindleref13_Block 0 [.agg m.cells, .agg [.int .u8 2, .int .u8 (c.2.1 : Int), .int .i64 (c.2.2 : Int)]] S = some (match m.row (2, c.2.1, c.2.2) with | some r => .tup [nrm r, .bool true] | none => .tup [.nils, .bool false], S) := rBlock_c hB k hg hb (2, c.2.1, c.2.2) S
    have w2 : IntKind.wrap .u8 (1 + 1) = 2 := rfl
    have w3 : IntKind.wrap .u8 (2 + 1) = 3 := rfl
    simp only [bO_s, gB_t, asBool_b, asInt_i, asAgg_a, asTup_a, asStr_s, asCons_c, nthA_0, nthA_s, aggCells_a, addV_p, seeV_p, seeV_i, same_nil, tr_same, eql4, neq4, decide_true, decide_false, Bool.false_eq_true, if_false, if_true, Bool.not_true, Bool.not_false, Bool.and_true, Bool.true_and, Bool.and_self, List.getElem?_cons_zero, List.getElem?_cons_succ, Nat.zero_add, Nat.add_zero, beq_self_eq_true, bne_self_eq_false, Int.reduceBNe, Int.reduceBEq, Int.reduceLT, Int.reduceGT, Int.reduceLE, Int.reduceGE, Nat.reduceAdd, Nat.reduceMul, Nat.reduceLeDiff, l29, l3, g0, e2]
    rw [bloop]
    cases h1 : m.row (1, c.2.1, c.2.2) with
    | some r =>
      have hbk : blk15 m c = (nrm r, true) := by unfold blk15; rw [if_pos hl, h1]
      rw [h1] at e3
      simp only at e3
      rw [hbk] at hfr ⊢
      simp only [bO_s, gB_t, asBool_b, asInt_i, asAgg_a, asTup_a, asStr_s, asCons_c, nthA_0, nthA_s, aggCells_a, addV_p, seeV_p, seeV_i, same_nil, tr_same, eql4, neq4, decide_true, decide_false, Bool.false_eq_true, if_false, if_true, Bool.not_true, Bool.not_false, Bool.and_true, Bool.true_and, Bool.and_self, List.getElem?_cons_zero, List.getElem?_cons_succ, Nat.zero_add, Nat.add_zero, beq_self_eq_true, bne_self_eq_false, Int.reduceBNe, Int.reduceBEq, Int.reduceLT, Int.reduceGT, Int.reduceLE, Int.reduceGE, Nat.reduceAdd, Nat.reduceMul, Nat.reduceLeDiff, t29, h29, l29, g1, g2, e3, sel, hfr]
    | none =>
      rw [h1] at e3
      simp only at e3
      simp only [bO_s, gB_t, asBool_b, asInt_i, asAgg_a, asTup_a, asStr_s, asCons_c, nthA_0, nthA_s, aggCells_a, addV_p, seeV_p, seeV_i, same_nil, tr_same, eql4, neq4, decide_true, decide_false, Bool.false_eq_true, if_false, if_true, Bool.not_true, Bool.not_false, Bool.and_true, Bool.true_and, Bool.and_self, List.getElem?_cons_zero, List.getElem?_cons_succ, Nat.zero_add, Nat.add_zero, beq_self_eq_true, bne_self_eq_false, Int.reduceBNe, Int.reduceBEq, Int.reduceLT, Int.reduceGT, Int.reduceLE, Int.reduceGE, Nat.reduceAdd, Nat.reduceMul, Nat.reduceLeDiff, t29, h29, l29, g1, g2, e3, w2]
      rw [bloop]
      cases h2 : m.row (2, c.2.1, c.2.2) with
      | some r =>
        have hbk : blk15 m c = (nrm r, true) := by unfold blk15; rw [if_pos hl, h1]; simp only; rw [h2]
        rw [h2] at e4
        simp only at e4
        rw [hbk] at hfr ⊢
        simp only [bO_s, gB_t, asBool_b, asInt_i, asAgg_a, asTup_a, asStr_s, asCons_c, nthA_0, nthA_s, aggCells_a, addV_p, seeV_p, seeV_i, same_nil, tr_same, eql4, neq4, decide_true, decide_false, Bool.false_eq_true, if_false, if_true, Bool.not_true, Bool.not_false, Bool.and_true, Bool.true_and, Bool.and_self, List.getElem?_cons_zero, List.getElem?_cons_succ, Nat.zero_add, Nat.add_zero, beq_self_eq_true, bne_self_eq_false, Int.reduceBNe, Int.reduceBEq, Int.reduceLT, Int.reduceGT, Int.reduceLE, Int.reduceGE, Nat.reduceAdd, Nat.reduceMul, Nat.reduceLeDiff, t29, h29, l29, g1, g2, e4, sel, hfr]
      | none =>
        have hbk : blk15 m c = (.nils, false) := by unfold blk15; rw [if_pos hl, h1]; simp only; rw [h2]
        rw [h2] at e4
        simp only at e4
        rw [hbk] at hfr ⊢
        simp only [bO_s, gB_t, asBool_b, asInt_i, asAgg_a, asTup_a, asStr_s, asCons_c, nthA_0, nthA_s, aggCells_a, addV_p, seeV_p, seeV_i, same_nil, tr_same, eql4, neq4, decide_true, decide_false, Bool.false_eq_true, if_false, if_true, Bool.not_true, Bool.not_false, Bool.and_true, Bool.true_and, Bool.and_self, List.getElem?_cons_zero, List.getElem?_cons_succ, Nat.zero_add, Nat.add_zero, beq_self_eq_true, bne_self_eq_false, Int.reduceBNe, Int.reduceBEq, Int.reduceLT, Int.reduceGT, Int.reduceLE, Int.reduceGE, Nat.reduceAdd, Nat.reduceMul, Nat.reduceLeDiff, t29, h29, l29, g1, g2, e4, w3]
        rw [bloop]
        simp only [bO_s, gB_t, asBool_b, asInt_i, asAgg_a, asTup_a, asStr_s, asCons_c, nthA_0, nthA_s, aggCells_a, addV_p, seeV_p, seeV_i, same_nil, tr_same, eql4, neq4, decide_true, decide_false, Bool.false_eq_true, if_false, if_true, Bool.not_true, Bool.not_false, Bool.and_true, Bool.true_and, Bool.and_self, List.getElem?_cons_zero, List.getElem?_cons_succ, Nat.zero_add, Nat.add_zero, beq_self_eq_true, bne_self_eq_false, Int.reduceBNe, Int.reduceBEq, Int.reduceLT, Int.reduceGT, Int.reduceLE, Int.reduceGE, Nat.reduceAdd, Nat.reduceMul, Nat.reduceLeDiff, sel, hfr]
  · have hlb : (Nat.beq c.1 1 || Nat.beq c.1 2) = false := by
      cases hx : (Nat.beq c.1 1 || Nat.beq c.1 2) with
      | false => rfl
      | true =>
        rw [Bool.or_eq_true] at hx
        exact absurd (hx.imp Nat.eq_of_beq_eq_true Nat.eq_of_beq_eq_true) hl
    rw [hlb] at e2
    have e3 := rBlock_c hB k hg hb c S
    cases h1 : m.row c with
    | some r =>
      have hbk : blk15 m c = (nrm r, true) := by unfold blk15; rw [if_neg hl, h1]
      rw [h1] at e3
      simp only at e3
      rw [hbk] at hfr ⊢
      simp only [bO_s, gB_t, asBool_b, asInt_i, asAgg_a, asTup_a, asStr_s, asCons_c, nthA_0, nthA_s, aggCells_a, addV_p, seeV_p, seeV_i, same_nil, tr_same, eql4, neq4, decide_true, decide_false, Bool.false_eq_true, if_false, if_true, Bool.not_true, Bool.not_false, Bool.and_true, Bool.true_and, Bool.and_self, List.getElem?_cons_zero, List.getElem?_cons_succ, Nat.zero_add, Nat.add_zero, beq_self_eq_true, bne_self_eq_false, Int.reduceBNe, Int.reduceBEq, Int.reduceLT, Int.reduceGT, Int.reduceLE, Int.reduceGE, Nat.reduceAdd, Nat.reduceMul, Nat.reduceLeDiff, l29, l3, t3, t29, h29, h3, g0, e2, e3, hfr]
    | none =>
      have hbk : blk15 m c = (.nils, false) := by unfold blk15; rw [if_neg hl, h1]
      rw [h1] at e3
      simp only at e3
      rw [hbk] at hfr ⊢
      simp only [bO_s, gB_t, asBool_b, asInt_i, asAgg_a, asTup_a, asStr_s, asCons_c, nthA_0, nthA_s, aggCells_a, addV_p, seeV_p, seeV_i, same_nil, tr_same, eql4, neq4, decide_true, decide_false, Bool.false_eq_true, if_false, if_true, Bool.not_true, Bool.not_false, Bool.and_true, Bool.true_and, Bool.and_self, List.getElem?_cons_zero, List.getElem?_cons_succ, Nat.zero_add, Nat.add_zero, beq_self_eq_true, bne_self_eq_false, Int.reduceBNe, Int.reduceBEq, Int.reduceLT, Int.reduceGT, Int.reduceLE, Int.reduceGE, Nat.reduceAdd, Nat.reduceMul, Nat.reduceLeDiff, l29, l3, t3, t29, h29, h3, g0, e2, e3, hfr]
theorem rtotal_c {B : CallF} (hB : Known B) (k : Nat) {m : M} (hg : Good 1000 m) (hb : Byt m) {c : Cd} (hc : CdOk c) (S : Heap) :
    Cn B (k + 4) f_spindleref15_Total 0 [.agg m.cells, .agg (cdC c)] S = some (.int .i64 (tot m c : Int), S) := by
  rw [c_spindleref15_Total _ _ _ _ _ (hB.no _ _ _ _ (by decide)), T_spindleref15_Total]
  have l29 := M.len hg.pre
  have t29 : List.take 29 (List.drop 0 m.cells) = m.cells := by rw [List.drop_zero]; exact M.t29 hg.pre
  have l3 : (cdC c).length = 3 := rfl
  have t3 : List.take 3 (List.drop 0 (cdC c)) = cdC c := rfl
  have h29 : (29 : Nat) ≤ 29 := by omega
  have h3 : (3 : Nat) ≤ 3 := by omega
  have e1 := (exists_c hB (k + 3) hc S).2
  have g0 := kind_0 hg hb
  unfold tot
  cases hex : exF c.1 c.2.1 c.2.2 with
  | false =>
    rw [hex] at e1
    simp only [bO_s, gB_t, asBool_b, asInt_i, asAgg_a, asTup_a, asStr_s, asCons_c, nthA_0, nthA_s, aggCells_a, addV_p, seeV_p, seeV_i, same_nil, tr_same, eql4, neq4, decide_true, decide_false, Bool.false_eq_true, if_false, if_true, Bool.not_true, Bool.not_false, Bool.and_true, Bool.true_and, Bool.and_self, List.getElem?_cons_zero, List.getElem?_cons_succ, Nat.zero_add, Nat.add_zero, beq_self_eq_true, bne_self_eq_false, Int.reduceBNe, Int.reduceBEq, Int.reduceLT, Int.reduceGT, Int.reduceLE, Int.reduceGE, Nat.reduceAdd, Nat.reduceMul, Nat.reduceLeDiff, l29, l3, t3, h3, e1]
    rfl
  | true =>
    rw [hex] at e1
    by_cases h2 : m.kind = 2
    · have h2b : ((m.kind : Int) == 2) = true := by rw [h2]; rfl
      simp only [bO_s, gB_t, asBool_b, asInt_i, asAgg_a, asTup_a, asStr_s, asCons_c, nthA_0, nthA_s, aggCells_a, addV_p, seeV_p, seeV_i, same_nil, tr_same, eql4, neq4, decide_true, decide_false, Bool.false_eq_true, if_false, if_true, Bool.not_true, Bool.not_false, Bool.and_true, Bool.true_and, Bool.and_self, List.getElem?_cons_zero, List.getElem?_cons_succ, Nat.zero_add, Nat.add_zero, beq_self_eq_true, bne_self_eq_false, Int.reduceBNe, Int.reduceBEq, Int.reduceLT, Int.reduceGT, Int.reduceLE, Int.reduceGE, Nat.reduceAdd, Nat.reduceMul, Nat.reduceLeDiff, l29, l3, t3, h3, e1, g0, h2b, h2]
      rfl
    · have h2b : ((m.kind : Int) == 2) = false := by simp; omega
      have e2 := block15_c hB k hg hb hc S
      have hrw := blk15_good hg c
      have hnz := nz_blk15 hg (c := c) hex
      obtain ⟨n, q1, q2, q3, q4⟩ := len25 hrw (by omega)
      rw [Nat.mul_one] at q2
      rw [if_neg (by simp), if_neg h2, ← hnz]
      obtain ⟨bk, hbk⟩ : ∃ bk, bk = (blk15 m c).1 := ⟨_, rfl⟩
      rw [← hbk] at e2 hrw q2 q3 q4 ⊢
      simp only [bO_s, gB_t, asBool_b, asInt_i, asAgg_a, asTup_a, asStr_s, asCons_c, nthA_0, nthA_s, aggCells_a, addV_p, seeV_p, seeV_i, same_nil, tr_same, eql4, neq4, decide_true, decide_false, Bool.false_eq_true, if_false, if_true, Bool.not_true, Bool.not_false, Bool.and_true, Bool.true_and, Bool.and_self, List.getElem?_cons_zero, List.getElem?_cons_succ, Nat.zero_add, Nat.add_zero, beq_self_eq_true, bne_self_eq_false, Int.reduceBNe, Int.reduceBEq, Int.reduceLT, Int.reduceGT, Int.reduceLE, Int.reduceGE, Nat.reduceAdd, Nat.reduceMul, Nat.reduceLeDiff, l29, l3, t3, t29, h29, h3, e1, g0, h2b, e2]
      refine loop_to (fun i s => s = ([bk, .int .i64 (nzL ((cut bk).take i) : Int), .int .i64 (i : Int)], S)) (fun x => x = (0, [.int .i64 (nz bk : Int)], S)) n (by simp [nzL]) ?_ ?_
      · rintro i s hi rfl
        by_cases hin : i < n
        · have hlt : (i : Int) < (n : Int) := by omega
          have hil : i < (cut bk).length := by omega
          obtain ⟨v, hv⟩ := Row.ints hrw _ (List.getElem_mem hil)
          have hd : ((cut bk).drop (i * 1))[0]? = some (.int .i64 v) := by
            rw [List.getElem?_drop, Nat.add_zero, Nat.mul_one, List.getElem?_eq_getElem hil, hv]
          have hw : IntKind.wrap .i64 ((i : Int) + 1) = ((i + 1 : Nat) : Int) := by rw [wr _ (by omega)]; omega
          have hnl := nz_le hrw i
          have hs := nzL_take (cut bk) hil
          rw [hv] at hs
          by_cases hz : v = 0
          · have hzb : (v != 0) = false := by simp [hz]
            have : nzL ((cut bk).take (i + 1)) = nzL ((cut bk).take i) := by
              rw [hs]; simp [isNz, hz]
            rw [this]
            exact .inr ⟨hin, _, by simp only [bO_s, gB_t, asBool_b, asInt_i, asAgg_a, asTup_a, asStr_s, asCons_c, nthA_0, nthA_s, aggCells_a, addV_p, seeV_p, seeV_i, same_nil, tr_same, eql4, neq4, decide_true, decide_false, Bool.false_eq_true, if_false, if_true, Bool.not_true, Bool.not_false, Bool.and_true, Bool.true_and, Bool.and_self, List.getElem?_cons_zero, List.getElem?_cons_succ, Nat.zero_add, Nat.add_zero, beq_self_eq_true, bne_self_eq_false, Int.reduceBNe, Int.reduceBEq, Int.reduceLT, Int.reduceGT, Int.reduceLE, Int.reduceGE, Nat.reduceAdd, Nat.reduceMul, Nat.reduceLeDiff, q3, hlt, q4 i hin, hd, hzb, hw], rfl⟩
          · have hzb : (v != 0) = true := by simp [hz]
            have : nzL ((cut bk).take (i + 1)) = nzL ((cut bk).take i) + 1 := by
              rw [hs]; simp [isNz, hz]
            rw [this]
            have hw2 : IntKind.wrap .i64 ((nzL ((cut bk).take i) : Int) + 1) = ((nzL ((cut bk).take i) + 1 : Nat) : Int) := by rw [wr _ (by omega)]; omega
            exact .inr ⟨hin, _, by simp only [bO_s, gB_t, asBool_b, asInt_i, asAgg_a, asTup_a, asStr_s, asCons_c, nthA_0, nthA_s, aggCells_a, addV_p, seeV_p, seeV_i, same_nil, tr_same, eql4, neq4, decide_true, decide_false, Bool.false_eq_true, if_false, if_true, Bool.not_true, Bool.not_false, Bool.and_true, Bool.true_and, Bool.and_self, List.getElem?_cons_zero, List.getElem?_cons_succ, Nat.zero_add, Nat.add_zero, beq_self_eq_true, bne_self_eq_false, Int.reduceBNe, Int.reduceBEq, Int.reduceLT, Int.reduceGT, Int.reduceLE, Int.reduceGE, Nat.reduceAdd, Nat.reduceMul, Nat.reduceLeDiff, q3, hlt, q4 i hin, hd, hzb, hw, hw2], rfl⟩
        · have hie : i = n := by omega
          subst hie
          have hlt : ¬ (i : Int) < (i : Int) := by omega
          refine .inl ⟨(0, [.int .i64 (nzL ((cut bk).take i) : Int)], S), by simp only [bO_s, gB_t, asBool_b, asInt_i, asAgg_a, asTup_a, asStr_s, asCons_c, nthA_0, nthA_s, aggCells_a, addV_p, seeV_p, seeV_i, same_nil, tr_same, eql4, neq4, decide_true, decide_false, Bool.false_eq_true, if_false, if_true, Bool.not_true, Bool.not_false, Bool.and_true, Bool.true_and, Bool.and_self, List.getElem?_cons_zero, List.getElem?_cons_succ, Nat.zero_add, Nat.add_zero, beq_self_eq_true, bne_self_eq_false, Int.reduceBNe, Int.reduceBEq, Int.reduceLT, Int.reduceGT, Int.reduceLE, Int.reduceGE, Nat.reduceAdd, Nat.reduceMul, Nat.reduceLeDiff, q3, hlt], ?_⟩
          unfold nz
          rw [List.take_of_length_le (by omega)]
      · rintro x rfl
        simp only [bO_s, gB_t, asBool_b, asInt_i, asAgg_a, asTup_a, asStr_s, asCons_c, nthA_0, nthA_s, aggCells_a, addV_p, seeV_p, seeV_i, same_nil, tr_same, eql4, neq4, decide_true, decide_false, Bool.false_eq_true, if_false, if_true, Bool.not_true, Bool.not_false, Bool.and_true, Bool.true_and, Bool.and_self, List.getElem?_cons_zero, List.getElem?_cons_succ, Nat.zero_add, Nat.add_zero, beq_self_eq_true, bne_self_eq_false, Int.reduceBNe, Int.reduceBEq, Int.reduceLT, Int.reduceGT, Int.reduceLE, Int.reduceGE, Nat.reduceAdd, Nat.reduceMul, Nat.reduceLeDiff, sel]
end Go.Ab.tNearU
