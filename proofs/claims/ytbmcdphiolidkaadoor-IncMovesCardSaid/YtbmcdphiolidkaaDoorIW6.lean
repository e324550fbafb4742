/- The reference's total of a block is the same. -/
import Derived.Test.YtbmcdphiolidkaaDoorIW5
set_option maxRecDepth 100000
set_option linter.unusedSimpArgs false
set_option linter.unusedVariables false
set_option linter.unusedSectionVars false
namespace Go.Ab.tNearU
open Go Go.Proofs

theorem mem_lum {cat cb : Nat} : ∀ {n : Nat} {c : Cd}, c ∈ lum cat cb n → c.1 = cat ∧ c.2.1 = 0 ∧ c.2.2 < n
  | 0, c, h => by simp [lum] at h
  | n + 1, c, h => by
    simp only [lum] at h
    split at h
    · rcases List.mem_append.1 h with h | h
      · obtain ⟨h1, h2, h3⟩ := mem_lum h
        exact ⟨h1, h2, by omega⟩
      · have : c = (cat, 0, n) := by simpa using h
        rw [this]; exact ⟨rfl, rfl, Nat.lt_succ_self n⟩
    · obtain ⟨h1, h2, h3⟩ := mem_lum h
      exact ⟨h1, h2, by omega⟩
theorem mem_bls {kind cb : Nat} {c : Cd} (h : c ∈ bls kind cb) : CdOk c ∧ exF c.1 c.2.1 c.2.2 = true ∧ (c.1 = 1 → kind = 1) ∧ (c.1 = 2 → kind ≠ 1) := by
  unfold bls at h
  split at h
  · simp at h
  · rcases List.mem_append.1 h with h | h
    · rcases List.mem_append.1 h with h | h
      · rcases List.mem_append.1 h with h | h
        · split at h
          · have : c = (0, 0, 0) := by simpa using h
            rw [this]; exact ⟨⟨by decide, by decide, by decide⟩, rfl, fun h => (by cases h), fun h => (by cases h)⟩
          · simp at h
        · obtain ⟨h1, h2, h3⟩ := mem_lum h
          obtain ⟨a, b, k⟩ := c
          simp only at h1 h2 h3
          subst h2
          have hb : Nat.blt k 16 = true := by simpa [Nat.blt_eq] using h3
          by_cases hk : kind = 1
          · rw [if_pos hk] at h1
            subst h1
            exact ⟨⟨by simp only; omega, by simp only; omega, h3⟩, by show (Nat.beq 0 0 && Nat.blt k 16) = true; rw [hb]; rfl, fun _ => hk, fun h => (by cases h)⟩
          · rw [if_neg hk] at h1
            subst h1
            exact ⟨⟨by simp only; omega, by simp only; omega, h3⟩, by show (Nat.beq 0 0 && Nat.blt k 16) = true; rw [hb]; rfl, fun h => (by cases h), fun _ => hk⟩
      · split at h
        · have : c = (3, 0, 0) ∨ c = (3, 1, 0) := by simpa using h
          rcases this with h | h <;> (rw [h]; exact ⟨⟨by decide, by decide, by decide⟩, rfl, fun h => (by cases h), fun h => (by cases h)⟩)
        · simp at h
    · split at h
      · have : c = (4, 0, 0) ∨ c = (4, 0, 1) ∨ c = (4, 0, 2) ∨ c = (4, 0, 3) ∨ c = (4, 1, 0) ∨ c = (4, 1, 1) ∨ c = (4, 1, 2) ∨ c = (4, 1, 3) := by simpa [chrAC] using h
        rcases this with h | h | h | h | h | h | h | h <;> (rw [h]; exact ⟨⟨by decide, by decide, by decide⟩, rfl, fun h => (by cases h), fun h => (by cases h)⟩)
      · simp at h
theorem row_mem {m : M} {c : Cd} {r : AV} (h : m.row c = some r) : c ∈ m.bls := by
  unfold M.row at h
  rw [Option.bind_eq_some_iff] at h
  obtain ⟨i, hi, _⟩ := h
  obtain ⟨h1, h2⟩ := ixF_is hi
  rw [← h2]; exact List.getElem_mem h1
theorem row_excl {m : M} {a b : Nat} {x y : Nat} {r : AV} (h : m.row (1, a, x) = some r) : m.row (2, b, y) = none := by
  cases h2 : m.row (2, b, y) with
  | none => rfl
  | some q =>
    have k1 := (mem_bls (row_mem h)).2.2.1 rfl
    have k2 := (mem_bls (row_mem h2)).2.2.2 rfl
    exact absurd k1 k2
/-- The reference's block: the row, and whether there is one. -/
def blk15 (m : M) (c : Cd) : AV × Bool :=
  if c.1 = 1 ∨ c.1 = 2 then (match m.row (1, c.2.1, c.2.2) with
    | some r => (nrm r, true)
    | none => (match m.row (2, c.2.1, c.2.2) with | some r => (nrm r, true) | none => (.nils, false)))
  else (match m.row c with | some r => (nrm r, true) | none => (.nils, false))
theorem blk15_good {m : M} (hg : Good 1000 m) (c : Cd) : Row 1000 1 (blk15 m c).1 := by
  unfold blk15
  split
  · split
    · rename_i r h; exact (row_good hg h).nrm
    · split
      · rename_i r h; exact (row_good hg h).nrm
      · exact .inl rfl
  · split
    · rename_i r h; exact (row_good hg h).nrm
    · exact .inl rfl
theorem nz_blk15 {m : M} (hg : Good 1000 m) {c : Cd} (hex : exF c.1 c.2.1 c.2.2 = true) : nz (blk15 m c).1 = nz (coefA m c) := by
  obtain ⟨a, b, k⟩ := c
  unfold blk15 coefA alt
  simp only at hex ⊢
  by_cases hl : a = 1 ∨ a = 2
  · have hb : b = 0 := by
      rcases hl with h | h
      · subst h
        simp only [exF, Bool.and_eq_true] at hex
        exact Nat.eq_of_beq_eq_true hex.1
      · subst h
        simp only [exF, Bool.and_eq_true] at hex
        exact Nat.eq_of_beq_eq_true hex.1
    subst hb
    simp only [if_pos hl]
    rcases hl with h | h
    · subst h
      simp only [if_true]
      cases h1 : m.row (1, 0, k) with
      | some r => exact nz_nrm' (row_good hg h1)
      | none =>
        simp only
        cases h2 : m.row (2, 0, k) with
        | some r => exact nz_nrm' (row_good hg h2)
        | none => rfl
    · subst h
      have hne : ¬ ((2, 0, k) : Cd) = (1, 0, k) := by intro h; cases h
      simp only [if_neg hne]
      cases h1 : m.row (1, 0, k) with
      | some r =>
        have h2 := row_excl (b := 0) (y := k) h1
        rw [h2]
        exact nz_nrm' (row_good hg h1)
      | none =>
        simp only
        cases h2 : m.row (2, 0, k) with
        | some r => exact nz_nrm' (row_good hg h2)
        | none => rfl
  · simp only [if_neg hl]
    cases h1 : m.row (a, b, k) with
    | some r => exact nz_nrm' (row_good hg h1)
    | none => rfl
end Go.Ab.tNearU
