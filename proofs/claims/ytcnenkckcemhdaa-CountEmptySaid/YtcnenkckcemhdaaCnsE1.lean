/- A class does not become less: the plain law. -/
import Derived.Test.YtcnenkckcemhdaaCnsWB
set_option maxRecDepth 100000
set_option linter.unusedSimpArgs false
set_option linter.unusedVariables false
set_option linter.unusedSectionVars false
namespace Go.Ab.tNearU
open Go Go.Proofs

/-- The same blocks, none with fewer coefficients that are not 0. -/
structure Le (m m' : M) : Prop where
  kind : m.kind = m'.kind
  row : ∀ c, (m.row c = none ∧ m'.row c = none) ∨ ∃ r r', m.row c = some r ∧ m'.row c = some r' ∧ nz r ≤ nz r'
theorem Le.refl (m : M) : Le m m := ⟨rfl, fun c => by
  cases h : m.row c with
  | none => exact .inl ⟨rfl, rfl⟩
  | some r => exact .inr ⟨r, r, rfl, rfl, Nat.le_refl _⟩⟩
theorem Le.coef {m m' : M} (h : Le m m') (d : Cd) : nz (coefA m d) ≤ nz (coefA m' d) := by
  unfold coefA
  rcases h.row d with ⟨h1, h2⟩ | ⟨r, r', h1, h2, h3⟩
  · rw [h1, h2]
    simp only
    split
    · rcases h.row (alt d) with ⟨h3, h4⟩ | ⟨r, r', h3, h4, h5⟩
      · rw [h3, h4]; exact Nat.le_refl _
      · rw [h3, h4]; exact h5
    · exact Nat.le_refl _
  · rw [h1, h2]; exact h3
theorem Le.tot {m m' : M} (h : Le m m') (d : Cd) : tot m d ≤ tot m' d := by
  unfold Go.Ab.tNearU.tot
  rw [h.kind]
  split
  · exact Nat.le_refl _
  · split
    · exact Nat.le_refl _
    · exact h.coef d
theorem clsS_mono {x y : Nat} (h : x ≤ y) : clsS x ≤ clsS y := by
  unfold clsS
  split <;> split <;> (try split) <;> (try split) <;> (try split) <;> (try split) <;> omega
theorem lookd_mono {m : M} {nb nb' : M × Bool} {ab : Bool} {c : Cd} (h : Le nb.1 nb'.1) (hf : nb.2 = nb'.2) :
    (lookd m nb ab c = none ∧ lookd m nb' ab c = none) ∨ ∃ x y, lookd m nb ab c = some x ∧ lookd m nb' ab c = some y ∧ x ≤ y := by
  unfold lookd
  cases (stp (isCh c) ab c.2.2).2 with
  | true => exact .inr ⟨_, _, rfl, rfl, Nat.le_refl _⟩
  | false =>
    rw [← hf]
    cases nb.2 with
    | true => exact .inr ⟨_, _, rfl, rfl, h.tot _⟩
    | false => exact .inl ⟨rfl, rfl⟩
theorem cls_mono {m : M} {nl na nl' na' : M × Bool} {c : Cd} (hl : Le nl.1 nl'.1) (hlf : nl.2 = nl'.2) (ha : Le na.1 na'.1) (haf : na.2 = na'.2) : cls m nl na c ≤ cls m nl' na' c := by
  unfold cls
  split
  · exact Nat.le_refl _
  · unfold clsN
    rcases lookd_mono (m := m) (ab := false) (c := c) hl hlf with ⟨h1, h2⟩ | ⟨x, y, h1, h2, h3⟩ <;> rcases lookd_mono (m := m) (ab := true) (c := c) ha haf with ⟨k1, k2⟩ | ⟨u, v, k1, k2, k3⟩ <;> rw [h1, h2, k1, k2] <;> refine clsS_mono ?_ <;> simp [thr, onO, sm] <;> omega
end Go.Ab.tNearU
