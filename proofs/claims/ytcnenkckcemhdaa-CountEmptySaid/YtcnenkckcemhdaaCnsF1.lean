/- The same rows, with as many coefficients that are not 0, or more. -/
import Derived.Test.YtcnenkckcemhdaaCnsE5
set_option maxRecDepth 100000
set_option linter.unusedSimpArgs false
set_option linter.unusedVariables false
set_option linter.unusedSectionVars false
namespace Go.Ab.tNearU
open Go Go.Proofs

def RelB (ρ : Nat → Nat → Prop) (b b' : AV) : Prop := (cut b').length = (cut b).length ∧ ∀ i (h : i < (cut b).length) (h' : i < (cut b').length), ρ (nz (cut b)[i]) (nz (cut b')[i])
theorem RelB.refl {ρ : Nat → Nat → Prop} (hr : ∀ n, ρ n n) (b : AV) : RelB ρ b b := ⟨rfl, fun _ _ _ => hr _⟩
theorem RelB.trans {ρ : Nat → Nat → Prop} (ht : ∀ {a b c}, ρ a b → ρ b c → ρ a c) {x y z : AV} (h1 : RelB ρ x y) (h2 : RelB ρ y z) : RelB ρ x z :=
  ⟨h2.1.trans h1.1, fun i h h' => ht (h1.2 i h (by rw [h1.1]; exact h)) (h2.2 i _ h')⟩
theorem relB_set {ρ : Nat → Nat → Prop} (hr : ∀ n, ρ n n) {mb : AV} (hR : Rows 1000 mb) {i n : Nat} {cs cs' : List AV} (hi : i < (cut mb).length) (h : (cut mb)[i] = .is n cs) (hl : cs'.length = cs.length) (hI : ints cs') (hρ : ρ (nzL cs) (nzL cs')) :
    Rows 1000 (.is (cut mb).length ((cut mb).set i (.is n cs'))) ∧ RelB ρ mb (.is (cut mb).length ((cut mb).set i (.is n cs'))) := by
  have hRl := hR.rl
  refine ⟨.inr ⟨_, _, rfl, by omega, by rw [List.length_set], fun c hc => ?_⟩, by show ((cut mb).set i _).length = _; rw [List.length_set], fun j h1 h2 => ?_⟩
  · rcases List.mem_or_eq_of_mem_set hc with hc | rfl
    · exact hR.mem c hc
    · have := hR.mem _ (List.getElem_mem hi)
      rw [h] at this
      obtain h0 | ⟨n', cs0, h0, h1, h2, h3⟩ := this
      · cases h0
      · cases h0
        exact .inr ⟨n, cs', rfl, h1, by omega, hI⟩
  · have h2' : j < ((cut mb).set i (AV.is n cs')).length := h2
    show ρ (nz (cut mb)[j]) (nz (((cut mb).set i (AV.is n cs'))[j]'h2'))
    by_cases hj : i = j
    · subst hj
      rw [List.getElem_set_self, h]; exact hρ
    · rw [List.getElem_set_ne hj]; exact hr _
theorem RelB.row {ρ : Nat → Nat → Prop} {m : M} {b' : AV} (h : RelB ρ m.b b') (c : Cd) : (m.row c = none ∧ ({ m with b := b' } : M).row c = none) ∨ ∃ r r', m.row c = some r ∧ ({ m with b := b' } : M).row c = some r' ∧ ρ (nz r) (nz r') := by
  unfold M.row
  show ((ixF m.bls c).bind _ = none ∧ (ixF m.bls c).bind (fun i => (cut b')[i]?) = none) ∨ ∃ r r', _ = some r ∧ (ixF m.bls c).bind (fun i => (cut b')[i]?) = some r' ∧ _
  cases ixF m.bls c with
  | none => exact .inl ⟨rfl, rfl⟩
  | some i =>
    show ((cut m.b)[i]? = none ∧ (cut b')[i]? = none) ∨ ∃ r r', (cut m.b)[i]? = some r ∧ (cut b')[i]? = some r' ∧ _
    by_cases hi : i < (cut m.b).length
    · have hi' : i < (cut b').length := by rw [h.1]; exact hi
      exact .inr ⟨_, _, List.getElem?_eq_getElem hi, List.getElem?_eq_getElem hi', h.2 i hi hi'⟩
    · exact .inl ⟨List.getElem?_eq_none (by omega), List.getElem?_eq_none (by rw [h.1]; omega)⟩
theorem RelB.le {m : M} {b' : AV} (h : RelB (· ≤ ·) m.b b') : Le m { m with b := b' } := ⟨rfl, h.row⟩
theorem isNz_int (v : Int) : isNz (.int .i64 v) = decide (v ≠ 0) := by
  unfold isNz
  by_cases h : v = 0 <;> simp [h]
theorem nzL_set (l : List AV) {k : Nat} (h : k < l.length) (a : AV) : nzL (l.set k a) + (if isNz l[k] = true then 1 else 0) = nzL l + (if isNz a = true then 1 else 0) := by
  unfold nzL
  induction l generalizing k with
  | nil => cases h
  | cons x l ih =>
    cases k with
    | zero =>
      simp only [List.set_cons_zero, List.getElem_cons_zero, List.filter_cons]
      by_cases h1 : isNz x = true <;> by_cases h2 : isNz a = true <;> simp [h1, h2] <;> omega
    | succ k =>
      have := ih (k := k) (by simpa using h)
      simp only [List.set_cons_succ, List.getElem_cons_succ, List.filter_cons]
      by_cases h1 : isNz x = true <;> simp [h1] <;> omega
theorem ints_set {cs : List AV} (h : ints cs) (k : Nat) (v : Int) : ints (cs.set k (.int .i64 v)) := fun c hc => by
  rcases List.mem_or_eq_of_mem_set hc with hc | rfl
  · exact h c hc
  · exact ⟨v, rfl⟩
end Go.Ab.tNearU
