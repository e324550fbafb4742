/- A write into a deep row. -/
import Derived.Test.YtcnenkckcemhdaaCnsE2
set_option maxRecDepth 100000
set_option linter.unusedSimpArgs false
set_option linter.unusedVariables false
set_option linter.unusedSectionVars false
namespace Go.Ab.tNearU
open Go Go.Proofs

theorem ownL_upd {P : AV → AV → List Nat → Prop} : ∀ {l r : List AV} {ids : List Nat}, OwnL P l r ids → ∀ i (hi : i < l.length) (hi' : i < r.length),
    ∃ idx, P l[i] r[i] idx ∧ (∀ j ∈ idx, j ∈ ids) ∧ ∀ (Q : AV → AV → List Nat → Prop) (r' : AV), (∀ a a' ix, (∀ j ∈ ix, j ∉ idx) → P a a' ix → Q a a' ix) → Q l[i] r' idx → OwnL Q l (r.set i r') ids
  | [], r, ids, _, i, hi, _ => by cases hi
  | a :: l, r, ids, ⟨a', l', i1, i2, h1, h2, h3, h4, h5⟩, i, hi, hi' => by
    subst h1 h2
    cases i with
    | zero =>
      refine ⟨i1, h4, fun j hj => List.mem_append_left _ hj, fun Q r' hq hr => ⟨r', l', i1, i2, rfl, rfl, h3, hr, ?_⟩⟩
      exact h5.mono fun x x' ix hx hp => hq x x' ix (fun j hj hj' => h3 j hj' (hx j hj)) hp
    | succ i =>
      obtain ⟨idx, f1, f2, f3⟩ := ownL_upd h5 i (by simpa using hi) (by simpa using hi')
      refine ⟨idx, f1, fun j hj => List.mem_append_right _ (f2 j hj), fun Q r' hq hr => ⟨a', l'.set i r', i1, i2, rfl, rfl, h3, hq a a' i1 (fun j hj hj' => h3 j hj (f2 j hj')) h4, f3 Q r' hq hr⟩⟩
end Go.Ab.tNearU
