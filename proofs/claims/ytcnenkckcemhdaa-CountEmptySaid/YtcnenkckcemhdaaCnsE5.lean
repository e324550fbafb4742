/- A write into a block of a macroblock of a deep row. -/
import Derived.Test.YtcnenkckcemhdaaCnsE4
set_option maxRecDepth 100000
set_option linter.unusedSimpArgs false
set_option linter.unusedVariables false
set_option linter.unusedSectionVars false
namespace Go.Ab.tNearU
open Go Go.Proofs

theorem dL_upd {w : Bool} {S : Heap} : ∀ {ds ms : List M} {ids : List Nat}, DL w S ds ms ids → ∀ i (hi : i < ds.length) (hi' : i < ms.length),
    ∃ idx, DM w S ds[i] ms[i] idx ∧ (∀ j ∈ idx, j ∈ ids) ∧ ∀ (T : Heap) (m' : M), (∀ j ∈ ids, j ∉ idx → T.blk j = S.blk j) → DM w T ds[i] m' idx → DL w T ds (ms.set i m') ids
  | [], ms, ids, _, i, hi, _ => by cases hi
  | d :: ds, ms, ids, ⟨m, l', i1, i2, h1, h2, h3, h4, h5⟩, i, hi, hi' => by
    subst h1 h2
    cases i with
    | zero =>
      refine ⟨i1, h4, fun j hj => List.mem_append_left _ hj, fun T m' hk hm => ⟨m', l', i1, i2, rfl, rfl, h3, hm, ?_⟩⟩
      exact h5.keep fun j hj => hk j (List.mem_append_right _ hj) (fun hj' => h3 j hj' hj)
    | succ i =>
      obtain ⟨idx, f1, f2, f3⟩ := dL_upd h5 i (by simpa using hi) (by simpa using hi')
      refine ⟨idx, f1, fun j hj => List.mem_append_right _ (f2 j hj), fun T m' hk hm => ⟨m, l'.set i m', i1, i2, rfl, rfl, h3, ?_, ?_⟩⟩
      · exact h4.keep fun j hj => hk j (List.mem_append_left _ hj) (fun hj' => h3 j hj (f2 j hj'))
      · exact f3 T m' (fun j hj hj' => hk j (List.mem_append_right _ hj) hj') hm
end Go.Ab.tNearU
