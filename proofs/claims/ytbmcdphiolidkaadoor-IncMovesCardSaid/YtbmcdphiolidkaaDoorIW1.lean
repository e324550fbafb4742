/- Lists of coded blocks. -/
import Derived.Test.YtbmcdphiolidkaaDoorIW0
set_option maxRecDepth 100000
set_option linter.unusedSimpArgs false
set_option linter.unusedVariables false
set_option linter.unusedSectionVars false
namespace Go.Ab.tNearU
open Go Go.Proofs

theorem cells3_len : ∀ l : List Cd, (cells3 l).length = l.length * 3
  | [] => rfl
  | c :: l => by simp only [cells3, List.length_cons, cells3_len l]; omega
theorem cells3_at : ∀ (l : List Cd) (i : Nat) (h : i < l.length), List.take 3 (List.drop (i * 3) (cells3 l)) = cdC l[i]
  | c :: l, 0, _ => by simp [cells3, cdC]
  | c :: l, i + 1, h => by
    have e : (i + 1) * 3 = i * 3 + 1 + 1 + 1 := by omega
    rw [e]
    simp only [cells3, List.drop_succ_cons]
    exact cells3_at l i (by simpa using h)

end Go.Ab.tNearU
