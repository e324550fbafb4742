/- VmbExamples: computed by the kernel. -/
import Derived.Test.YtbmcdphiolidkaaGreatDoorVX3
set_option maxRecDepth 1000000
namespace Go.Ab.tV
open Go Go.Proofs
theorem vmb_is : isT (CY f_spindlelaw21_VmbExamples 0 [] S0) = true := by kernel_rfl
theorem vmb_law (xs : List AV) (h : argsOk Tryz.prog maxLen 16 Tryz.f5.params.toList xs) : ∃ (C : CallF) (S' : Heap), NOk Tryz.prog Gk C ∧ C 5 0 xs S0 = some (.bool true, S') := by
  rw [show Tryz.f5.params.toList = [] by kernel_rfl] at h
  obtain rfl : xs = [] := h
  obtain ⟨S', hS⟩ := isT_of vmb_is
  exact ⟨CY, S', CY_ok, hS⟩
end Go.Ab.tV
