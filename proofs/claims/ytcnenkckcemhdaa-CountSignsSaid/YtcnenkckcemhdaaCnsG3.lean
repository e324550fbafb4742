/- CountSigns: for every list of arguments. -/
import Derived.Test.YtcnenkckcemhdaaCnsG2
set_option maxRecDepth 100000
set_option linter.unusedSimpArgs false
set_option linter.unusedVariables false
set_option linter.unusedSectionVars false
namespace Go.Ab.tNearU
open Go Go.Proofs

theorem arg66 {a : AV} (h : argOk Try.prog maxLen 16 66 a) : ∃ n : Int, a = .int .i8 n ∧ -128 ≤ n ∧ n ≤ 127 := by
  unfold argOk at h
  rw [Try.underlying66] at h
  unfold avOk at h
  rw [Try.underlying66] at h
  simp only at h
  obtain ⟨n, h1, h2⟩ := h
  exact ⟨n, by simpa using h1, by simpa [Lit.wf, IntKind.min, IntKind.max, IntKind.signed, IntKind.bits] using h2⟩
theorem countSigns_law (xs : List AV) (h : argsOk Try.prog maxLen 16 Try.f9.params.toList xs) : ∃ (C : CallF) (S' : Heap), NOk Try.prog (fun _ => none) C ∧ C 9 0 xs S0 = some (.bool true, S') := by
  rw [Try.params9] at h
  obtain ⟨a, r, rfl, h1, b, r2, rfl, h2, c, r3, rfl, h3, d, r4, rfl, h4, e, r5, rfl, h5, rfl⟩ := h
  obtain ⟨fi, rfl, hfi⟩ := arg3 h1
  obtain ⟨w, rfl, _⟩ := arg3 h2
  obtain ⟨ms, ha, hl, hA⟩ := arg22 h3
  obtain ⟨m, rfl, hm⟩ := arg29 h4
  obtain ⟨y, rfl, hy⟩ := arg66 h5
  obtain ⟨S', hS⟩ := countSigns_c Bq_known 0 ha hl hA hm fi w hy
  exact ⟨Cn Bq 9, S', Cq_ok 9, hS⟩
end Go.Ab.tNearU
