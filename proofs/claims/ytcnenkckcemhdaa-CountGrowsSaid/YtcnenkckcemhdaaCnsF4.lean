/- CountGrows: for every list of arguments. -/
import Derived.Test.YtcnenkckcemhdaaCnsF3
set_option maxRecDepth 100000
set_option linter.unusedSimpArgs false
set_option linter.unusedVariables false
set_option linter.unusedSectionVars false
namespace Go.Ab.tNearU
open Go Go.Proofs

theorem arg5 {a : AV} (h : argOk Try.prog maxLen 16 5 a) : ∃ n : Nat, a = .int .u8 (n : Int) ∧ n ≤ 255 := by
  unfold argOk at h
  rw [Try.underlying5] at h
  obtain ⟨n, h1, h2, h3⟩ := av5 h
  exact ⟨n.toNat, by rw [Int.toNat_of_nonneg h2]; simpa using h1, by omega⟩
theorem countGrows_law (xs : List AV) (h : argsOk Try.prog maxLen 16 Try.f11.params.toList xs) : ∃ (C : CallF) (S' : Heap), NOk Try.prog (fun _ => none) C ∧ C 11 0 xs S0 = some (.bool true, S') := by
  rw [Try.params11] at h
  obtain ⟨a, r, rfl, h1, b, r2, rfl, h2, c, r3, rfl, h3, d, r4, rfl, h4, e, r5, rfl, h5, f, r6, rfl, h6, rfl⟩ := h
  obtain ⟨fi, rfl, hfi⟩ := arg3 h1
  obtain ⟨w, rfl, _⟩ := arg3 h2
  obtain ⟨ms, ha, hl, hA⟩ := arg22 h3
  obtain ⟨m, rfl, hm⟩ := arg29 h4
  obtain ⟨u, rfl, hu⟩ := arg5 h5
  obtain ⟨v, rfl, hv⟩ := arg5 h6
  obtain ⟨S', hS⟩ := countGrows_c Bq_known 0 ha hl hA hm fi w u v hu hv
  exact ⟨Cn Bq 9, S', Cq_ok 9, hS⟩
end Go.Ab.tNearU
