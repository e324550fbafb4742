/- The statements VlcPairs, VlcReads and VlcWrites: for all arguments that the statement admits. -/
import Derived.Test.YtfkmmiinlipcpaaVB8
set_option maxRecDepth 100000
namespace Go.Ab.tV
open Go Go.Proofs
theorem vlcPairs_law (xs : List AV) (h : argsOk Try.prog maxLen 16 Try.f3.params.toList xs) : ∃ (C : CallF) (S' : Heap), NOk Try.prog (fun _ => none) C ∧ C 3 0 xs S0 = some (.bool true, S') := by
  rw [Try.params3] at h
  obtain ⟨a, r, rfl, h1, b, r2, rfl, h2, c, r3, rfl, h3, rfl⟩ := h
  obtain ⟨t, rfl, _⟩ := arg3 h1
  obtain ⟨o, rfl, _⟩ := arg3 h2
  obtain ⟨n, rfl, _⟩ := arg3 h3
  obtain ⟨S', hS⟩ := pairs_law t o n
  exact ⟨Cn Bk 4, S', Cn_ok 4, hS⟩
theorem vlcReads_law (xs : List AV) (h : argsOk Try.prog maxLen 16 Try.f9.params.toList xs) : ∃ (C : CallF) (S' : Heap), NOk Try.prog (fun _ => none) C ∧ C 9 0 xs S0 = some (.bool true, S') := by
  rw [Try.params9] at h
  obtain ⟨a, r, rfl, h1, b, r2, rfl, h2, rfl⟩ := h
  obtain ⟨s, rfl, _⟩ := arg9 h1
  obtain ⟨l, hl, hok⟩ := arg_calls h2
  obtain ⟨S', hS⟩ := reads_law (s := s) hl hok
  exact ⟨Cn Bk 10, S', Cn_ok 10, hS⟩
theorem vlcWrites_law (xs : List AV) (h : argsOk Try.prog maxLen 16 Try.f5.params.toList xs) : ∃ (C : CallF) (S' : Heap), NOk Try.prog (fun _ => none) C ∧ C 5 0 xs S0 = some (.bool true, S') := by
  rw [Try.params5] at h
  obtain ⟨a, r, rfl, h1, rfl⟩ := h
  obtain ⟨l, hl, hok⟩ := arg_calls h1
  obtain ⟨S', hS⟩ := writes_law hl hok
  exact ⟨Cn Bk 10, S', Cn_ok 10, hS⟩
end Go.Ab.tV
