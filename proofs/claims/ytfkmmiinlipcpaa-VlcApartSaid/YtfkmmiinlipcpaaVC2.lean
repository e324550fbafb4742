/- The statements VlcBack, VlcComplete, VlcLengths and VlcApart: for all arguments that the statement admits. -/
import Derived.Test.YtfkmmiinlipcpaaVD3
set_option maxRecDepth 100000
namespace Go.Ab.tV
open Go Go.Proofs
theorem vlcBack_law (xs : List AV) (h : argsOk Try.prog maxLen 16 Try.f10.params.toList xs) : ∃ (C : CallF) (S' : Heap), NOk Try.prog (fun _ => none) C ∧ C 10 0 xs S0 = some (.bool true, S') := by
  rw [Try.params10] at h
  obtain ⟨a, r, rfl, h1, b, r2, rfl, h2, rfl⟩ := h
  obtain ⟨l, hl, hok⟩ := arg_calls h1
  obtain ⟨s, rfl, _⟩ := arg9 h2
  obtain ⟨S', hS⟩ := back_law (s := s) hl hok
  exact ⟨Cn Bk 11, S', Cn_ok 11, hS⟩
theorem vlcComplete_law (xs : List AV) (h : argsOk Try.prog maxLen 16 Try.f8.params.toList xs) : ∃ (C : CallF) (S' : Heap), NOk Try.prog (fun _ => none) C ∧ C 8 0 xs S0 = some (.bool true, S') := by
  rw [Try.params8] at h
  obtain ⟨a, r, rfl, h1, b, r2, rfl, h2, rfl⟩ := h
  obtain ⟨s, rfl, _⟩ := arg9 h1
  obtain ⟨x, rfl, hok⟩ := arg_call h2
  obtain ⟨S', hS⟩ := complete_law (s := s) hok
  exact ⟨Cn Bk 9, S', Cn_ok 9, hS⟩
theorem vlcLengths_law (xs : List AV) (h : argsOk Try.prog maxLen 16 Try.f7.params.toList xs) : ∃ (C : CallF) (S' : Heap), NOk Try.prog (fun _ => none) C ∧ C 7 0 xs S0 = some (.bool true, S') := by
  rw [Try.params7] at h
  obtain ⟨a, r, rfl, h1, rfl⟩ := h
  obtain ⟨x, rfl, hok⟩ := arg_call h1
  obtain ⟨S', hS⟩ := lengths_law hok
  exact ⟨Cn Bk 9, S', Cn_ok 9, hS⟩
theorem vlcApart_law (xs : List AV) (h : argsOk Try.prog maxLen 16 Try.f6.params.toList xs) : ∃ (C : CallF) (S' : Heap), NOk Try.prog (fun _ => none) C ∧ C 6 0 xs S0 = some (.bool true, S') := by
  rw [Try.params6] at h
  obtain ⟨a, r, rfl, h1, b, r2, rfl, h2, c, r3, rfl, h3, rfl⟩ := h
  obtain ⟨x, rfl, hok⟩ := arg_call h1
  obtain ⟨t, rfl, _⟩ := arg3 h2
  obtain ⟨o, rfl, _⟩ := arg3 h3
  obtain ⟨S', hS⟩ := apart_law hok t o
  exact ⟨Cn Bk 9, S', Cn_ok 9, hS⟩
end Go.Ab.tV
