/-
  No cell of these rows narrows 'for every input' (looked for: loops, veiled, ifaces, maps, wideKeys, modest, calm, conditions, laid).
  DERIVED. THE GIVEN ROWS OF THIS SEAT. 9 by the template 'for every input the law returns true; each argument reads behind the call as it read before'; 0 by the template 'total and deterministic' (their statements: YtcnenkckcemhdaaTotals.lean).
  GIVEN WITH THE SEED: the statements are not yours to turn. If you find one false, say at which input.
  Laid BY PROGRAM, IN A SANDBOX (cutbox-rows.mjs): the forced cells as the released guide's own fill.sh prints them over the translation bcc20b52f6dd6f52… (all of the seat's roots in one cut). By AI agents, Wed Nov 11 2026. No macro, syntax, notation, axiom, sorry.
-/
import Derived.Test.YtcnenkckcemhdaaChecked
import GoSem.Claim
import GoSem.ClaimJoined
import GoSem.ClaimMapViews
import Derived.JoinedTies
import Derived.KernelRfl
namespace Go.Proofs.Ytcnenkckcemhdaa
/- THE CELL 'sum', in the pinned program and in every row, IS THE sha256 OF THE DUMP (.gsa) THAT YtcnenkckcemhdaaProg.lean LOADS. Nothing in Lean hashes anything: it is a label: what it is worth is what the hold of that sum in a sandbox is worth. -/
noncomputable def Try.pinned : Pinned := { name := "ytcnenkckcemhdaa", sum := "bcc20b52f6dd6f526daf882cc4aec44f1ec090bfafe57d5c5e9119bde9a2c106", checked := Try.checked }
namespace Rows
def none {H : Type} : Left H := { results := [], args := [] }

/-- 'spindlelaw14.NearIgnores': WHATEVER THE INPUT: true; the input reads as it did. -/
def nearIgnoresSpec : ChangeSpec := { name := "nearIgnores", fn := fun _ => fun
  | [d1, d2, d3, d4, d5] => { results := [.lit (.bool true)], args := [d1, d2, d3, d4, d5] }
  | _ => none }
def nearIgnoresRow : OpenClaim := { program := "ytcnenkckcemhdaa", sum := "bcc20b52f6dd6f526daf882cc4aec44f1ec090bfafe57d5c5e9119bde9a2c106", func := "spindle/spindlelaw14.NearIgnores", spec := "nearIgnores", unfollowed := true, recurses := true, apart := false }
def NearIgnoresSaid : Prop := nearIgnoresRow.holds Try.pinned (OpenSpec.ofChange nearIgnoresSpec)

/-- ITS FALSE NEIGHBOUR: 'it returns false'. Refute it at one input. -/
def nearIgnoresWrong : ChangeSpec := { name := "nearIgnores", fn := fun _ => fun
  | [d1, d2, d3, d4, d5] => { results := [.lit (.bool false)], args := [d1, d2, d3, d4, d5] }
  | _ => none }
def NearIgnoresWrongFalsely : Prop := nearIgnoresRow.holds Try.pinned (OpenSpec.ofChange nearIgnoresWrong)

/-- 'spindlelaw14.NearRows': WHATEVER THE INPUT: true; the input reads as it did. -/
def nearRowsSpec : ChangeSpec := { name := "nearRows", fn := fun _ => fun
  | [d1, d2] => { results := [.lit (.bool true)], args := [d1, d2] }
  | _ => none }
def nearRowsRow : OpenClaim := { program := "ytcnenkckcemhdaa", sum := "bcc20b52f6dd6f526daf882cc4aec44f1ec090bfafe57d5c5e9119bde9a2c106", func := "spindle/spindlelaw14.NearRows", spec := "nearRows", unfollowed := true, recurses := true, apart := false }
def NearRowsSaid : Prop := nearRowsRow.holds Try.pinned (OpenSpec.ofChange nearRowsSpec)

/-- ITS FALSE NEIGHBOUR: 'it returns false'. Refute it at one input. -/
def nearRowsWrong : ChangeSpec := { name := "nearRows", fn := fun _ => fun
  | [d1, d2] => { results := [.lit (.bool false)], args := [d1, d2] }
  | _ => none }
def NearRowsWrongFalsely : Prop := nearRowsRow.holds Try.pinned (OpenSpec.ofChange nearRowsWrong)

/-- 'spindlelaw14.NearMatches': WHATEVER THE INPUT: true; the input reads as it did. -/
def nearMatchesSpec : ChangeSpec := { name := "nearMatches", fn := fun _ => fun
  | [d1, d2, d3] => { results := [.lit (.bool true)], args := [d1, d2, d3] }
  | _ => none }
def nearMatchesRow : OpenClaim := { program := "ytcnenkckcemhdaa", sum := "bcc20b52f6dd6f526daf882cc4aec44f1ec090bfafe57d5c5e9119bde9a2c106", func := "spindle/spindlelaw14.NearMatches", spec := "nearMatches", unfollowed := true, recurses := true, apart := false }
def NearMatchesSaid : Prop := nearMatchesRow.holds Try.pinned (OpenSpec.ofChange nearMatchesSpec)

/-- ITS FALSE NEIGHBOUR: 'it returns false'. Refute it at one input. -/
def nearMatchesWrong : ChangeSpec := { name := "nearMatches", fn := fun _ => fun
  | [d1, d2, d3] => { results := [.lit (.bool false)], args := [d1, d2, d3] }
  | _ => none }
def NearMatchesWrongFalsely : Prop := nearMatchesRow.holds Try.pinned (OpenSpec.ofChange nearMatchesWrong)

/-- 'spindlelaw14.NearPlaces': WHATEVER THE INPUT: true; the input reads as it did. -/
def nearPlacesSpec : ChangeSpec := { name := "nearPlaces", fn := fun _ => fun
  | [d1, d2, d3] => { results := [.lit (.bool true)], args := [d1, d2, d3] }
  | _ => none }
def nearPlacesRow : OpenClaim := { program := "ytcnenkckcemhdaa", sum := "bcc20b52f6dd6f526daf882cc4aec44f1ec090bfafe57d5c5e9119bde9a2c106", func := "spindle/spindlelaw14.NearPlaces", spec := "nearPlaces", unfollowed := true, recurses := true, apart := false }
def NearPlacesSaid : Prop := nearPlacesRow.holds Try.pinned (OpenSpec.ofChange nearPlacesSpec)

/-- ITS FALSE NEIGHBOUR: 'it returns false'. Refute it at one input. -/
def nearPlacesWrong : ChangeSpec := { name := "nearPlaces", fn := fun _ => fun
  | [d1, d2, d3] => { results := [.lit (.bool false)], args := [d1, d2, d3] }
  | _ => none }
def NearPlacesWrongFalsely : Prop := nearPlacesRow.holds Try.pinned (OpenSpec.ofChange nearPlacesWrong)

/-- 'spindlelaw14.NearCopies': WHATEVER THE INPUT: true; the input reads as it did. -/
def nearCopiesSpec : ChangeSpec := { name := "nearCopies", fn := fun _ => fun
  | [d1, d2, d3, d4] => { results := [.lit (.bool true)], args := [d1, d2, d3, d4] }
  | _ => none }
def nearCopiesRow : OpenClaim := { program := "ytcnenkckcemhdaa", sum := "bcc20b52f6dd6f526daf882cc4aec44f1ec090bfafe57d5c5e9119bde9a2c106", func := "spindle/spindlelaw14.NearCopies", spec := "nearCopies", unfollowed := true, recurses := true, apart := false }
def NearCopiesSaid : Prop := nearCopiesRow.holds Try.pinned (OpenSpec.ofChange nearCopiesSpec)

/-- ITS FALSE NEIGHBOUR: 'it returns false'. Refute it at one input. -/
def nearCopiesWrong : ChangeSpec := { name := "nearCopies", fn := fun _ => fun
  | [d1, d2, d3, d4] => { results := [.lit (.bool false)], args := [d1, d2, d3, d4] }
  | _ => none }
def NearCopiesWrongFalsely : Prop := nearCopiesRow.holds Try.pinned (OpenSpec.ofChange nearCopiesWrong)

/-- 'spindlelaw15.CountEvery': WHATEVER THE INPUT: true; the input reads as it did. -/
def countEverySpec : ChangeSpec := { name := "countEvery", fn := fun _ => fun
  | [d1, d2, d3, d4] => { results := [.lit (.bool true)], args := [d1, d2, d3, d4] }
  | _ => none }
def countEveryRow : OpenClaim := { program := "ytcnenkckcemhdaa", sum := "bcc20b52f6dd6f526daf882cc4aec44f1ec090bfafe57d5c5e9119bde9a2c106", func := "spindle/spindlelaw15.CountEvery", spec := "countEvery", unfollowed := true, recurses := true, apart := false }
def CountEverySaid : Prop := countEveryRow.holds Try.pinned (OpenSpec.ofChange countEverySpec)

/-- ITS FALSE NEIGHBOUR: 'it returns false'. Refute it at one input. -/
def countEveryWrong : ChangeSpec := { name := "countEvery", fn := fun _ => fun
  | [d1, d2, d3, d4] => { results := [.lit (.bool false)], args := [d1, d2, d3, d4] }
  | _ => none }
def CountEveryWrongFalsely : Prop := countEveryRow.holds Try.pinned (OpenSpec.ofChange countEveryWrong)

/-- 'spindlelaw15.CountSigns': WHATEVER THE INPUT: true; the input reads as it did. -/
def countSignsSpec : ChangeSpec := { name := "countSigns", fn := fun _ => fun
  | [d1, d2, d3, d4, d5] => { results := [.lit (.bool true)], args := [d1, d2, d3, d4, d5] }
  | _ => none }
def countSignsRow : OpenClaim := { program := "ytcnenkckcemhdaa", sum := "bcc20b52f6dd6f526daf882cc4aec44f1ec090bfafe57d5c5e9119bde9a2c106", func := "spindle/spindlelaw15.CountSigns", spec := "countSigns", unfollowed := true, recurses := true, apart := false }
def CountSignsSaid : Prop := countSignsRow.holds Try.pinned (OpenSpec.ofChange countSignsSpec)

/-- ITS FALSE NEIGHBOUR: 'it returns false'. Refute it at one input. -/
def countSignsWrong : ChangeSpec := { name := "countSigns", fn := fun _ => fun
  | [d1, d2, d3, d4, d5] => { results := [.lit (.bool false)], args := [d1, d2, d3, d4, d5] }
  | _ => none }
def CountSignsWrongFalsely : Prop := countSignsRow.holds Try.pinned (OpenSpec.ofChange countSignsWrong)

/-- 'spindlelaw15.CountEmpty': WHATEVER THE INPUT: true; the input reads as it did. -/
def countEmptySpec : ChangeSpec := { name := "countEmpty", fn := fun _ => fun
  | [d1, d2, d3, d4] => { results := [.lit (.bool true)], args := [d1, d2, d3, d4] }
  | _ => none }
def countEmptyRow : OpenClaim := { program := "ytcnenkckcemhdaa", sum := "bcc20b52f6dd6f526daf882cc4aec44f1ec090bfafe57d5c5e9119bde9a2c106", func := "spindle/spindlelaw15.CountEmpty", spec := "countEmpty", unfollowed := true, recurses := true, apart := false }
def CountEmptySaid : Prop := countEmptyRow.holds Try.pinned (OpenSpec.ofChange countEmptySpec)

/-- ITS FALSE NEIGHBOUR: 'it returns false'. Refute it at one input. -/
def countEmptyWrong : ChangeSpec := { name := "countEmpty", fn := fun _ => fun
  | [d1, d2, d3, d4] => { results := [.lit (.bool false)], args := [d1, d2, d3, d4] }
  | _ => none }
def CountEmptyWrongFalsely : Prop := countEmptyRow.holds Try.pinned (OpenSpec.ofChange countEmptyWrong)

/-- 'spindlelaw15.CountGrows': WHATEVER THE INPUT: true; the input reads as it did. -/
def countGrowsSpec : ChangeSpec := { name := "countGrows", fn := fun _ => fun
  | [d1, d2, d3, d4, d5, d6] => { results := [.lit (.bool true)], args := [d1, d2, d3, d4, d5, d6] }
  | _ => none }
def countGrowsRow : OpenClaim := { program := "ytcnenkckcemhdaa", sum := "bcc20b52f6dd6f526daf882cc4aec44f1ec090bfafe57d5c5e9119bde9a2c106", func := "spindle/spindlelaw15.CountGrows", spec := "countGrows", unfollowed := true, recurses := true, apart := false }
def CountGrowsSaid : Prop := countGrowsRow.holds Try.pinned (OpenSpec.ofChange countGrowsSpec)

/-- ITS FALSE NEIGHBOUR: 'it returns false'. Refute it at one input. -/
def countGrowsWrong : ChangeSpec := { name := "countGrows", fn := fun _ => fun
  | [d1, d2, d3, d4, d5, d6] => { results := [.lit (.bool false)], args := [d1, d2, d3, d4, d5, d6] }
  | _ => none }
def CountGrowsWrongFalsely : Prop := countGrowsRow.holds Try.pinned (OpenSpec.ofChange countGrowsWrong)

/- THE SECOND FORM. 'bulk': how many values and letters a reading holds, each counted each time it is reached (what is shared counts as often as it is met; a slice's spare places count too). A statement '..UptoSaid' is the law's where the arguments, and the package variables that the reading takes, are together of bulk at most 1048576: NARROWER than '..Said'. Prove '..Said' where nothing that the law and all that it calls make is longer than what came in: it says more and counts as full. Else prove '..UptoSaid'. A law counts once. -/
mutual
def uptoBulk {H : Type} : DataW H → Nat
  | .lit (.string bytes) => bytes.length + 1
  | .lit _ => 1
  | .nil => 1
  | .ptr d => uptoBulk d + 1
  | .slice elems spare => uptoBulkAll elems + uptoBulkAll spare + 1
  | .agg parts => uptoBulkAll parts + 1
  | .iface _ d => uptoBulk d + 1
  | .map entries => uptoBulkEntries entries + 1
  | .held _ => 1
def uptoBulkAll {H : Type} : List (DataW H) → Nat
  | [] => 0
  | d :: r => uptoBulk d + uptoBulkAll r
def uptoBulkEntries {H : Type} : List (Lit × DataW H) → Nat
  | [] => 0
  | x :: r => uptoBulkEntry x + uptoBulkEntries r
def uptoBulkEntry {H : Type} : Lit × DataW H → Nat
  | (.string bytes, d) => bytes.length + uptoBulk d + 1
  | (_, d) => uptoBulk d + 1
 end
def uptoSmall : (H : Type) → List (DataW H) → Bool := fun _ ds => decide (uptoBulkAll ds ≤ 1048576)
def OpenSpec.upto (s : _root_.Go.ChangeSpec) : _root_.Go.OpenSpec := { _root_.Go.OpenSpec.ofChange s with cond := some uptoSmall }

/-- 'spindlelaw14.NearIgnores', WHERE WHAT IT READS IS OF BULK AT MOST 1048576: true; the input reads as it did. -/
def nearIgnoresUptoRow : OpenClaim := { program := "ytcnenkckcemhdaa", sum := "bcc20b52f6dd6f526daf882cc4aec44f1ec090bfafe57d5c5e9119bde9a2c106", func := "spindle/spindlelaw14.NearIgnores", spec := "nearIgnores", unfollowed := true, recurses := true, apart := false, narrowed := true }
def NearIgnoresUptoSaid : Prop := nearIgnoresUptoRow.holds Try.pinned (OpenSpec.upto nearIgnoresSpec)

/-- 'spindlelaw14.NearRows', WHERE WHAT IT READS IS OF BULK AT MOST 1048576: true; the input reads as it did. -/
def nearRowsUptoRow : OpenClaim := { program := "ytcnenkckcemhdaa", sum := "bcc20b52f6dd6f526daf882cc4aec44f1ec090bfafe57d5c5e9119bde9a2c106", func := "spindle/spindlelaw14.NearRows", spec := "nearRows", unfollowed := true, recurses := true, apart := false, narrowed := true }
def NearRowsUptoSaid : Prop := nearRowsUptoRow.holds Try.pinned (OpenSpec.upto nearRowsSpec)

/-- 'spindlelaw14.NearMatches', WHERE WHAT IT READS IS OF BULK AT MOST 1048576: true; the input reads as it did. -/
def nearMatchesUptoRow : OpenClaim := { program := "ytcnenkckcemhdaa", sum := "bcc20b52f6dd6f526daf882cc4aec44f1ec090bfafe57d5c5e9119bde9a2c106", func := "spindle/spindlelaw14.NearMatches", spec := "nearMatches", unfollowed := true, recurses := true, apart := false, narrowed := true }
def NearMatchesUptoSaid : Prop := nearMatchesUptoRow.holds Try.pinned (OpenSpec.upto nearMatchesSpec)

/-- 'spindlelaw14.NearPlaces', WHERE WHAT IT READS IS OF BULK AT MOST 1048576: true; the input reads as it did. -/
def nearPlacesUptoRow : OpenClaim := { program := "ytcnenkckcemhdaa", sum := "bcc20b52f6dd6f526daf882cc4aec44f1ec090bfafe57d5c5e9119bde9a2c106", func := "spindle/spindlelaw14.NearPlaces", spec := "nearPlaces", unfollowed := true, recurses := true, apart := false, narrowed := true }
def NearPlacesUptoSaid : Prop := nearPlacesUptoRow.holds Try.pinned (OpenSpec.upto nearPlacesSpec)

/-- 'spindlelaw14.NearCopies', WHERE WHAT IT READS IS OF BULK AT MOST 1048576: true; the input reads as it did. -/
def nearCopiesUptoRow : OpenClaim := { program := "ytcnenkckcemhdaa", sum := "bcc20b52f6dd6f526daf882cc4aec44f1ec090bfafe57d5c5e9119bde9a2c106", func := "spindle/spindlelaw14.NearCopies", spec := "nearCopies", unfollowed := true, recurses := true, apart := false, narrowed := true }
def NearCopiesUptoSaid : Prop := nearCopiesUptoRow.holds Try.pinned (OpenSpec.upto nearCopiesSpec)

/-- 'spindlelaw15.CountEvery', WHERE WHAT IT READS IS OF BULK AT MOST 1048576: true; the input reads as it did. -/
def countEveryUptoRow : OpenClaim := { program := "ytcnenkckcemhdaa", sum := "bcc20b52f6dd6f526daf882cc4aec44f1ec090bfafe57d5c5e9119bde9a2c106", func := "spindle/spindlelaw15.CountEvery", spec := "countEvery", unfollowed := true, recurses := true, apart := false, narrowed := true }
def CountEveryUptoSaid : Prop := countEveryUptoRow.holds Try.pinned (OpenSpec.upto countEverySpec)

/-- 'spindlelaw15.CountSigns', WHERE WHAT IT READS IS OF BULK AT MOST 1048576: true; the input reads as it did. -/
def countSignsUptoRow : OpenClaim := { program := "ytcnenkckcemhdaa", sum := "bcc20b52f6dd6f526daf882cc4aec44f1ec090bfafe57d5c5e9119bde9a2c106", func := "spindle/spindlelaw15.CountSigns", spec := "countSigns", unfollowed := true, recurses := true, apart := false, narrowed := true }
def CountSignsUptoSaid : Prop := countSignsUptoRow.holds Try.pinned (OpenSpec.upto countSignsSpec)

/-- 'spindlelaw15.CountEmpty', WHERE WHAT IT READS IS OF BULK AT MOST 1048576: true; the input reads as it did. -/
def countEmptyUptoRow : OpenClaim := { program := "ytcnenkckcemhdaa", sum := "bcc20b52f6dd6f526daf882cc4aec44f1ec090bfafe57d5c5e9119bde9a2c106", func := "spindle/spindlelaw15.CountEmpty", spec := "countEmpty", unfollowed := true, recurses := true, apart := false, narrowed := true }
def CountEmptyUptoSaid : Prop := countEmptyUptoRow.holds Try.pinned (OpenSpec.upto countEmptySpec)

/-- 'spindlelaw15.CountGrows', WHERE WHAT IT READS IS OF BULK AT MOST 1048576: true; the input reads as it did. -/
def countGrowsUptoRow : OpenClaim := { program := "ytcnenkckcemhdaa", sum := "bcc20b52f6dd6f526daf882cc4aec44f1ec090bfafe57d5c5e9119bde9a2c106", func := "spindle/spindlelaw15.CountGrows", spec := "countGrows", unfollowed := true, recurses := true, apart := false, narrowed := true }
def CountGrowsUptoSaid : Prop := countGrowsUptoRow.holds Try.pinned (OpenSpec.upto countGrowsSpec)

end Rows
end Go.Proofs.Ytcnenkckcemhdaa
