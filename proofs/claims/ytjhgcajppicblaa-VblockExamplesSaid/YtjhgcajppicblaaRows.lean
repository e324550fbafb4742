/-
  No cell of these rows narrows 'for every input' (looked for: loops, veiled, ifaces, maps, wideKeys, modest, calm, conditions, laid).
  DERIVED. THE GIVEN ROWS OF THIS SEAT. 3 by the template 'for every input the law returns true; each argument reads behind the call as it read before'; 0 by the template 'total and deterministic' (their statements: YtjhgcajppicblaaTotals.lean).
  GIVEN WITH THE SEED: the statements are not yours to turn. If you find one false, say at which input.
  Laid BY PROGRAM, IN A SANDBOX (cutbox-rows.mjs): the forced cells as the released guide's own fill.sh prints them over the translation 2fe2909587d51360… (all of the seat's roots in one cut). By AI agents, Wed Nov 11 2026. No macro, syntax, notation, axiom, sorry.
-/
import Derived.Test.YtjhgcajppicblaaChecked
import GoSem.Claim
import GoSem.ClaimJoined
import GoSem.ClaimMapViews
import Derived.JoinedTies
import Derived.KernelRfl
namespace Go.Proofs.Ytjhgcajppicblaa
/- THE CELL 'sum', in the pinned program and in every row, IS THE sha256 OF THE DUMP (.gsa) THAT YtjhgcajppicblaaProg.lean LOADS. Nothing in Lean hashes anything: it is a label: what it is worth is what the hold of that sum in a sandbox is worth. -/
noncomputable def Try.pinned : Pinned := { name := "ytjhgcajppicblaa", sum := "2fe2909587d513607a07290b132e3eb8e3a29771b905dcce2241c69457b5de43", checked := Try.checked }
namespace Rows
def none {H : Type} : Left H := { results := [], args := [] }

/-- 'spindlelaw18.VlcExamples': WHATEVER THE INPUT: true; the input reads as it did. -/
def vlcExamplesSpec : ChangeSpec := { name := "vlcExamples", fn := fun _ => fun
  | [] => { results := [.lit (.bool true)], args := [] }
  | _ => none }
def vlcExamplesRow : OpenClaim := { program := "ytjhgcajppicblaa", sum := "2fe2909587d513607a07290b132e3eb8e3a29771b905dcce2241c69457b5de43", func := "spindle/spindlelaw18.VlcExamples", spec := "vlcExamples", unfollowed := true, recurses := true, apart := false }
def VlcExamplesSaid : Prop := vlcExamplesRow.holds Try.pinned (OpenSpec.ofChange vlcExamplesSpec)

/-- ITS FALSE NEIGHBOUR: 'it returns false'. Refute it at one input. -/
def vlcExamplesWrong : ChangeSpec := { name := "vlcExamples", fn := fun _ => fun
  | [] => { results := [.lit (.bool false)], args := [] }
  | _ => none }
def VlcExamplesWrongFalsely : Prop := vlcExamplesRow.holds Try.pinned (OpenSpec.ofChange vlcExamplesWrong)

/-- 'spindlelaw34.FitExamples': WHATEVER THE INPUT: true; the input reads as it did. -/
def fitExamplesSpec : ChangeSpec := { name := "fitExamples", fn := fun _ => fun
  | [] => { results := [.lit (.bool true)], args := [] }
  | _ => none }
def fitExamplesRow : OpenClaim := { program := "ytjhgcajppicblaa", sum := "2fe2909587d513607a07290b132e3eb8e3a29771b905dcce2241c69457b5de43", func := "spindle/spindlelaw34.FitExamples", spec := "fitExamples", unfollowed := true, recurses := true, apart := false }
def FitExamplesSaid : Prop := fitExamplesRow.holds Try.pinned (OpenSpec.ofChange fitExamplesSpec)

/-- ITS FALSE NEIGHBOUR: 'it returns false'. Refute it at one input. -/
def fitExamplesWrong : ChangeSpec := { name := "fitExamples", fn := fun _ => fun
  | [] => { results := [.lit (.bool false)], args := [] }
  | _ => none }
def FitExamplesWrongFalsely : Prop := fitExamplesRow.holds Try.pinned (OpenSpec.ofChange fitExamplesWrong)

/-- 'spindlelaw20.VblockExamples': WHATEVER THE INPUT: true; the input reads as it did. -/
def vblockExamplesSpec : ChangeSpec := { name := "vblockExamples", fn := fun _ => fun
  | [] => { results := [.lit (.bool true)], args := [] }
  | _ => none }
def vblockExamplesRow : OpenClaim := { program := "ytjhgcajppicblaa", sum := "2fe2909587d513607a07290b132e3eb8e3a29771b905dcce2241c69457b5de43", func := "spindle/spindlelaw20.VblockExamples", spec := "vblockExamples", unfollowed := true, recurses := true, apart := false }
def VblockExamplesSaid : Prop := vblockExamplesRow.holds Try.pinned (OpenSpec.ofChange vblockExamplesSpec)

/-- ITS FALSE NEIGHBOUR: 'it returns false'. Refute it at one input. -/
def vblockExamplesWrong : ChangeSpec := { name := "vblockExamples", fn := fun _ => fun
  | [] => { results := [.lit (.bool false)], args := [] }
  | _ => none }
def VblockExamplesWrongFalsely : Prop := vblockExamplesRow.holds Try.pinned (OpenSpec.ofChange vblockExamplesWrong)

/- THE SECOND FORM. 'bulk': how many values and letters a reading holds, each counted each time it is reached (what is shared counts as often as it is met; a slice's spare places count too). A statement '..UptoSaid' is the law's where the arguments, and the package variables that the reading takes, are together of bulk at most 1048576: NARROWER than '..Said'. Prove '..Said' where nothing that the law and all that it calls make is longer than what came in: it says more and counts as full. Else prove '..UptoSaid'. A law counts once. -/
mutual
def uptoBulk {H : Type} : DataW H → Nat
  | .lit (.string bytes) => bytes.length + 1
  | .lit _ => 1
  | .nil => 1
  | .ptr d => uptoBulk d + 1
  | .slice elems spare => uptoBulkAll elems + uptoBulkAll spare + 1
  | .agg parts => uptoBulkAll parts + 1
  | .iface _ d => uptoBulk d + 1
  | .map entries => uptoBulkEntries entries + 1
  | .held _ => 1
def uptoBulkAll {H : Type} : List (DataW H) → Nat
  | [] => 0
  | d :: r => uptoBulk d + uptoBulkAll r
def uptoBulkEntries {H : Type} : List (Lit × DataW H) → Nat
  | [] => 0
  | x :: r => uptoBulkEntry x + uptoBulkEntries r
def uptoBulkEntry {H : Type} : Lit × DataW H → Nat
  | (.string bytes, d) => bytes.length + uptoBulk d + 1
  | (_, d) => uptoBulk d + 1
 end
def uptoSmall : (H : Type) → List (DataW H) → Bool := fun _ ds => decide (uptoBulkAll ds ≤ 1048576)
def OpenSpec.upto (s : _root_.Go.ChangeSpec) : _root_.Go.OpenSpec := { _root_.Go.OpenSpec.ofChange s with cond := some uptoSmall }

/-- 'spindlelaw18.VlcExamples', WHERE WHAT IT READS IS OF BULK AT MOST 1048576: true; the input reads as it did. -/
def vlcExamplesUptoRow : OpenClaim := { program := "ytjhgcajppicblaa", sum := "2fe2909587d513607a07290b132e3eb8e3a29771b905dcce2241c69457b5de43", func := "spindle/spindlelaw18.VlcExamples", spec := "vlcExamples", unfollowed := true, recurses := true, apart := false, narrowed := true }
def VlcExamplesUptoSaid : Prop := vlcExamplesUptoRow.holds Try.pinned (OpenSpec.upto vlcExamplesSpec)

/-- 'spindlelaw34.FitExamples', WHERE WHAT IT READS IS OF BULK AT MOST 1048576: true; the input reads as it did. -/
def fitExamplesUptoRow : OpenClaim := { program := "ytjhgcajppicblaa", sum := "2fe2909587d513607a07290b132e3eb8e3a29771b905dcce2241c69457b5de43", func := "spindle/spindlelaw34.FitExamples", spec := "fitExamples", unfollowed := true, recurses := true, apart := false, narrowed := true }
def FitExamplesUptoSaid : Prop := fitExamplesUptoRow.holds Try.pinned (OpenSpec.upto fitExamplesSpec)

/-- 'spindlelaw20.VblockExamples', WHERE WHAT IT READS IS OF BULK AT MOST 1048576: true; the input reads as it did. -/
def vblockExamplesUptoRow : OpenClaim := { program := "ytjhgcajppicblaa", sum := "2fe2909587d513607a07290b132e3eb8e3a29771b905dcce2241c69457b5de43", func := "spindle/spindlelaw20.VblockExamples", spec := "vblockExamples", unfollowed := true, recurses := true, apart := false, narrowed := true }
def VblockExamplesUptoSaid : Prop := vblockExamplesUptoRow.holds Try.pinned (OpenSpec.upto vblockExamplesSpec)

end Rows
end Go.Proofs.Ytjhgcajppicblaa
