/-
  NARROWER THAN 'FOR EVERY INPUT', by the rows' own cells (each row's printed sentence says how): VmbExamples: laid · VsliceExamples: laid.
  DERIVED. THE GIVEN ROWS OF THIS SEAT. 2 by the template 'for every input the law returns true; each argument reads behind the call as it read before'; 0 by the template 'total and deterministic' (their statements: YtjhgcajppicblaaGreatDoorTotals.lean).
  GIVEN WITH THE SEED: the statements are not yours to turn. If you find one false, say at which input.
  Laid BY PROGRAM, IN A SANDBOX (cutbox-rows.mjs): the forced cells as the released guide's own fill.sh prints them over the translation 8fb06e480f8cfcfa… (all of the seat's roots in one cut). By AI agents, Wed Nov 11 2026. No macro, syntax, notation, axiom, sorry.
-/
import Derived.Test.YtjhgcajppicblaaGreatDoorChecked
import GoSem.Claim
import GoSem.ClaimJoined
import GoSem.ClaimMapViews
import Derived.JoinedTies
import Derived.KernelRfl
namespace Go.Proofs.YtjhgcajppicblaaGreatDoor
/- THE CELL 'sum', in the pinned program and in every row, IS THE sha256 OF THE DUMP (.gsa) THAT YtjhgcajppicblaaGreatDoorProg.lean LOADS. Nothing in Lean hashes anything: it is a label: what it is worth is what the hold of that sum in a sandbox is worth. -/
noncomputable def Tryz.pinned : Pinned := { name := "ytjhgcajppicblaagreatdoor", sum := "8fb06e480f8cfcfa8a83a997b6fc66076c42289fec41a6e1cbc7f5bb763321f0", checked := Tryz.checked }
namespace Rows
def none {H : Type} : Left H := { results := [], args := [] }

/- WHAT THE LISTED PACKAGE-LEVEL VARIABLES READ AS WHEN THE CALL BEGINS. Each datum BY PROGRAM (the guide's laid-datum.mjs) off the statement by which the dump's own 'gosem.cut.vars' lays the variable. In a bare row this is a premise. The card (YtjhgcajppicblaaGreatDoorCards.lean) ties it to the program's text. -/
def laid_spindle_kinds_quarters {H : Type} : DataW H := .agg [.slice [.agg [.lit (.int .i64 0), .lit (.int .i64 0), .lit (.int .i64 2), .lit (.int .i64 2), .lit (.int .i64 0)]] [], .slice [.agg [.lit (.int .i64 0), .lit (.int .i64 0), .lit (.int .i64 2), .lit (.int .i64 1), .lit (.int .i64 0)], .agg [.lit (.int .i64 0), .lit (.int .i64 1), .lit (.int .i64 2), .lit (.int .i64 1), .lit (.int .i64 0)]] [], .slice [.agg [.lit (.int .i64 0), .lit (.int .i64 0), .lit (.int .i64 1), .lit (.int .i64 2), .lit (.int .i64 0)], .agg [.lit (.int .i64 1), .lit (.int .i64 0), .lit (.int .i64 1), .lit (.int .i64 2), .lit (.int .i64 0)]] [], .slice [.agg [.lit (.int .i64 0), .lit (.int .i64 0), .lit (.int .i64 1), .lit (.int .i64 1), .lit (.int .i64 0)], .agg [.lit (.int .i64 1), .lit (.int .i64 0), .lit (.int .i64 1), .lit (.int .i64 1), .lit (.int .i64 0)], .agg [.lit (.int .i64 0), .lit (.int .i64 1), .lit (.int .i64 1), .lit (.int .i64 1), .lit (.int .i64 0)], .agg [.lit (.int .i64 1), .lit (.int .i64 1), .lit (.int .i64 1), .lit (.int .i64 1), .lit (.int .i64 0)]] []]
def laid_spindle_mb_sizes {H : Type} : DataW H := .agg [.lit (.int .i64 16), .lit (.int .i64 15), .lit (.int .i64 16), .lit (.int .i64 4), .lit (.int .i64 15)]

/-- 'spindlelaw21.VmbExamples': WHATEVER THE INPUT: true; the input reads as it did. -/
def vmbExamplesSpec : ChangeSpec := { name := "vmbExamples", fn := fun _ => fun
  | [] => { results := [.lit (.bool true)], args := [] }
  | _ => none }
def vmbExamplesRow : OpenClaim := { program := "ytjhgcajppicblaagreatdoor", sum := "8fb06e480f8cfcfa8a83a997b6fc66076c42289fec41a6e1cbc7f5bb763321f0", func := "spindle/spindlelaw21.VmbExamples", spec := "vmbExamples", unfollowed := true, recurses := true, named := ["spindle/kinds.quarters", "spindle/mb.sizes"], apart := false, laid := [("spindle/kinds.quarters", laid_spindle_kinds_quarters), ("spindle/mb.sizes", laid_spindle_mb_sizes)] }
def VmbExamplesSaid : Prop := vmbExamplesRow.holds Tryz.pinned (OpenSpec.ofChange vmbExamplesSpec)

/-- ITS FALSE NEIGHBOUR: 'it returns false'. Refute it at one input. -/
def vmbExamplesWrong : ChangeSpec := { name := "vmbExamples", fn := fun _ => fun
  | [] => { results := [.lit (.bool false)], args := [] }
  | _ => none }
def VmbExamplesWrongFalsely : Prop := vmbExamplesRow.holds Tryz.pinned (OpenSpec.ofChange vmbExamplesWrong)

/-- 'spindlelaw22.VsliceExamples': WHATEVER THE INPUT: true; the input reads as it did. -/
def vsliceExamplesSpec : ChangeSpec := { name := "vsliceExamples", fn := fun _ => fun
  | [] => { results := [.lit (.bool true)], args := [] }
  | _ => none }
def vsliceExamplesRow : OpenClaim := { program := "ytjhgcajppicblaagreatdoor", sum := "8fb06e480f8cfcfa8a83a997b6fc66076c42289fec41a6e1cbc7f5bb763321f0", func := "spindle/spindlelaw22.VsliceExamples", spec := "vsliceExamples", unfollowed := true, recurses := true, named := ["spindle/kinds.quarters", "spindle/mb.sizes"], apart := false, laid := [("spindle/kinds.quarters", laid_spindle_kinds_quarters), ("spindle/mb.sizes", laid_spindle_mb_sizes)] }
def VsliceExamplesSaid : Prop := vsliceExamplesRow.holds Tryz.pinned (OpenSpec.ofChange vsliceExamplesSpec)

/-- ITS FALSE NEIGHBOUR: 'it returns false'. Refute it at one input. -/
def vsliceExamplesWrong : ChangeSpec := { name := "vsliceExamples", fn := fun _ => fun
  | [] => { results := [.lit (.bool false)], args := [] }
  | _ => none }
def VsliceExamplesWrongFalsely : Prop := vsliceExamplesRow.holds Tryz.pinned (OpenSpec.ofChange vsliceExamplesWrong)

/- THE SECOND FORM. 'bulk': how many values and letters a reading holds, each counted each time it is reached (what is shared counts as often as it is met; a slice's spare places count too). A statement '..UptoSaid' is the law's where the arguments, and the package variables that the reading takes, are together of bulk at most 1048576: NARROWER than '..Said'. Prove '..Said' where nothing that the law and all that it calls make is longer than what came in: it says more and counts as full. Else prove '..UptoSaid'. A law counts once. -/
mutual
def uptoBulk {H : Type} : DataW H → Nat
  | .lit (.string bytes) => bytes.length + 1
  | .lit _ => 1
  | .nil => 1
  | .ptr d => uptoBulk d + 1
  | .slice elems spare => uptoBulkAll elems + uptoBulkAll spare + 1
  | .agg parts => uptoBulkAll parts + 1
  | .iface _ d => uptoBulk d + 1
  | .map entries => uptoBulkEntries entries + 1
  | .held _ => 1
def uptoBulkAll {H : Type} : List (DataW H) → Nat
  | [] => 0
  | d :: r => uptoBulk d + uptoBulkAll r
def uptoBulkEntries {H : Type} : List (Lit × DataW H) → Nat
  | [] => 0
  | x :: r => uptoBulkEntry x + uptoBulkEntries r
def uptoBulkEntry {H : Type} : Lit × DataW H → Nat
  | (.string bytes, d) => bytes.length + uptoBulk d + 1
  | (_, d) => uptoBulk d + 1
 end
def uptoSmall : (H : Type) → List (DataW H) → Bool := fun _ ds => decide (uptoBulkAll ds ≤ 1048576)
def OpenSpec.upto (s : _root_.Go.ChangeSpec) : _root_.Go.OpenSpec := { _root_.Go.OpenSpec.ofChange s with cond := some uptoSmall }

/-- 'spindlelaw21.VmbExamples', WHERE WHAT IT READS IS OF BULK AT MOST 1048576: true; the input reads as it did. -/
def vmbExamplesUptoRow : OpenClaim := { program := "ytjhgcajppicblaagreatdoor", sum := "8fb06e480f8cfcfa8a83a997b6fc66076c42289fec41a6e1cbc7f5bb763321f0", func := "spindle/spindlelaw21.VmbExamples", spec := "vmbExamples", unfollowed := true, recurses := true, named := ["spindle/kinds.quarters", "spindle/mb.sizes"], apart := false, laid := [("spindle/kinds.quarters", laid_spindle_kinds_quarters), ("spindle/mb.sizes", laid_spindle_mb_sizes)], narrowed := true }
def VmbExamplesUptoSaid : Prop := vmbExamplesUptoRow.holds Tryz.pinned (OpenSpec.upto vmbExamplesSpec)

/-- 'spindlelaw22.VsliceExamples', WHERE WHAT IT READS IS OF BULK AT MOST 1048576: true; the input reads as it did. -/
def vsliceExamplesUptoRow : OpenClaim := { program := "ytjhgcajppicblaagreatdoor", sum := "8fb06e480f8cfcfa8a83a997b6fc66076c42289fec41a6e1cbc7f5bb763321f0", func := "spindle/spindlelaw22.VsliceExamples", spec := "vsliceExamples", unfollowed := true, recurses := true, named := ["spindle/kinds.quarters", "spindle/mb.sizes"], apart := false, laid := [("spindle/kinds.quarters", laid_spindle_kinds_quarters), ("spindle/mb.sizes", laid_spindle_mb_sizes)], narrowed := true }
def VsliceExamplesUptoSaid : Prop := vsliceExamplesUptoRow.holds Tryz.pinned (OpenSpec.upto vsliceExamplesSpec)

end Rows
end Go.Proofs.YtjhgcajppicblaaGreatDoor
