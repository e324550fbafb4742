/-
  NARROWER THAN 'FOR EVERY INPUT', by the rows' own cells (each row's printed sentence says how): KindsExamples: laid · IncExamples: laid.
  DERIVED. THE GIVEN ROWS OF THIS SEAT. 2 by the template 'for every input the law returns true; each argument reads behind the call as it read before'; 0 by the template 'total and deterministic' (their statements: YtjhgcajppicblaaDoorTotals.lean).
  GIVEN WITH THE SEED: the statements are not yours to turn. If you find one false, say at which input.
  Laid BY PROGRAM, IN A SANDBOX (cutbox-rows.mjs): the forced cells as the released guide's own fill.sh prints them over the translation 3bcf99569bafe6e3… (all of the seat's roots in one cut). By AI agents, Wed Nov 11 2026. No macro, syntax, notation, axiom, sorry.
-/
import Derived.Test.YtjhgcajppicblaaDoorChecked
import GoSem.Claim
import GoSem.ClaimJoined
import GoSem.ClaimMapViews
import Derived.JoinedTies
import Derived.KernelRfl
namespace Go.Proofs.YtjhgcajppicblaaDoor
/- THE CELL 'sum', in the pinned program and in every row, IS THE sha256 OF THE DUMP (.gsa) THAT YtjhgcajppicblaaDoorProg.lean LOADS. Nothing in Lean hashes anything: it is a label: what it is worth is what the hold of that sum in a sandbox is worth. -/
noncomputable def Tryd.pinned : Pinned := { name := "ytjhgcajppicblaadoor", sum := "3bcf99569bafe6e3f62aa8149a0d853a9d121dd7af391fb1ee4cc83254fba9fb", checked := Tryd.checked }
namespace Rows
def none {H : Type} : Left H := { results := [], args := [] }

/- WHAT THE LISTED PACKAGE-LEVEL VARIABLES READ AS WHEN THE CALL BEGINS. Each datum BY PROGRAM (the guide's laid-datum.mjs) off the statement by which the dump's own 'gosem.cut.vars' lays the variable. In a bare row this is a premise. The card (YtjhgcajppicblaaDoorCards.lean) ties it to the program's text. -/
def laid_spindle_kinds_quarters {H : Type} : DataW H := .agg [.slice [.agg [.lit (.int .i64 0), .lit (.int .i64 0), .lit (.int .i64 2), .lit (.int .i64 2), .lit (.int .i64 0)]] [], .slice [.agg [.lit (.int .i64 0), .lit (.int .i64 0), .lit (.int .i64 2), .lit (.int .i64 1), .lit (.int .i64 0)], .agg [.lit (.int .i64 0), .lit (.int .i64 1), .lit (.int .i64 2), .lit (.int .i64 1), .lit (.int .i64 0)]] [], .slice [.agg [.lit (.int .i64 0), .lit (.int .i64 0), .lit (.int .i64 1), .lit (.int .i64 2), .lit (.int .i64 0)], .agg [.lit (.int .i64 1), .lit (.int .i64 0), .lit (.int .i64 1), .lit (.int .i64 2), .lit (.int .i64 0)]] [], .slice [.agg [.lit (.int .i64 0), .lit (.int .i64 0), .lit (.int .i64 1), .lit (.int .i64 1), .lit (.int .i64 0)], .agg [.lit (.int .i64 1), .lit (.int .i64 0), .lit (.int .i64 1), .lit (.int .i64 1), .lit (.int .i64 0)], .agg [.lit (.int .i64 0), .lit (.int .i64 1), .lit (.int .i64 1), .lit (.int .i64 1), .lit (.int .i64 0)], .agg [.lit (.int .i64 1), .lit (.int .i64 1), .lit (.int .i64 1), .lit (.int .i64 1), .lit (.int .i64 0)]] []]

/-- 'spindlelaw12.KindsExamples': WHATEVER THE INPUT: true; the input reads as it did. -/
def kindsExamplesSpec : ChangeSpec := { name := "kindsExamples", fn := fun _ => fun
  | [] => { results := [.lit (.bool true)], args := [] }
  | _ => none }
def kindsExamplesRow : OpenClaim := { program := "ytjhgcajppicblaadoor", sum := "3bcf99569bafe6e3f62aa8149a0d853a9d121dd7af391fb1ee4cc83254fba9fb", func := "spindle/spindlelaw12.KindsExamples", spec := "kindsExamples", recurses := true, named := ["spindle/kinds.quarters"], apart := false, laid := [("spindle/kinds.quarters", laid_spindle_kinds_quarters)] }
def KindsExamplesSaid : Prop := kindsExamplesRow.holds Tryd.pinned (OpenSpec.ofChange kindsExamplesSpec)

/-- ITS FALSE NEIGHBOUR: 'it returns false'. Refute it at one input. -/
def kindsExamplesWrong : ChangeSpec := { name := "kindsExamples", fn := fun _ => fun
  | [] => { results := [.lit (.bool false)], args := [] }
  | _ => none }
def KindsExamplesWrongFalsely : Prop := kindsExamplesRow.holds Tryd.pinned (OpenSpec.ofChange kindsExamplesWrong)

/-- 'spindlelaw16.IncExamples': WHATEVER THE INPUT: true; the input reads as it did. -/
def incExamplesSpec : ChangeSpec := { name := "incExamples", fn := fun _ => fun
  | [] => { results := [.lit (.bool true)], args := [] }
  | _ => none }
def incExamplesRow : OpenClaim := { program := "ytjhgcajppicblaadoor", sum := "3bcf99569bafe6e3f62aa8149a0d853a9d121dd7af391fb1ee4cc83254fba9fb", func := "spindle/spindlelaw16.IncExamples", spec := "incExamples", unfollowed := true, recurses := true, named := ["spindle/kinds.quarters"], apart := false, laid := [("spindle/kinds.quarters", laid_spindle_kinds_quarters)] }
def IncExamplesSaid : Prop := incExamplesRow.holds Tryd.pinned (OpenSpec.ofChange incExamplesSpec)

/-- ITS FALSE NEIGHBOUR: 'it returns false'. Refute it at one input. -/
def incExamplesWrong : ChangeSpec := { name := "incExamples", fn := fun _ => fun
  | [] => { results := [.lit (.bool false)], args := [] }
  | _ => none }
def IncExamplesWrongFalsely : Prop := incExamplesRow.holds Tryd.pinned (OpenSpec.ofChange incExamplesWrong)

/- THE SECOND FORM. 'bulk': how many values and letters a reading holds, each counted each time it is reached (what is shared counts as often as it is met; a slice's spare places count too). A statement '..UptoSaid' is the law's where the arguments, and the package variables that the reading takes, are together of bulk at most 1048576: NARROWER than '..Said'. Prove '..Said' where nothing that the law and all that it calls make is longer than what came in: it says more and counts as full. Else prove '..UptoSaid'. A law counts once. -/
mutual
def uptoBulk {H : Type} : DataW H → Nat
  | .lit (.string bytes) => bytes.length + 1
  | .lit _ => 1
  | .nil => 1
  | .ptr d => uptoBulk d + 1
  | .slice elems spare => uptoBulkAll elems + uptoBulkAll spare + 1
  | .agg parts => uptoBulkAll parts + 1
  | .iface _ d => uptoBulk d + 1
  | .map entries => uptoBulkEntries entries + 1
  | .held _ => 1
def uptoBulkAll {H : Type} : List (DataW H) → Nat
  | [] => 0
  | d :: r => uptoBulk d + uptoBulkAll r
def uptoBulkEntries {H : Type} : List (Lit × DataW H) → Nat
  | [] => 0
  | x :: r => uptoBulkEntry x + uptoBulkEntries r
def uptoBulkEntry {H : Type} : Lit × DataW H → Nat
  | (.string bytes, d) => bytes.length + uptoBulk d + 1
  | (_, d) => uptoBulk d + 1
 end
def uptoSmall : (H : Type) → List (DataW H) → Bool := fun _ ds => decide (uptoBulkAll ds ≤ 1048576)
def OpenSpec.upto (s : _root_.Go.ChangeSpec) : _root_.Go.OpenSpec := { _root_.Go.OpenSpec.ofChange s with cond := some uptoSmall }

/-- 'spindlelaw12.KindsExamples', WHERE WHAT IT READS IS OF BULK AT MOST 1048576: true; the input reads as it did. -/
def kindsExamplesUptoRow : OpenClaim := { program := "ytjhgcajppicblaadoor", sum := "3bcf99569bafe6e3f62aa8149a0d853a9d121dd7af391fb1ee4cc83254fba9fb", func := "spindle/spindlelaw12.KindsExamples", spec := "kindsExamples", recurses := true, named := ["spindle/kinds.quarters"], apart := false, laid := [("spindle/kinds.quarters", laid_spindle_kinds_quarters)], narrowed := true }
def KindsExamplesUptoSaid : Prop := kindsExamplesUptoRow.holds Tryd.pinned (OpenSpec.upto kindsExamplesSpec)

/-- 'spindlelaw16.IncExamples', WHERE WHAT IT READS IS OF BULK AT MOST 1048576: true; the input reads as it did. -/
def incExamplesUptoRow : OpenClaim := { program := "ytjhgcajppicblaadoor", sum := "3bcf99569bafe6e3f62aa8149a0d853a9d121dd7af391fb1ee4cc83254fba9fb", func := "spindle/spindlelaw16.IncExamples", spec := "incExamples", unfollowed := true, recurses := true, named := ["spindle/kinds.quarters"], apart := false, laid := [("spindle/kinds.quarters", laid_spindle_kinds_quarters)], narrowed := true }
def IncExamplesUptoSaid : Prop := incExamplesUptoRow.holds Tryd.pinned (OpenSpec.upto incExamplesSpec)

end Rows
end Go.Proofs.YtjhgcajppicblaaDoor
