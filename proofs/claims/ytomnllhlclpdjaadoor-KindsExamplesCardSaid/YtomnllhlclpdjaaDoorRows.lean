/-
  NARROWER THAN 'FOR EVERY INPUT', by the rows' own cells (each row's printed sentence says how): KindsTypes: laid · KindsParts: laid · KindsExamples: laid · KindsBack: laid · KindsCovers: laid · KindsRects: laid.
  DERIVED. THE GIVEN ROWS OF THIS SEAT. 6 by the template 'for every input the law returns true; each argument reads behind the call as it read before'; 0 by the template 'total and deterministic' (their statements: YtomnllhlclpdjaaDoorTotals.lean).
  GIVEN WITH THE SEED: the statements are not yours to turn. If you find one false, say at which input.
  Laid BY PROGRAM, IN A SANDBOX (cutbox-rows.mjs): the forced cells as the released guide's own fill.sh prints them over the translation 108219dc2e589959… (all of the seat's roots in one cut). By AI agents, Wed Nov 11 2026. No macro, syntax, notation, axiom, sorry.
-/
import Derived.Test.YtomnllhlclpdjaaDoorChecked
import GoSem.Claim
import GoSem.ClaimJoined
import GoSem.ClaimMapViews
import Derived.JoinedTies
import Derived.KernelRfl
namespace Go.Proofs.YtomnllhlclpdjaaDoor
/- THE CELL 'sum', in the pinned program and in every row, IS THE sha256 OF THE DUMP (.gsa) THAT YtomnllhlclpdjaaDoorProg.lean LOADS. Nothing in Lean hashes anything: it is a label: what it is worth is what the hold of that sum in a sandbox is worth. -/
noncomputable def Tryd.pinned : Pinned := { name := "ytomnllhlclpdjaadoor", sum := "108219dc2e58995903827e777b6867680774f808296ac3943664cb4eeb3cfcb7", checked := Tryd.checked }
namespace Rows
def none {H : Type} : Left H := { results := [], args := [] }

/- WHAT THE LISTED PACKAGE-LEVEL VARIABLES READ AS WHEN THE CALL BEGINS. Each datum BY PROGRAM (the guide's laid-datum.mjs) off the statement by which the dump's own 'gosem.cut.vars' lays the variable. In a bare row this is a premise. The card (YtomnllhlclpdjaaDoorCards.lean) ties it to the program's text. -/
def laid_spindle_kinds_quarters {H : Type} : DataW H := .agg [.slice [.agg [.lit (.int .i64 0), .lit (.int .i64 0), .lit (.int .i64 2), .lit (.int .i64 2), .lit (.int .i64 0)]] [], .slice [.agg [.lit (.int .i64 0), .lit (.int .i64 0), .lit (.int .i64 2), .lit (.int .i64 1), .lit (.int .i64 0)], .agg [.lit (.int .i64 0), .lit (.int .i64 1), .lit (.int .i64 2), .lit (.int .i64 1), .lit (.int .i64 0)]] [], .slice [.agg [.lit (.int .i64 0), .lit (.int .i64 0), .lit (.int .i64 1), .lit (.int .i64 2), .lit (.int .i64 0)], .agg [.lit (.int .i64 1), .lit (.int .i64 0), .lit (.int .i64 1), .lit (.int .i64 2), .lit (.int .i64 0)]] [], .slice [.agg [.lit (.int .i64 0), .lit (.int .i64 0), .lit (.int .i64 1), .lit (.int .i64 1), .lit (.int .i64 0)], .agg [.lit (.int .i64 1), .lit (.int .i64 0), .lit (.int .i64 1), .lit (.int .i64 1), .lit (.int .i64 0)], .agg [.lit (.int .i64 0), .lit (.int .i64 1), .lit (.int .i64 1), .lit (.int .i64 1), .lit (.int .i64 0)], .agg [.lit (.int .i64 1), .lit (.int .i64 1), .lit (.int .i64 1), .lit (.int .i64 1), .lit (.int .i64 0)]] []]

/-- 'spindlelaw12.KindsTypes': WHATEVER THE INPUT: true; the input reads as it did. -/
def kindsTypesSpec : ChangeSpec := { name := "kindsTypes", fn := fun _ => fun
  | [d1, d2, d3, d4, d5] => { results := [.lit (.bool true)], args := [d1, d2, d3, d4, d5] }
  | _ => none }
def kindsTypesRow : OpenClaim := { program := "ytomnllhlclpdjaadoor", sum := "108219dc2e58995903827e777b6867680774f808296ac3943664cb4eeb3cfcb7", func := "spindle/spindlelaw12.KindsTypes", spec := "kindsTypes", recurses := true, named := ["spindle/kinds.quarters"], apart := false, laid := [("spindle/kinds.quarters", laid_spindle_kinds_quarters)] }
def KindsTypesSaid : Prop := kindsTypesRow.holds Tryd.pinned (OpenSpec.ofChange kindsTypesSpec)

/-- ITS FALSE NEIGHBOUR: 'it returns false'. Refute it at one input. -/
def kindsTypesWrong : ChangeSpec := { name := "kindsTypes", fn := fun _ => fun
  | [d1, d2, d3, d4, d5] => { results := [.lit (.bool false)], args := [d1, d2, d3, d4, d5] }
  | _ => none }
def KindsTypesWrongFalsely : Prop := kindsTypesRow.holds Tryd.pinned (OpenSpec.ofChange kindsTypesWrong)

/-- 'spindlelaw12.KindsParts': WHATEVER THE INPUT: true; the input reads as it did. -/
def kindsPartsSpec : ChangeSpec := { name := "kindsParts", fn := fun _ => fun
  | [d1, d2, d3] => { results := [.lit (.bool true)], args := [d1, d2, d3] }
  | _ => none }
def kindsPartsRow : OpenClaim := { program := "ytomnllhlclpdjaadoor", sum := "108219dc2e58995903827e777b6867680774f808296ac3943664cb4eeb3cfcb7", func := "spindle/spindlelaw12.KindsParts", spec := "kindsParts", recurses := true, named := ["spindle/kinds.quarters"], apart := false, laid := [("spindle/kinds.quarters", laid_spindle_kinds_quarters)] }
def KindsPartsSaid : Prop := kindsPartsRow.holds Tryd.pinned (OpenSpec.ofChange kindsPartsSpec)

/-- ITS FALSE NEIGHBOUR: 'it returns false'. Refute it at one input. -/
def kindsPartsWrong : ChangeSpec := { name := "kindsParts", fn := fun _ => fun
  | [d1, d2, d3] => { results := [.lit (.bool false)], args := [d1, d2, d3] }
  | _ => none }
def KindsPartsWrongFalsely : Prop := kindsPartsRow.holds Tryd.pinned (OpenSpec.ofChange kindsPartsWrong)

/-- 'spindlelaw12.KindsExamples': WHATEVER THE INPUT: true; the input reads as it did. -/
def kindsExamplesSpec : ChangeSpec := { name := "kindsExamples", fn := fun _ => fun
  | [] => { results := [.lit (.bool true)], args := [] }
  | _ => none }
def kindsExamplesRow : OpenClaim := { program := "ytomnllhlclpdjaadoor", sum := "108219dc2e58995903827e777b6867680774f808296ac3943664cb4eeb3cfcb7", func := "spindle/spindlelaw12.KindsExamples", spec := "kindsExamples", recurses := true, named := ["spindle/kinds.quarters"], apart := false, laid := [("spindle/kinds.quarters", laid_spindle_kinds_quarters)] }
def KindsExamplesSaid : Prop := kindsExamplesRow.holds Tryd.pinned (OpenSpec.ofChange kindsExamplesSpec)

/-- ITS FALSE NEIGHBOUR: 'it returns false'. Refute it at one input. -/
def kindsExamplesWrong : ChangeSpec := { name := "kindsExamples", fn := fun _ => fun
  | [] => { results := [.lit (.bool false)], args := [] }
  | _ => none }
def KindsExamplesWrongFalsely : Prop := kindsExamplesRow.holds Tryd.pinned (OpenSpec.ofChange kindsExamplesWrong)

/-- 'spindlelaw12.KindsBack': WHATEVER THE INPUT: true; the input reads as it did. -/
def kindsBackSpec : ChangeSpec := { name := "kindsBack", fn := fun _ => fun
  | [d1, d2, d3, d4, d5] => { results := [.lit (.bool true)], args := [d1, d2, d3, d4, d5] }
  | _ => none }
def kindsBackRow : OpenClaim := { program := "ytomnllhlclpdjaadoor", sum := "108219dc2e58995903827e777b6867680774f808296ac3943664cb4eeb3cfcb7", func := "spindle/spindlelaw12.KindsBack", spec := "kindsBack", recurses := true, named := ["spindle/kinds.quarters"], apart := false, laid := [("spindle/kinds.quarters", laid_spindle_kinds_quarters)] }
def KindsBackSaid : Prop := kindsBackRow.holds Tryd.pinned (OpenSpec.ofChange kindsBackSpec)

/-- ITS FALSE NEIGHBOUR: 'it returns false'. Refute it at one input. -/
def kindsBackWrong : ChangeSpec := { name := "kindsBack", fn := fun _ => fun
  | [d1, d2, d3, d4, d5] => { results := [.lit (.bool false)], args := [d1, d2, d3, d4, d5] }
  | _ => none }
def KindsBackWrongFalsely : Prop := kindsBackRow.holds Tryd.pinned (OpenSpec.ofChange kindsBackWrong)

/-- 'spindlelaw12.KindsCovers': WHATEVER THE INPUT: true; the input reads as it did. -/
def kindsCoversSpec : ChangeSpec := { name := "kindsCovers", fn := fun _ => fun
  | [d1, d2] => { results := [.lit (.bool true)], args := [d1, d2] }
  | _ => none }
def kindsCoversRow : OpenClaim := { program := "ytomnllhlclpdjaadoor", sum := "108219dc2e58995903827e777b6867680774f808296ac3943664cb4eeb3cfcb7", func := "spindle/spindlelaw12.KindsCovers", spec := "kindsCovers", recurses := true, named := ["spindle/kinds.quarters"], apart := false, laid := [("spindle/kinds.quarters", laid_spindle_kinds_quarters)] }
def KindsCoversSaid : Prop := kindsCoversRow.holds Tryd.pinned (OpenSpec.ofChange kindsCoversSpec)

/-- ITS FALSE NEIGHBOUR: 'it returns false'. Refute it at one input. -/
def kindsCoversWrong : ChangeSpec := { name := "kindsCovers", fn := fun _ => fun
  | [d1, d2] => { results := [.lit (.bool false)], args := [d1, d2] }
  | _ => none }
def KindsCoversWrongFalsely : Prop := kindsCoversRow.holds Tryd.pinned (OpenSpec.ofChange kindsCoversWrong)

/-- 'spindlelaw12.KindsRects': WHATEVER THE INPUT: true; the input reads as it did. -/
def kindsRectsSpec : ChangeSpec := { name := "kindsRects", fn := fun _ => fun
  | [d1, d2, d3] => { results := [.lit (.bool true)], args := [d1, d2, d3] }
  | _ => none }
def kindsRectsRow : OpenClaim := { program := "ytomnllhlclpdjaadoor", sum := "108219dc2e58995903827e777b6867680774f808296ac3943664cb4eeb3cfcb7", func := "spindle/spindlelaw12.KindsRects", spec := "kindsRects", recurses := true, named := ["spindle/kinds.quarters"], apart := false, laid := [("spindle/kinds.quarters", laid_spindle_kinds_quarters)] }
def KindsRectsSaid : Prop := kindsRectsRow.holds Tryd.pinned (OpenSpec.ofChange kindsRectsSpec)

/-- ITS FALSE NEIGHBOUR: 'it returns false'. Refute it at one input. -/
def kindsRectsWrong : ChangeSpec := { name := "kindsRects", fn := fun _ => fun
  | [d1, d2, d3] => { results := [.lit (.bool false)], args := [d1, d2, d3] }
  | _ => none }
def KindsRectsWrongFalsely : Prop := kindsRectsRow.holds Tryd.pinned (OpenSpec.ofChange kindsRectsWrong)

/- THE SECOND FORM. 'bulk': how many values and letters a reading holds, each counted each time it is reached (what is shared counts as often as it is met; a slice's spare places count too). A statement '..UptoSaid' is the law's where the arguments, and the package variables that the reading takes, are together of bulk at most 1048576: NARROWER than '..Said'. Prove '..Said' where nothing that the law and all that it calls make is longer than what came in: it says more and counts as full. Else prove '..UptoSaid'. A law counts once. -/
mutual
def uptoBulk {H : Type} : DataW H → Nat
  | .lit (.string bytes) => bytes.length + 1
  | .lit _ => 1
  | .nil => 1
  | .ptr d => uptoBulk d + 1
  | .slice elems spare => uptoBulkAll elems + uptoBulkAll spare + 1
  | .agg parts => uptoBulkAll parts + 1
  | .iface _ d => uptoBulk d + 1
  | .map entries => uptoBulkEntries entries + 1
  | .held _ => 1
def uptoBulkAll {H : Type} : List (DataW H) → Nat
  | [] => 0
  | d :: r => uptoBulk d + uptoBulkAll r
def uptoBulkEntries {H : Type} : List (Lit × DataW H) → Nat
  | [] => 0
  | x :: r => uptoBulkEntry x + uptoBulkEntries r
def uptoBulkEntry {H : Type} : Lit × DataW H → Nat
  | (.string bytes, d) => bytes.length + uptoBulk d + 1
  | (_, d) => uptoBulk d + 1
 end
def uptoSmall : (H : Type) → List (DataW H) → Bool := fun _ ds => decide (uptoBulkAll ds ≤ 1048576)
def OpenSpec.upto (s : _root_.Go.ChangeSpec) : _root_.Go.OpenSpec := { _root_.Go.OpenSpec.ofChange s with cond := some uptoSmall }

/-- 'spindlelaw12.KindsTypes', WHERE WHAT IT READS IS OF BULK AT MOST 1048576: true; the input reads as it did. -/
def kindsTypesUptoRow : OpenClaim := { program := "ytomnllhlclpdjaadoor", sum := "108219dc2e58995903827e777b6867680774f808296ac3943664cb4eeb3cfcb7", func := "spindle/spindlelaw12.KindsTypes", spec := "kindsTypes", recurses := true, named := ["spindle/kinds.quarters"], apart := false, laid := [("spindle/kinds.quarters", laid_spindle_kinds_quarters)], narrowed := true }
def KindsTypesUptoSaid : Prop := kindsTypesUptoRow.holds Tryd.pinned (OpenSpec.upto kindsTypesSpec)

/-- 'spindlelaw12.KindsParts', WHERE WHAT IT READS IS OF BULK AT MOST 1048576: true; the input reads as it did. -/
def kindsPartsUptoRow : OpenClaim := { program := "ytomnllhlclpdjaadoor", sum := "108219dc2e58995903827e777b6867680774f808296ac3943664cb4eeb3cfcb7", func := "spindle/spindlelaw12.KindsParts", spec := "kindsParts", recurses := true, named := ["spindle/kinds.quarters"], apart := false, laid := [("spindle/kinds.quarters", laid_spindle_kinds_quarters)], narrowed := true }
def KindsPartsUptoSaid : Prop := kindsPartsUptoRow.holds Tryd.pinned (OpenSpec.upto kindsPartsSpec)

/-- 'spindlelaw12.KindsExamples', WHERE WHAT IT READS IS OF BULK AT MOST 1048576: true; the input reads as it did. -/
def kindsExamplesUptoRow : OpenClaim := { program := "ytomnllhlclpdjaadoor", sum := "108219dc2e58995903827e777b6867680774f808296ac3943664cb4eeb3cfcb7", func := "spindle/spindlelaw12.KindsExamples", spec := "kindsExamples", recurses := true, named := ["spindle/kinds.quarters"], apart := false, laid := [("spindle/kinds.quarters", laid_spindle_kinds_quarters)], narrowed := true }
def KindsExamplesUptoSaid : Prop := kindsExamplesUptoRow.holds Tryd.pinned (OpenSpec.upto kindsExamplesSpec)

/-- 'spindlelaw12.KindsBack', WHERE WHAT IT READS IS OF BULK AT MOST 1048576: true; the input reads as it did. -/
def kindsBackUptoRow : OpenClaim := { program := "ytomnllhlclpdjaadoor", sum := "108219dc2e58995903827e777b6867680774f808296ac3943664cb4eeb3cfcb7", func := "spindle/spindlelaw12.KindsBack", spec := "kindsBack", recurses := true, named := ["spindle/kinds.quarters"], apart := false, laid := [("spindle/kinds.quarters", laid_spindle_kinds_quarters)], narrowed := true }
def KindsBackUptoSaid : Prop := kindsBackUptoRow.holds Tryd.pinned (OpenSpec.upto kindsBackSpec)

/-- 'spindlelaw12.KindsCovers', WHERE WHAT IT READS IS OF BULK AT MOST 1048576: true; the input reads as it did. -/
def kindsCoversUptoRow : OpenClaim := { program := "ytomnllhlclpdjaadoor", sum := "108219dc2e58995903827e777b6867680774f808296ac3943664cb4eeb3cfcb7", func := "spindle/spindlelaw12.KindsCovers", spec := "kindsCovers", recurses := true, named := ["spindle/kinds.quarters"], apart := false, laid := [("spindle/kinds.quarters", laid_spindle_kinds_quarters)], narrowed := true }
def KindsCoversUptoSaid : Prop := kindsCoversUptoRow.holds Tryd.pinned (OpenSpec.upto kindsCoversSpec)

/-- 'spindlelaw12.KindsRects', WHERE WHAT IT READS IS OF BULK AT MOST 1048576: true; the input reads as it did. -/
def kindsRectsUptoRow : OpenClaim := { program := "ytomnllhlclpdjaadoor", sum := "108219dc2e58995903827e777b6867680774f808296ac3943664cb4eeb3cfcb7", func := "spindle/spindlelaw12.KindsRects", spec := "kindsRects", recurses := true, named := ["spindle/kinds.quarters"], apart := false, laid := [("spindle/kinds.quarters", laid_spindle_kinds_quarters)], narrowed := true }
def KindsRectsUptoSaid : Prop := kindsRectsUptoRow.holds Tryd.pinned (OpenSpec.upto kindsRectsSpec)

end Rows
end Go.Proofs.YtomnllhlclpdjaaDoor
