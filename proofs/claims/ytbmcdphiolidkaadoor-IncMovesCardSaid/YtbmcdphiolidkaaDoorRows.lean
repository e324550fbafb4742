/-
  NARROWER THAN 'FOR EVERY INPUT', by the rows' own cells (each row's printed sentence says how): IncMoves: laid · IncSigns: laid · IncBlind: laid.
  DERIVED. THE GIVEN ROWS OF THIS SEAT. 3 by the template 'for every input the law returns true; each argument reads behind the call as it read before'; 0 by the template 'total and deterministic' (their statements: YtbmcdphiolidkaaDoorTotals.lean).
  GIVEN WITH THE SEED: the statements are not yours to turn. If you find one false, say at which input.
  Laid BY PROGRAM, IN A SANDBOX (cutbox-rows.mjs): the forced cells as the released guide's own fill.sh prints them over the translation 38fc0aa87c3df74c… (all of the seat's roots in one cut). By AI agents, Wed Nov 11 2026. No macro, syntax, notation, axiom, sorry.
-/
import Derived.Test.YtbmcdphiolidkaaDoorChecked
import GoSem.Claim
import GoSem.ClaimJoined
import GoSem.ClaimMapViews
import Derived.JoinedTies
import Derived.KernelRfl
namespace Go.Proofs.YtbmcdphiolidkaaDoor
/- THE CELL 'sum', in the pinned program and in every row, IS THE sha256 OF THE DUMP (.gsa) THAT YtbmcdphiolidkaaDoorProg.lean LOADS. Nothing in Lean hashes anything: it is a label: what it is worth is what the hold of that sum in a sandbox is worth. -/
noncomputable def Tryd.pinned : Pinned := { name := "ytbmcdphiolidkaadoor", sum := "38fc0aa87c3df74c77022ed0ee6a01d60510a84683ae12a3fca68236d92fa73e", checked := Tryd.checked }
namespace Rows
def none {H : Type} : Left H := { results := [], args := [] }

/- WHAT THE LISTED PACKAGE-LEVEL VARIABLES READ AS WHEN THE CALL BEGINS. Each datum BY PROGRAM (the guide's laid-datum.mjs) off the statement by which the dump's own 'gosem.cut.vars' lays the variable. In a bare row this is a premise. The card (YtbmcdphiolidkaaDoorCards.lean) ties it to the program's text. -/
def laid_spindle_kinds_quarters {H : Type} : DataW H := .agg [.slice [.agg [.lit (.int .i64 0), .lit (.int .i64 0), .lit (.int .i64 2), .lit (.int .i64 2), .lit (.int .i64 0)]] [], .slice [.agg [.lit (.int .i64 0), .lit (.int .i64 0), .lit (.int .i64 2), .lit (.int .i64 1), .lit (.int .i64 0)], .agg [.lit (.int .i64 0), .lit (.int .i64 1), .lit (.int .i64 2), .lit (.int .i64 1), .lit (.int .i64 0)]] [], .slice [.agg [.lit (.int .i64 0), .lit (.int .i64 0), .lit (.int .i64 1), .lit (.int .i64 2), .lit (.int .i64 0)], .agg [.lit (.int .i64 1), .lit (.int .i64 0), .lit (.int .i64 1), .lit (.int .i64 2), .lit (.int .i64 0)]] [], .slice [.agg [.lit (.int .i64 0), .lit (.int .i64 0), .lit (.int .i64 1), .lit (.int .i64 1), .lit (.int .i64 0)], .agg [.lit (.int .i64 1), .lit (.int .i64 0), .lit (.int .i64 1), .lit (.int .i64 1), .lit (.int .i64 0)], .agg [.lit (.int .i64 0), .lit (.int .i64 1), .lit (.int .i64 1), .lit (.int .i64 1), .lit (.int .i64 0)], .agg [.lit (.int .i64 1), .lit (.int .i64 1), .lit (.int .i64 1), .lit (.int .i64 1), .lit (.int .i64 0)]] []]

/-- 'spindlelaw16.IncMoves': WHATEVER THE INPUT: true; the input reads as it did. -/
def incMovesSpec : ChangeSpec := { name := "incMoves", fn := fun _ => fun
  | [d1, d2, d3, d4, d5, d6] => { results := [.lit (.bool true)], args := [d1, d2, d3, d4, d5, d6] }
  | _ => none }
def incMovesRow : OpenClaim := { program := "ytbmcdphiolidkaadoor", sum := "38fc0aa87c3df74c77022ed0ee6a01d60510a84683ae12a3fca68236d92fa73e", func := "spindle/spindlelaw16.IncMoves", spec := "incMoves", unfollowed := true, recurses := true, named := ["spindle/kinds.quarters"], apart := false, laid := [("spindle/kinds.quarters", laid_spindle_kinds_quarters)] }
def IncMovesSaid : Prop := incMovesRow.holds Tryd.pinned (OpenSpec.ofChange incMovesSpec)

/-- ITS FALSE NEIGHBOUR: 'it returns false'. Refute it at one input. -/
def incMovesWrong : ChangeSpec := { name := "incMoves", fn := fun _ => fun
  | [d1, d2, d3, d4, d5, d6] => { results := [.lit (.bool false)], args := [d1, d2, d3, d4, d5, d6] }
  | _ => none }
def IncMovesWrongFalsely : Prop := incMovesRow.holds Tryd.pinned (OpenSpec.ofChange incMovesWrong)

/-- 'spindlelaw16.IncSigns': WHATEVER THE INPUT: true; the input reads as it did. -/
def incSignsSpec : ChangeSpec := { name := "incSigns", fn := fun _ => fun
  | [d1, d2, d3, d4, d5] => { results := [.lit (.bool true)], args := [d1, d2, d3, d4, d5] }
  | _ => none }
def incSignsRow : OpenClaim := { program := "ytbmcdphiolidkaadoor", sum := "38fc0aa87c3df74c77022ed0ee6a01d60510a84683ae12a3fca68236d92fa73e", func := "spindle/spindlelaw16.IncSigns", spec := "incSigns", unfollowed := true, recurses := true, named := ["spindle/kinds.quarters"], apart := false, laid := [("spindle/kinds.quarters", laid_spindle_kinds_quarters)] }
def IncSignsSaid : Prop := incSignsRow.holds Tryd.pinned (OpenSpec.ofChange incSignsSpec)

/-- ITS FALSE NEIGHBOUR: 'it returns false'. Refute it at one input. -/
def incSignsWrong : ChangeSpec := { name := "incSigns", fn := fun _ => fun
  | [d1, d2, d3, d4, d5] => { results := [.lit (.bool false)], args := [d1, d2, d3, d4, d5] }
  | _ => none }
def IncSignsWrongFalsely : Prop := incSignsRow.holds Tryd.pinned (OpenSpec.ofChange incSignsWrong)

/-- 'spindlelaw16.IncBlind': WHATEVER THE INPUT: true; the input reads as it did. -/
def incBlindSpec : ChangeSpec := { name := "incBlind", fn := fun _ => fun
  | [d1, d2, d3, d4, d5, d6] => { results := [.lit (.bool true)], args := [d1, d2, d3, d4, d5, d6] }
  | _ => none }
def incBlindRow : OpenClaim := { program := "ytbmcdphiolidkaadoor", sum := "38fc0aa87c3df74c77022ed0ee6a01d60510a84683ae12a3fca68236d92fa73e", func := "spindle/spindlelaw16.IncBlind", spec := "incBlind", unfollowed := true, recurses := true, named := ["spindle/kinds.quarters"], apart := false, laid := [("spindle/kinds.quarters", laid_spindle_kinds_quarters)] }
def IncBlindSaid : Prop := incBlindRow.holds Tryd.pinned (OpenSpec.ofChange incBlindSpec)

/-- ITS FALSE NEIGHBOUR: 'it returns false'. Refute it at one input. -/
def incBlindWrong : ChangeSpec := { name := "incBlind", fn := fun _ => fun
  | [d1, d2, d3, d4, d5, d6] => { results := [.lit (.bool false)], args := [d1, d2, d3, d4, d5, d6] }
  | _ => none }
def IncBlindWrongFalsely : Prop := incBlindRow.holds Tryd.pinned (OpenSpec.ofChange incBlindWrong)

/- THE SECOND FORM. 'bulk': how many values and letters a reading holds, each counted each time it is reached (what is shared counts as often as it is met; a slice's spare places count too). A statement '..UptoSaid' is the law's where the arguments, and the package variables that the reading takes, are together of bulk at most 1048576: NARROWER than '..Said'. Prove '..Said' where nothing that the law and all that it calls make is longer than what came in: it says more and counts as full. Else prove '..UptoSaid'. A law counts once. -/
mutual
def uptoBulk {H : Type} : DataW H → Nat
  | .lit (.string bytes) => bytes.length + 1
  | .lit _ => 1
  | .nil => 1
  | .ptr d => uptoBulk d + 1
  | .slice elems spare => uptoBulkAll elems + uptoBulkAll spare + 1
  | .agg parts => uptoBulkAll parts + 1
  | .iface _ d => uptoBulk d + 1
  | .map entries => uptoBulkEntries entries + 1
  | .held _ => 1
def uptoBulkAll {H : Type} : List (DataW H) → Nat
  | [] => 0
  | d :: r => uptoBulk d + uptoBulkAll r
def uptoBulkEntries {H : Type} : List (Lit × DataW H) → Nat
  | [] => 0
  | x :: r => uptoBulkEntry x + uptoBulkEntries r
def uptoBulkEntry {H : Type} : Lit × DataW H → Nat
  | (.string bytes, d) => bytes.length + uptoBulk d + 1
  | (_, d) => uptoBulk d + 1
 end
def uptoSmall : (H : Type) → List (DataW H) → Bool := fun _ ds => decide (uptoBulkAll ds ≤ 1048576)
def OpenSpec.upto (s : _root_.Go.ChangeSpec) : _root_.Go.OpenSpec := { _root_.Go.OpenSpec.ofChange s with cond := some uptoSmall }

/-- 'spindlelaw16.IncMoves', WHERE WHAT IT READS IS OF BULK AT MOST 1048576: true; the input reads as it did. -/
def incMovesUptoRow : OpenClaim := { program := "ytbmcdphiolidkaadoor", sum := "38fc0aa87c3df74c77022ed0ee6a01d60510a84683ae12a3fca68236d92fa73e", func := "spindle/spindlelaw16.IncMoves", spec := "incMoves", unfollowed := true, recurses := true, named := ["spindle/kinds.quarters"], apart := false, laid := [("spindle/kinds.quarters", laid_spindle_kinds_quarters)], narrowed := true }
def IncMovesUptoSaid : Prop := incMovesUptoRow.holds Tryd.pinned (OpenSpec.upto incMovesSpec)

/-- 'spindlelaw16.IncSigns', WHERE WHAT IT READS IS OF BULK AT MOST 1048576: true; the input reads as it did. -/
def incSignsUptoRow : OpenClaim := { program := "ytbmcdphiolidkaadoor", sum := "38fc0aa87c3df74c77022ed0ee6a01d60510a84683ae12a3fca68236d92fa73e", func := "spindle/spindlelaw16.IncSigns", spec := "incSigns", unfollowed := true, recurses := true, named := ["spindle/kinds.quarters"], apart := false, laid := [("spindle/kinds.quarters", laid_spindle_kinds_quarters)], narrowed := true }
def IncSignsUptoSaid : Prop := incSignsUptoRow.holds Tryd.pinned (OpenSpec.upto incSignsSpec)

/-- 'spindlelaw16.IncBlind', WHERE WHAT IT READS IS OF BULK AT MOST 1048576: true; the input reads as it did. -/
def incBlindUptoRow : OpenClaim := { program := "ytbmcdphiolidkaadoor", sum := "38fc0aa87c3df74c77022ed0ee6a01d60510a84683ae12a3fca68236d92fa73e", func := "spindle/spindlelaw16.IncBlind", spec := "incBlind", unfollowed := true, recurses := true, named := ["spindle/kinds.quarters"], apart := false, laid := [("spindle/kinds.quarters", laid_spindle_kinds_quarters)], narrowed := true }
def IncBlindUptoSaid : Prop := incBlindUptoRow.holds Tryd.pinned (OpenSpec.upto incBlindSpec)

end Rows
end Go.Proofs.YtbmcdphiolidkaaDoor
