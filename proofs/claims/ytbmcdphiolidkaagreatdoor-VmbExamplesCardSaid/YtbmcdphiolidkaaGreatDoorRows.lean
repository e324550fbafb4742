/-
  NARROWER THAN 'FOR EVERY INPUT', by the rows' own cells (each row's printed sentence says how): VsliceOne: laid · VsliceShorter: laid · VmbExamples: laid · VmbReads: laid · VmbWrites: laid · VmbBack: laid · VmbAgain: laid · VmbApart: laid · VmbPlaces: laid · VmbPcm: laid · VsliceReads: laid · VsliceBack: laid · VsliceWrites: laid · VsliceAgain: laid · VsliceSkips: laid.
  DERIVED. THE GIVEN ROWS OF THIS SEAT. 15 by the template 'for every input the law returns true; each argument reads behind the call as it read before'; 0 by the template 'total and deterministic' (their statements: YtbmcdphiolidkaaGreatDoorTotals.lean).
  GIVEN WITH THE SEED: the statements are not yours to turn. If you find one false, say at which input.
  Laid BY PROGRAM, IN A SANDBOX (cutbox-rows.mjs): the forced cells as the released guide's own fill.sh prints them over the translation 687fa30f8577059d… (all of the seat's roots in one cut). By AI agents, Wed Nov 11 2026. No macro, syntax, notation, axiom, sorry.
-/
import Derived.Test.YtbmcdphiolidkaaGreatDoorChecked
import GoSem.Claim
import GoSem.ClaimJoined
import GoSem.ClaimMapViews
import Derived.JoinedTies
import Derived.KernelRfl
namespace Go.Proofs.YtbmcdphiolidkaaGreatDoor
/- THE CELL 'sum', in the pinned program and in every row, IS THE sha256 OF THE DUMP (.gsa) THAT YtbmcdphiolidkaaGreatDoorProg.lean LOADS. Nothing in Lean hashes anything: it is a label: what it is worth is what the hold of that sum in a sandbox is worth. -/
noncomputable def Tryz.pinned : Pinned := { name := "ytbmcdphiolidkaagreatdoor", sum := "687fa30f8577059d75c8fd3a889944df5c219b06de1bee755ec2a6f61fc9b957", checked := Tryz.checked }
namespace Rows
def none {H : Type} : Left H := { results := [], args := [] }

/- WHAT THE LISTED PACKAGE-LEVEL VARIABLES READ AS WHEN THE CALL BEGINS. Each datum BY PROGRAM (the guide's laid-datum.mjs) off the statement by which the dump's own 'gosem.cut.vars' lays the variable. In a bare row this is a premise. The card (YtbmcdphiolidkaaGreatDoorCards.lean) ties it to the program's text. -/
def laid_spindle_kinds_quarters {H : Type} : DataW H := .agg [.slice [.agg [.lit (.int .i64 0), .lit (.int .i64 0), .lit (.int .i64 2), .lit (.int .i64 2), .lit (.int .i64 0)]] [], .slice [.agg [.lit (.int .i64 0), .lit (.int .i64 0), .lit (.int .i64 2), .lit (.int .i64 1), .lit (.int .i64 0)], .agg [.lit (.int .i64 0), .lit (.int .i64 1), .lit (.int .i64 2), .lit (.int .i64 1), .lit (.int .i64 0)]] [], .slice [.agg [.lit (.int .i64 0), .lit (.int .i64 0), .lit (.int .i64 1), .lit (.int .i64 2), .lit (.int .i64 0)], .agg [.lit (.int .i64 1), .lit (.int .i64 0), .lit (.int .i64 1), .lit (.int .i64 2), .lit (.int .i64 0)]] [], .slice [.agg [.lit (.int .i64 0), .lit (.int .i64 0), .lit (.int .i64 1), .lit (.int .i64 1), .lit (.int .i64 0)], .agg [.lit (.int .i64 1), .lit (.int .i64 0), .lit (.int .i64 1), .lit (.int .i64 1), .lit (.int .i64 0)], .agg [.lit (.int .i64 0), .lit (.int .i64 1), .lit (.int .i64 1), .lit (.int .i64 1), .lit (.int .i64 0)], .agg [.lit (.int .i64 1), .lit (.int .i64 1), .lit (.int .i64 1), .lit (.int .i64 1), .lit (.int .i64 0)]] []]
def laid_spindle_mb_sizes {H : Type} : DataW H := .agg [.lit (.int .i64 16), .lit (.int .i64 15), .lit (.int .i64 16), .lit (.int .i64 4), .lit (.int .i64 15)]

/-- 'spindlelaw22.VsliceOne': WHATEVER THE INPUT: true; the input reads as it did. -/
def vsliceOneSpec : ChangeSpec := { name := "vsliceOne", fn := fun _ => fun
  | [d1, d2, d3] => { results := [.lit (.bool true)], args := [d1, d2, d3] }
  | _ => none }
def vsliceOneRow : OpenClaim := { program := "ytbmcdphiolidkaagreatdoor", sum := "687fa30f8577059d75c8fd3a889944df5c219b06de1bee755ec2a6f61fc9b957", func := "spindle/spindlelaw22.VsliceOne", spec := "vsliceOne", unfollowed := true, recurses := true, named := ["spindle/kinds.quarters", "spindle/mb.sizes"], apart := false, laid := [("spindle/kinds.quarters", laid_spindle_kinds_quarters), ("spindle/mb.sizes", laid_spindle_mb_sizes)] }
def VsliceOneSaid : Prop := vsliceOneRow.holds Tryz.pinned (OpenSpec.ofChange vsliceOneSpec)

/-- ITS FALSE NEIGHBOUR: 'it returns false'. Refute it at one input. -/
def vsliceOneWrong : ChangeSpec := { name := "vsliceOne", fn := fun _ => fun
  | [d1, d2, d3] => { results := [.lit (.bool false)], args := [d1, d2, d3] }
  | _ => none }
def VsliceOneWrongFalsely : Prop := vsliceOneRow.holds Tryz.pinned (OpenSpec.ofChange vsliceOneWrong)

/-- 'spindlelaw22.VsliceShorter': WHATEVER THE INPUT: true; the input reads as it did. -/
def vsliceShorterSpec : ChangeSpec := { name := "vsliceShorter", fn := fun _ => fun
  | [d1, d2] => { results := [.lit (.bool true)], args := [d1, d2] }
  | _ => none }
def vsliceShorterRow : OpenClaim := { program := "ytbmcdphiolidkaagreatdoor", sum := "687fa30f8577059d75c8fd3a889944df5c219b06de1bee755ec2a6f61fc9b957", func := "spindle/spindlelaw22.VsliceShorter", spec := "vsliceShorter", unfollowed := true, recurses := true, named := ["spindle/kinds.quarters", "spindle/mb.sizes"], apart := false, laid := [("spindle/kinds.quarters", laid_spindle_kinds_quarters), ("spindle/mb.sizes", laid_spindle_mb_sizes)] }
def VsliceShorterSaid : Prop := vsliceShorterRow.holds Tryz.pinned (OpenSpec.ofChange vsliceShorterSpec)

/-- ITS FALSE NEIGHBOUR: 'it returns false'. Refute it at one input. -/
def vsliceShorterWrong : ChangeSpec := { name := "vsliceShorter", fn := fun _ => fun
  | [d1, d2] => { results := [.lit (.bool false)], args := [d1, d2] }
  | _ => none }
def VsliceShorterWrongFalsely : Prop := vsliceShorterRow.holds Tryz.pinned (OpenSpec.ofChange vsliceShorterWrong)

/-- 'spindlelaw21.VmbExamples': WHATEVER THE INPUT: true; the input reads as it did. -/
def vmbExamplesSpec : ChangeSpec := { name := "vmbExamples", fn := fun _ => fun
  | [] => { results := [.lit (.bool true)], args := [] }
  | _ => none }
def vmbExamplesRow : OpenClaim := { program := "ytbmcdphiolidkaagreatdoor", sum := "687fa30f8577059d75c8fd3a889944df5c219b06de1bee755ec2a6f61fc9b957", func := "spindle/spindlelaw21.VmbExamples", spec := "vmbExamples", unfollowed := true, recurses := true, named := ["spindle/kinds.quarters", "spindle/mb.sizes"], apart := false, laid := [("spindle/kinds.quarters", laid_spindle_kinds_quarters), ("spindle/mb.sizes", laid_spindle_mb_sizes)] }
def VmbExamplesSaid : Prop := vmbExamplesRow.holds Tryz.pinned (OpenSpec.ofChange vmbExamplesSpec)

/-- ITS FALSE NEIGHBOUR: 'it returns false'. Refute it at one input. -/
def vmbExamplesWrong : ChangeSpec := { name := "vmbExamples", fn := fun _ => fun
  | [] => { results := [.lit (.bool false)], args := [] }
  | _ => none }
def VmbExamplesWrongFalsely : Prop := vmbExamplesRow.holds Tryz.pinned (OpenSpec.ofChange vmbExamplesWrong)

/-- 'spindlelaw21.VmbReads': WHATEVER THE INPUT: true; the input reads as it did. -/
def vmbReadsSpec : ChangeSpec := { name := "vmbReads", fn := fun _ => fun
  | [d1, d2, d3, d4] => { results := [.lit (.bool true)], args := [d1, d2, d3, d4] }
  | _ => none }
def vmbReadsRow : OpenClaim := { program := "ytbmcdphiolidkaagreatdoor", sum := "687fa30f8577059d75c8fd3a889944df5c219b06de1bee755ec2a6f61fc9b957", func := "spindle/spindlelaw21.VmbReads", spec := "vmbReads", unfollowed := true, recurses := true, named := ["spindle/kinds.quarters", "spindle/mb.sizes"], apart := false, laid := [("spindle/kinds.quarters", laid_spindle_kinds_quarters), ("spindle/mb.sizes", laid_spindle_mb_sizes)] }
def VmbReadsSaid : Prop := vmbReadsRow.holds Tryz.pinned (OpenSpec.ofChange vmbReadsSpec)

/-- ITS FALSE NEIGHBOUR: 'it returns false'. Refute it at one input. -/
def vmbReadsWrong : ChangeSpec := { name := "vmbReads", fn := fun _ => fun
  | [d1, d2, d3, d4] => { results := [.lit (.bool false)], args := [d1, d2, d3, d4] }
  | _ => none }
def VmbReadsWrongFalsely : Prop := vmbReadsRow.holds Tryz.pinned (OpenSpec.ofChange vmbReadsWrong)

/-- 'spindlelaw21.VmbWrites': WHATEVER THE INPUT: true; the input reads as it did. -/
def vmbWritesSpec : ChangeSpec := { name := "vmbWrites", fn := fun _ => fun
  | [d1, d2, d3, d4] => { results := [.lit (.bool true)], args := [d1, d2, d3, d4] }
  | _ => none }
def vmbWritesRow : OpenClaim := { program := "ytbmcdphiolidkaagreatdoor", sum := "687fa30f8577059d75c8fd3a889944df5c219b06de1bee755ec2a6f61fc9b957", func := "spindle/spindlelaw21.VmbWrites", spec := "vmbWrites", unfollowed := true, recurses := true, named := ["spindle/kinds.quarters", "spindle/mb.sizes"], apart := false, laid := [("spindle/kinds.quarters", laid_spindle_kinds_quarters), ("spindle/mb.sizes", laid_spindle_mb_sizes)] }
def VmbWritesSaid : Prop := vmbWritesRow.holds Tryz.pinned (OpenSpec.ofChange vmbWritesSpec)

/-- ITS FALSE NEIGHBOUR: 'it returns false'. Refute it at one input. -/
def vmbWritesWrong : ChangeSpec := { name := "vmbWrites", fn := fun _ => fun
  | [d1, d2, d3, d4] => { results := [.lit (.bool false)], args := [d1, d2, d3, d4] }
  | _ => none }
def VmbWritesWrongFalsely : Prop := vmbWritesRow.holds Tryz.pinned (OpenSpec.ofChange vmbWritesWrong)

/-- 'spindlelaw21.VmbBack': WHATEVER THE INPUT: true; the input reads as it did. -/
def vmbBackSpec : ChangeSpec := { name := "vmbBack", fn := fun _ => fun
  | [d1, d2, d3, d4] => { results := [.lit (.bool true)], args := [d1, d2, d3, d4] }
  | _ => none }
def vmbBackRow : OpenClaim := { program := "ytbmcdphiolidkaagreatdoor", sum := "687fa30f8577059d75c8fd3a889944df5c219b06de1bee755ec2a6f61fc9b957", func := "spindle/spindlelaw21.VmbBack", spec := "vmbBack", unfollowed := true, recurses := true, named := ["spindle/kinds.quarters", "spindle/mb.sizes"], apart := false, laid := [("spindle/kinds.quarters", laid_spindle_kinds_quarters), ("spindle/mb.sizes", laid_spindle_mb_sizes)] }
def VmbBackSaid : Prop := vmbBackRow.holds Tryz.pinned (OpenSpec.ofChange vmbBackSpec)

/-- ITS FALSE NEIGHBOUR: 'it returns false'. Refute it at one input. -/
def vmbBackWrong : ChangeSpec := { name := "vmbBack", fn := fun _ => fun
  | [d1, d2, d3, d4] => { results := [.lit (.bool false)], args := [d1, d2, d3, d4] }
  | _ => none }
def VmbBackWrongFalsely : Prop := vmbBackRow.holds Tryz.pinned (OpenSpec.ofChange vmbBackWrong)

/-- 'spindlelaw21.VmbAgain': WHATEVER THE INPUT: true; the input reads as it did. -/
def vmbAgainSpec : ChangeSpec := { name := "vmbAgain", fn := fun _ => fun
  | [d1, d2, d3] => { results := [.lit (.bool true)], args := [d1, d2, d3] }
  | _ => none }
def vmbAgainRow : OpenClaim := { program := "ytbmcdphiolidkaagreatdoor", sum := "687fa30f8577059d75c8fd3a889944df5c219b06de1bee755ec2a6f61fc9b957", func := "spindle/spindlelaw21.VmbAgain", spec := "vmbAgain", unfollowed := true, recurses := true, named := ["spindle/kinds.quarters", "spindle/mb.sizes"], apart := false, laid := [("spindle/kinds.quarters", laid_spindle_kinds_quarters), ("spindle/mb.sizes", laid_spindle_mb_sizes)] }
def VmbAgainSaid : Prop := vmbAgainRow.holds Tryz.pinned (OpenSpec.ofChange vmbAgainSpec)

/-- ITS FALSE NEIGHBOUR: 'it returns false'. Refute it at one input. -/
def vmbAgainWrong : ChangeSpec := { name := "vmbAgain", fn := fun _ => fun
  | [d1, d2, d3] => { results := [.lit (.bool false)], args := [d1, d2, d3] }
  | _ => none }
def VmbAgainWrongFalsely : Prop := vmbAgainRow.holds Tryz.pinned (OpenSpec.ofChange vmbAgainWrong)

/-- 'spindlelaw21.VmbApart': WHATEVER THE INPUT: true; the input reads as it did. -/
def vmbApartSpec : ChangeSpec := { name := "vmbApart", fn := fun _ => fun
  | [d1, d2, d3, d4] => { results := [.lit (.bool true)], args := [d1, d2, d3, d4] }
  | _ => none }
def vmbApartRow : OpenClaim := { program := "ytbmcdphiolidkaagreatdoor", sum := "687fa30f8577059d75c8fd3a889944df5c219b06de1bee755ec2a6f61fc9b957", func := "spindle/spindlelaw21.VmbApart", spec := "vmbApart", unfollowed := true, recurses := true, named := ["spindle/kinds.quarters", "spindle/mb.sizes"], apart := false, laid := [("spindle/kinds.quarters", laid_spindle_kinds_quarters), ("spindle/mb.sizes", laid_spindle_mb_sizes)] }
def VmbApartSaid : Prop := vmbApartRow.holds Tryz.pinned (OpenSpec.ofChange vmbApartSpec)

/-- ITS FALSE NEIGHBOUR: 'it returns false'. Refute it at one input. -/
def vmbApartWrong : ChangeSpec := { name := "vmbApart", fn := fun _ => fun
  | [d1, d2, d3, d4] => { results := [.lit (.bool false)], args := [d1, d2, d3, d4] }
  | _ => none }
def VmbApartWrongFalsely : Prop := vmbApartRow.holds Tryz.pinned (OpenSpec.ofChange vmbApartWrong)

/-- 'spindlelaw21.VmbPlaces': WHATEVER THE INPUT: true; the input reads as it did. -/
def vmbPlacesSpec : ChangeSpec := { name := "vmbPlaces", fn := fun _ => fun
  | [d1, d2, d3] => { results := [.lit (.bool true)], args := [d1, d2, d3] }
  | _ => none }
def vmbPlacesRow : OpenClaim := { program := "ytbmcdphiolidkaagreatdoor", sum := "687fa30f8577059d75c8fd3a889944df5c219b06de1bee755ec2a6f61fc9b957", func := "spindle/spindlelaw21.VmbPlaces", spec := "vmbPlaces", unfollowed := true, recurses := true, named := ["spindle/kinds.quarters", "spindle/mb.sizes"], apart := false, laid := [("spindle/kinds.quarters", laid_spindle_kinds_quarters), ("spindle/mb.sizes", laid_spindle_mb_sizes)] }
def VmbPlacesSaid : Prop := vmbPlacesRow.holds Tryz.pinned (OpenSpec.ofChange vmbPlacesSpec)

/-- ITS FALSE NEIGHBOUR: 'it returns false'. Refute it at one input. -/
def vmbPlacesWrong : ChangeSpec := { name := "vmbPlaces", fn := fun _ => fun
  | [d1, d2, d3] => { results := [.lit (.bool false)], args := [d1, d2, d3] }
  | _ => none }
def VmbPlacesWrongFalsely : Prop := vmbPlacesRow.holds Tryz.pinned (OpenSpec.ofChange vmbPlacesWrong)

/-- 'spindlelaw21.VmbPcm': WHATEVER THE INPUT: true; the input reads as it did. -/
def vmbPcmSpec : ChangeSpec := { name := "vmbPcm", fn := fun _ => fun
  | [d1, d2, d3, d4] => { results := [.lit (.bool true)], args := [d1, d2, d3, d4] }
  | _ => none }
def vmbPcmRow : OpenClaim := { program := "ytbmcdphiolidkaagreatdoor", sum := "687fa30f8577059d75c8fd3a889944df5c219b06de1bee755ec2a6f61fc9b957", func := "spindle/spindlelaw21.VmbPcm", spec := "vmbPcm", unfollowed := true, recurses := true, named := ["spindle/kinds.quarters", "spindle/mb.sizes"], apart := false, laid := [("spindle/kinds.quarters", laid_spindle_kinds_quarters), ("spindle/mb.sizes", laid_spindle_mb_sizes)] }
def VmbPcmSaid : Prop := vmbPcmRow.holds Tryz.pinned (OpenSpec.ofChange vmbPcmSpec)

/-- ITS FALSE NEIGHBOUR: 'it returns false'. Refute it at one input. -/
def vmbPcmWrong : ChangeSpec := { name := "vmbPcm", fn := fun _ => fun
  | [d1, d2, d3, d4] => { results := [.lit (.bool false)], args := [d1, d2, d3, d4] }
  | _ => none }
def VmbPcmWrongFalsely : Prop := vmbPcmRow.holds Tryz.pinned (OpenSpec.ofChange vmbPcmWrong)

/-- 'spindlelaw22.VsliceReads': WHATEVER THE INPUT: true; the input reads as it did. -/
def vsliceReadsSpec : ChangeSpec := { name := "vsliceReads", fn := fun _ => fun
  | [d1, d2, d3] => { results := [.lit (.bool true)], args := [d1, d2, d3] }
  | _ => none }
def vsliceReadsRow : OpenClaim := { program := "ytbmcdphiolidkaagreatdoor", sum := "687fa30f8577059d75c8fd3a889944df5c219b06de1bee755ec2a6f61fc9b957", func := "spindle/spindlelaw22.VsliceReads", spec := "vsliceReads", unfollowed := true, recurses := true, named := ["spindle/kinds.quarters", "spindle/mb.sizes"], apart := false, laid := [("spindle/kinds.quarters", laid_spindle_kinds_quarters), ("spindle/mb.sizes", laid_spindle_mb_sizes)] }
def VsliceReadsSaid : Prop := vsliceReadsRow.holds Tryz.pinned (OpenSpec.ofChange vsliceReadsSpec)

/-- ITS FALSE NEIGHBOUR: 'it returns false'. Refute it at one input. -/
def vsliceReadsWrong : ChangeSpec := { name := "vsliceReads", fn := fun _ => fun
  | [d1, d2, d3] => { results := [.lit (.bool false)], args := [d1, d2, d3] }
  | _ => none }
def VsliceReadsWrongFalsely : Prop := vsliceReadsRow.holds Tryz.pinned (OpenSpec.ofChange vsliceReadsWrong)

/-- 'spindlelaw22.VsliceBack': WHATEVER THE INPUT: true; the input reads as it did. -/
def vsliceBackSpec : ChangeSpec := { name := "vsliceBack", fn := fun _ => fun
  | [d1, d2, d3] => { results := [.lit (.bool true)], args := [d1, d2, d3] }
  | _ => none }
def vsliceBackRow : OpenClaim := { program := "ytbmcdphiolidkaagreatdoor", sum := "687fa30f8577059d75c8fd3a889944df5c219b06de1bee755ec2a6f61fc9b957", func := "spindle/spindlelaw22.VsliceBack", spec := "vsliceBack", unfollowed := true, recurses := true, named := ["spindle/kinds.quarters", "spindle/mb.sizes"], apart := false, laid := [("spindle/kinds.quarters", laid_spindle_kinds_quarters), ("spindle/mb.sizes", laid_spindle_mb_sizes)] }
def VsliceBackSaid : Prop := vsliceBackRow.holds Tryz.pinned (OpenSpec.ofChange vsliceBackSpec)

/-- ITS FALSE NEIGHBOUR: 'it returns false'. Refute it at one input. -/
def vsliceBackWrong : ChangeSpec := { name := "vsliceBack", fn := fun _ => fun
  | [d1, d2, d3] => { results := [.lit (.bool false)], args := [d1, d2, d3] }
  | _ => none }
def VsliceBackWrongFalsely : Prop := vsliceBackRow.holds Tryz.pinned (OpenSpec.ofChange vsliceBackWrong)

/-- 'spindlelaw22.VsliceWrites': WHATEVER THE INPUT: true; the input reads as it did. -/
def vsliceWritesSpec : ChangeSpec := { name := "vsliceWrites", fn := fun _ => fun
  | [d1, d2, d3] => { results := [.lit (.bool true)], args := [d1, d2, d3] }
  | _ => none }
def vsliceWritesRow : OpenClaim := { program := "ytbmcdphiolidkaagreatdoor", sum := "687fa30f8577059d75c8fd3a889944df5c219b06de1bee755ec2a6f61fc9b957", func := "spindle/spindlelaw22.VsliceWrites", spec := "vsliceWrites", unfollowed := true, recurses := true, named := ["spindle/kinds.quarters", "spindle/mb.sizes"], apart := false, laid := [("spindle/kinds.quarters", laid_spindle_kinds_quarters), ("spindle/mb.sizes", laid_spindle_mb_sizes)] }
def VsliceWritesSaid : Prop := vsliceWritesRow.holds Tryz.pinned (OpenSpec.ofChange vsliceWritesSpec)

/-- ITS FALSE NEIGHBOUR: 'it returns false'. Refute it at one input. -/
def vsliceWritesWrong : ChangeSpec := { name := "vsliceWrites", fn := fun _ => fun
  | [d1, d2, d3] => { results := [.lit (.bool false)], args := [d1, d2, d3] }
  | _ => none }
def VsliceWritesWrongFalsely : Prop := vsliceWritesRow.holds Tryz.pinned (OpenSpec.ofChange vsliceWritesWrong)

/-- 'spindlelaw22.VsliceAgain': WHATEVER THE INPUT: true; the input reads as it did. -/
def vsliceAgainSpec : ChangeSpec := { name := "vsliceAgain", fn := fun _ => fun
  | [d1, d2, d3] => { results := [.lit (.bool true)], args := [d1, d2, d3] }
  | _ => none }
def vsliceAgainRow : OpenClaim := { program := "ytbmcdphiolidkaagreatdoor", sum := "687fa30f8577059d75c8fd3a889944df5c219b06de1bee755ec2a6f61fc9b957", func := "spindle/spindlelaw22.VsliceAgain", spec := "vsliceAgain", unfollowed := true, recurses := true, named := ["spindle/kinds.quarters", "spindle/mb.sizes"], apart := false, laid := [("spindle/kinds.quarters", laid_spindle_kinds_quarters), ("spindle/mb.sizes", laid_spindle_mb_sizes)] }
def VsliceAgainSaid : Prop := vsliceAgainRow.holds Tryz.pinned (OpenSpec.ofChange vsliceAgainSpec)

/-- ITS FALSE NEIGHBOUR: 'it returns false'. Refute it at one input. -/
def vsliceAgainWrong : ChangeSpec := { name := "vsliceAgain", fn := fun _ => fun
  | [d1, d2, d3] => { results := [.lit (.bool false)], args := [d1, d2, d3] }
  | _ => none }
def VsliceAgainWrongFalsely : Prop := vsliceAgainRow.holds Tryz.pinned (OpenSpec.ofChange vsliceAgainWrong)

/-- 'spindlelaw22.VsliceSkips': WHATEVER THE INPUT: true; the input reads as it did. -/
def vsliceSkipsSpec : ChangeSpec := { name := "vsliceSkips", fn := fun _ => fun
  | [d1, d2] => { results := [.lit (.bool true)], args := [d1, d2] }
  | _ => none }
def vsliceSkipsRow : OpenClaim := { program := "ytbmcdphiolidkaagreatdoor", sum := "687fa30f8577059d75c8fd3a889944df5c219b06de1bee755ec2a6f61fc9b957", func := "spindle/spindlelaw22.VsliceSkips", spec := "vsliceSkips", unfollowed := true, recurses := true, named := ["spindle/kinds.quarters", "spindle/mb.sizes"], apart := false, laid := [("spindle/kinds.quarters", laid_spindle_kinds_quarters), ("spindle/mb.sizes", laid_spindle_mb_sizes)] }
def VsliceSkipsSaid : Prop := vsliceSkipsRow.holds Tryz.pinned (OpenSpec.ofChange vsliceSkipsSpec)

/-- ITS FALSE NEIGHBOUR: 'it returns false'. Refute it at one input. -/
def vsliceSkipsWrong : ChangeSpec := { name := "vsliceSkips", fn := fun _ => fun
  | [d1, d2] => { results := [.lit (.bool false)], args := [d1, d2] }
  | _ => none }
def VsliceSkipsWrongFalsely : Prop := vsliceSkipsRow.holds Tryz.pinned (OpenSpec.ofChange vsliceSkipsWrong)

/- THE SECOND FORM. 'bulk': how many values and letters a reading holds, each counted each time it is reached (what is shared counts as often as it is met; a slice's spare places count too). A statement '..UptoSaid' is the law's where the arguments, and the package variables that the reading takes, are together of bulk at most 1048576: NARROWER than '..Said'. Prove '..Said' where nothing that the law and all that it calls make is longer than what came in: it says more and counts as full. Else prove '..UptoSaid'. A law counts once. -/
mutual
def uptoBulk {H : Type} : DataW H → Nat
  | .lit (.string bytes) => bytes.length + 1
  | .lit _ => 1
  | .nil => 1
  | .ptr d => uptoBulk d + 1
  | .slice elems spare => uptoBulkAll elems + uptoBulkAll spare + 1
  | .agg parts => uptoBulkAll parts + 1
  | .iface _ d => uptoBulk d + 1
  | .map entries => uptoBulkEntries entries + 1
  | .held _ => 1
def uptoBulkAll {H : Type} : List (DataW H) → Nat
  | [] => 0
  | d :: r => uptoBulk d + uptoBulkAll r
def uptoBulkEntries {H : Type} : List (Lit × DataW H) → Nat
  | [] => 0
  | x :: r => uptoBulkEntry x + uptoBulkEntries r
def uptoBulkEntry {H : Type} : Lit × DataW H → Nat
  | (.string bytes, d) => bytes.length + uptoBulk d + 1
  | (_, d) => uptoBulk d + 1
 end
def uptoSmall : (H : Type) → List (DataW H) → Bool := fun _ ds => decide (uptoBulkAll ds ≤ 1048576)
def OpenSpec.upto (s : _root_.Go.ChangeSpec) : _root_.Go.OpenSpec := { _root_.Go.OpenSpec.ofChange s with cond := some uptoSmall }

/-- 'spindlelaw22.VsliceOne', WHERE WHAT IT READS IS OF BULK AT MOST 1048576: true; the input reads as it did. -/
def vsliceOneUptoRow : OpenClaim := { program := "ytbmcdphiolidkaagreatdoor", sum := "687fa30f8577059d75c8fd3a889944df5c219b06de1bee755ec2a6f61fc9b957", func := "spindle/spindlelaw22.VsliceOne", spec := "vsliceOne", unfollowed := true, recurses := true, named := ["spindle/kinds.quarters", "spindle/mb.sizes"], apart := false, laid := [("spindle/kinds.quarters", laid_spindle_kinds_quarters), ("spindle/mb.sizes", laid_spindle_mb_sizes)], narrowed := true }
def VsliceOneUptoSaid : Prop := vsliceOneUptoRow.holds Tryz.pinned (OpenSpec.upto vsliceOneSpec)

/-- 'spindlelaw22.VsliceShorter', WHERE WHAT IT READS IS OF BULK AT MOST 1048576: true; the input reads as it did. -/
def vsliceShorterUptoRow : OpenClaim := { program := "ytbmcdphiolidkaagreatdoor", sum := "687fa30f8577059d75c8fd3a889944df5c219b06de1bee755ec2a6f61fc9b957", func := "spindle/spindlelaw22.VsliceShorter", spec := "vsliceShorter", unfollowed := true, recurses := true, named := ["spindle/kinds.quarters", "spindle/mb.sizes"], apart := false, laid := [("spindle/kinds.quarters", laid_spindle_kinds_quarters), ("spindle/mb.sizes", laid_spindle_mb_sizes)], narrowed := true }
def VsliceShorterUptoSaid : Prop := vsliceShorterUptoRow.holds Tryz.pinned (OpenSpec.upto vsliceShorterSpec)

/-- 'spindlelaw21.VmbExamples', WHERE WHAT IT READS IS OF BULK AT MOST 1048576: true; the input reads as it did. -/
def vmbExamplesUptoRow : OpenClaim := { program := "ytbmcdphiolidkaagreatdoor", sum := "687fa30f8577059d75c8fd3a889944df5c219b06de1bee755ec2a6f61fc9b957", func := "spindle/spindlelaw21.VmbExamples", spec := "vmbExamples", unfollowed := true, recurses := true, named := ["spindle/kinds.quarters", "spindle/mb.sizes"], apart := false, laid := [("spindle/kinds.quarters", laid_spindle_kinds_quarters), ("spindle/mb.sizes", laid_spindle_mb_sizes)], narrowed := true }
def VmbExamplesUptoSaid : Prop := vmbExamplesUptoRow.holds Tryz.pinned (OpenSpec.upto vmbExamplesSpec)

/-- 'spindlelaw21.VmbReads', WHERE WHAT IT READS IS OF BULK AT MOST 1048576: true; the input reads as it did. -/
def vmbReadsUptoRow : OpenClaim := { program := "ytbmcdphiolidkaagreatdoor", sum := "687fa30f8577059d75c8fd3a889944df5c219b06de1bee755ec2a6f61fc9b957", func := "spindle/spindlelaw21.VmbReads", spec := "vmbReads", unfollowed := true, recurses := true, named := ["spindle/kinds.quarters", "spindle/mb.sizes"], apart := false, laid := [("spindle/kinds.quarters", laid_spindle_kinds_quarters), ("spindle/mb.sizes", laid_spindle_mb_sizes)], narrowed := true }
def VmbReadsUptoSaid : Prop := vmbReadsUptoRow.holds Tryz.pinned (OpenSpec.upto vmbReadsSpec)

/-- 'spindlelaw21.VmbWrites', WHERE WHAT IT READS IS OF BULK AT MOST 1048576: true; the input reads as it did. -/
def vmbWritesUptoRow : OpenClaim := { program := "ytbmcdphiolidkaagreatdoor", sum := "687fa30f8577059d75c8fd3a889944df5c219b06de1bee755ec2a6f61fc9b957", func := "spindle/spindlelaw21.VmbWrites", spec := "vmbWrites", unfollowed := true, recurses := true, named := ["spindle/kinds.quarters", "spindle/mb.sizes"], apart := false, laid := [("spindle/kinds.quarters", laid_spindle_kinds_quarters), ("spindle/mb.sizes", laid_spindle_mb_sizes)], narrowed := true }
def VmbWritesUptoSaid : Prop := vmbWritesUptoRow.holds Tryz.pinned (OpenSpec.upto vmbWritesSpec)

/-- 'spindlelaw21.VmbBack', WHERE WHAT IT READS IS OF BULK AT MOST 1048576: true; the input reads as it did. -/
def vmbBackUptoRow : OpenClaim := { program := "ytbmcdphiolidkaagreatdoor", sum := "687fa30f8577059d75c8fd3a889944df5c219b06de1bee755ec2a6f61fc9b957", func := "spindle/spindlelaw21.VmbBack", spec := "vmbBack", unfollowed := true, recurses := true, named := ["spindle/kinds.quarters", "spindle/mb.sizes"], apart := false, laid := [("spindle/kinds.quarters", laid_spindle_kinds_quarters), ("spindle/mb.sizes", laid_spindle_mb_sizes)], narrowed := true }
def VmbBackUptoSaid : Prop := vmbBackUptoRow.holds Tryz.pinned (OpenSpec.upto vmbBackSpec)

/-- 'spindlelaw21.VmbAgain', WHERE WHAT IT READS IS OF BULK AT MOST 1048576: true; the input reads as it did. -/
def vmbAgainUptoRow : OpenClaim := { program := "ytbmcdphiolidkaagreatdoor", sum := "687fa30f8577059d75c8fd3a889944df5c219b06de1bee755ec2a6f61fc9b957", func := "spindle/spindlelaw21.VmbAgain", spec := "vmbAgain", unfollowed := true, recurses := true, named := ["spindle/kinds.quarters", "spindle/mb.sizes"], apart := false, laid := [("spindle/kinds.quarters", laid_spindle_kinds_quarters), ("spindle/mb.sizes", laid_spindle_mb_sizes)], narrowed := true }
def VmbAgainUptoSaid : Prop := vmbAgainUptoRow.holds Tryz.pinned (OpenSpec.upto vmbAgainSpec)

/-- 'spindlelaw21.VmbApart', WHERE WHAT IT READS IS OF BULK AT MOST 1048576: true; the input reads as it did. -/
def vmbApartUptoRow : OpenClaim := { program := "ytbmcdphiolidkaagreatdoor", sum := "687fa30f8577059d75c8fd3a889944df5c219b06de1bee755ec2a6f61fc9b957", func := "spindle/spindlelaw21.VmbApart", spec := "vmbApart", unfollowed := true, recurses := true, named := ["spindle/kinds.quarters", "spindle/mb.sizes"], apart := false, laid := [("spindle/kinds.quarters", laid_spindle_kinds_quarters), ("spindle/mb.sizes", laid_spindle_mb_sizes)], narrowed := true }
def VmbApartUptoSaid : Prop := vmbApartUptoRow.holds Tryz.pinned (OpenSpec.upto vmbApartSpec)

/-- 'spindlelaw21.VmbPlaces', WHERE WHAT IT READS IS OF BULK AT MOST 1048576: true; the input reads as it did. -/
def vmbPlacesUptoRow : OpenClaim := { program := "ytbmcdphiolidkaagreatdoor", sum := "687fa30f8577059d75c8fd3a889944df5c219b06de1bee755ec2a6f61fc9b957", func := "spindle/spindlelaw21.VmbPlaces", spec := "vmbPlaces", unfollowed := true, recurses := true, named := ["spindle/kinds.quarters", "spindle/mb.sizes"], apart := false, laid := [("spindle/kinds.quarters", laid_spindle_kinds_quarters), ("spindle/mb.sizes", laid_spindle_mb_sizes)], narrowed := true }
def VmbPlacesUptoSaid : Prop := vmbPlacesUptoRow.holds Tryz.pinned (OpenSpec.upto vmbPlacesSpec)

/-- 'spindlelaw21.VmbPcm', WHERE WHAT IT READS IS OF BULK AT MOST 1048576: true; the input reads as it did. -/
def vmbPcmUptoRow : OpenClaim := { program := "ytbmcdphiolidkaagreatdoor", sum := "687fa30f8577059d75c8fd3a889944df5c219b06de1bee755ec2a6f61fc9b957", func := "spindle/spindlelaw21.VmbPcm", spec := "vmbPcm", unfollowed := true, recurses := true, named := ["spindle/kinds.quarters", "spindle/mb.sizes"], apart := false, laid := [("spindle/kinds.quarters", laid_spindle_kinds_quarters), ("spindle/mb.sizes", laid_spindle_mb_sizes)], narrowed := true }
def VmbPcmUptoSaid : Prop := vmbPcmUptoRow.holds Tryz.pinned (OpenSpec.upto vmbPcmSpec)

/-- 'spindlelaw22.VsliceReads', WHERE WHAT IT READS IS OF BULK AT MOST 1048576: true; the input reads as it did. -/
def vsliceReadsUptoRow : OpenClaim := { program := "ytbmcdphiolidkaagreatdoor", sum := "687fa30f8577059d75c8fd3a889944df5c219b06de1bee755ec2a6f61fc9b957", func := "spindle/spindlelaw22.VsliceReads", spec := "vsliceReads", unfollowed := true, recurses := true, named := ["spindle/kinds.quarters", "spindle/mb.sizes"], apart := false, laid := [("spindle/kinds.quarters", laid_spindle_kinds_quarters), ("spindle/mb.sizes", laid_spindle_mb_sizes)], narrowed := true }
def VsliceReadsUptoSaid : Prop := vsliceReadsUptoRow.holds Tryz.pinned (OpenSpec.upto vsliceReadsSpec)

/-- 'spindlelaw22.VsliceBack', WHERE WHAT IT READS IS OF BULK AT MOST 1048576: true; the input reads as it did. -/
def vsliceBackUptoRow : OpenClaim := { program := "ytbmcdphiolidkaagreatdoor", sum := "687fa30f8577059d75c8fd3a889944df5c219b06de1bee755ec2a6f61fc9b957", func := "spindle/spindlelaw22.VsliceBack", spec := "vsliceBack", unfollowed := true, recurses := true, named := ["spindle/kinds.quarters", "spindle/mb.sizes"], apart := false, laid := [("spindle/kinds.quarters", laid_spindle_kinds_quarters), ("spindle/mb.sizes", laid_spindle_mb_sizes)], narrowed := true }
def VsliceBackUptoSaid : Prop := vsliceBackUptoRow.holds Tryz.pinned (OpenSpec.upto vsliceBackSpec)

/-- 'spindlelaw22.VsliceWrites', WHERE WHAT IT READS IS OF BULK AT MOST 1048576: true; the input reads as it did. -/
def vsliceWritesUptoRow : OpenClaim := { program := "ytbmcdphiolidkaagreatdoor", sum := "687fa30f8577059d75c8fd3a889944df5c219b06de1bee755ec2a6f61fc9b957", func := "spindle/spindlelaw22.VsliceWrites", spec := "vsliceWrites", unfollowed := true, recurses := true, named := ["spindle/kinds.quarters", "spindle/mb.sizes"], apart := false, laid := [("spindle/kinds.quarters", laid_spindle_kinds_quarters), ("spindle/mb.sizes", laid_spindle_mb_sizes)], narrowed := true }
def VsliceWritesUptoSaid : Prop := vsliceWritesUptoRow.holds Tryz.pinned (OpenSpec.upto vsliceWritesSpec)

/-- 'spindlelaw22.VsliceAgain', WHERE WHAT IT READS IS OF BULK AT MOST 1048576: true; the input reads as it did. -/
def vsliceAgainUptoRow : OpenClaim := { program := "ytbmcdphiolidkaagreatdoor", sum := "687fa30f8577059d75c8fd3a889944df5c219b06de1bee755ec2a6f61fc9b957", func := "spindle/spindlelaw22.VsliceAgain", spec := "vsliceAgain", unfollowed := true, recurses := true, named := ["spindle/kinds.quarters", "spindle/mb.sizes"], apart := false, laid := [("spindle/kinds.quarters", laid_spindle_kinds_quarters), ("spindle/mb.sizes", laid_spindle_mb_sizes)], narrowed := true }
def VsliceAgainUptoSaid : Prop := vsliceAgainUptoRow.holds Tryz.pinned (OpenSpec.upto vsliceAgainSpec)

/-- 'spindlelaw22.VsliceSkips', WHERE WHAT IT READS IS OF BULK AT MOST 1048576: true; the input reads as it did. -/
def vsliceSkipsUptoRow : OpenClaim := { program := "ytbmcdphiolidkaagreatdoor", sum := "687fa30f8577059d75c8fd3a889944df5c219b06de1bee755ec2a6f61fc9b957", func := "spindle/spindlelaw22.VsliceSkips", spec := "vsliceSkips", unfollowed := true, recurses := true, named := ["spindle/kinds.quarters", "spindle/mb.sizes"], apart := false, laid := [("spindle/kinds.quarters", laid_spindle_kinds_quarters), ("spindle/mb.sizes", laid_spindle_mb_sizes)], narrowed := true }
def VsliceSkipsUptoSaid : Prop := vsliceSkipsUptoRow.holds Tryz.pinned (OpenSpec.upto vsliceSkipsSpec)

end Rows
end Go.Proofs.YtbmcdphiolidkaaGreatDoor
