/-
  No cell of these rows narrows 'for every input' (looked for: loops, veiled, ifaces, maps, wideKeys, modest, calm, conditions, laid).
  DERIVED. THE GIVEN ROWS OF THIS SEAT. 19 by the template 'for every input the law returns true; each argument reads behind the call as it read before'; 0 by the template 'total and deterministic' (their statements: YtfkmmiinlipcpaaTotals.lean).
  GIVEN WITH THE SEED: the statements are not yours to turn. If you find one false, say at which input.
  Laid BY PROGRAM, IN A SANDBOX (cutbox-rows.mjs): the forced cells as the released guide's own fill.sh prints them over the translation e13ab37e3aa62fa4… (all of the seat's roots in one cut). By AI agents, Wed Nov 11 2026. No macro, syntax, notation, axiom, sorry.
-/
import Derived.Test.YtfkmmiinlipcpaaChecked
import GoSem.Claim
import GoSem.ClaimJoined
import GoSem.ClaimMapViews
import Derived.JoinedTies
import Derived.KernelRfl
namespace Go.Proofs.Ytfkmmiinlipcpaa
/- THE CELL 'sum', in the pinned program and in every row, IS THE sha256 OF THE DUMP (.gsa) THAT YtfkmmiinlipcpaaProg.lean LOADS. Nothing in Lean hashes anything: it is a label: what it is worth is what the hold of that sum in a sandbox is worth. -/
noncomputable def Try.pinned : Pinned := { name := "ytfkmmiinlipcpaa", sum := "e13ab37e3aa62fa490658cc07a2526c01f37a921895dbcff9234c240ee82eda9", checked := Try.checked }
namespace Rows
def none {H : Type} : Left H := { results := [], args := [] }

/-- 'spindlelaw18.VlcPairs': WHATEVER THE INPUT: true; the input reads as it did. -/
def vlcPairsSpec : ChangeSpec := { name := "vlcPairs", fn := fun _ => fun
  | [d1, d2, d3] => { results := [.lit (.bool true)], args := [d1, d2, d3] }
  | _ => none }
def vlcPairsRow : OpenClaim := { program := "ytfkmmiinlipcpaa", sum := "e13ab37e3aa62fa490658cc07a2526c01f37a921895dbcff9234c240ee82eda9", func := "spindle/spindlelaw18.VlcPairs", spec := "vlcPairs", unfollowed := true, recurses := true, apart := false }
def VlcPairsSaid : Prop := vlcPairsRow.holds Try.pinned (OpenSpec.ofChange vlcPairsSpec)

/-- ITS FALSE NEIGHBOUR: 'it returns false'. Refute it at one input. -/
def vlcPairsWrong : ChangeSpec := { name := "vlcPairs", fn := fun _ => fun
  | [d1, d2, d3] => { results := [.lit (.bool false)], args := [d1, d2, d3] }
  | _ => none }
def VlcPairsWrongFalsely : Prop := vlcPairsRow.holds Try.pinned (OpenSpec.ofChange vlcPairsWrong)

/-- 'spindlelaw18.VlcNumbers': WHATEVER THE INPUT: true; the input reads as it did. -/
def vlcNumbersSpec : ChangeSpec := { name := "vlcNumbers", fn := fun _ => fun
  | [d1, d2, d3, d4, d5] => { results := [.lit (.bool true)], args := [d1, d2, d3, d4, d5] }
  | _ => none }
def vlcNumbersRow : OpenClaim := { program := "ytfkmmiinlipcpaa", sum := "e13ab37e3aa62fa490658cc07a2526c01f37a921895dbcff9234c240ee82eda9", func := "spindle/spindlelaw18.VlcNumbers", spec := "vlcNumbers", unfollowed := true, recurses := true, apart := false }
def VlcNumbersSaid : Prop := vlcNumbersRow.holds Try.pinned (OpenSpec.ofChange vlcNumbersSpec)

/-- ITS FALSE NEIGHBOUR: 'it returns false'. Refute it at one input. -/
def vlcNumbersWrong : ChangeSpec := { name := "vlcNumbers", fn := fun _ => fun
  | [d1, d2, d3, d4, d5] => { results := [.lit (.bool false)], args := [d1, d2, d3, d4, d5] }
  | _ => none }
def VlcNumbersWrongFalsely : Prop := vlcNumbersRow.holds Try.pinned (OpenSpec.ofChange vlcNumbersWrong)

/-- 'spindlelaw18.VlcWrites': WHATEVER THE INPUT: true; the input reads as it did. -/
def vlcWritesSpec : ChangeSpec := { name := "vlcWrites", fn := fun _ => fun
  | [d] => { results := [.lit (.bool true)], args := [d] }
  | _ => none }
def vlcWritesRow : OpenClaim := { program := "ytfkmmiinlipcpaa", sum := "e13ab37e3aa62fa490658cc07a2526c01f37a921895dbcff9234c240ee82eda9", func := "spindle/spindlelaw18.VlcWrites", spec := "vlcWrites", unfollowed := true, recurses := true, apart := false }
def VlcWritesSaid : Prop := vlcWritesRow.holds Try.pinned (OpenSpec.ofChange vlcWritesSpec)

/-- ITS FALSE NEIGHBOUR: 'it returns false'. Refute it at one input. -/
def vlcWritesWrong : ChangeSpec := { name := "vlcWrites", fn := fun _ => fun
  | [d] => { results := [.lit (.bool false)], args := [d] }
  | _ => none }
def VlcWritesWrongFalsely : Prop := vlcWritesRow.holds Try.pinned (OpenSpec.ofChange vlcWritesWrong)

/-- 'spindlelaw18.VlcApart': WHATEVER THE INPUT: true; the input reads as it did. -/
def vlcApartSpec : ChangeSpec := { name := "vlcApart", fn := fun _ => fun
  | [d1, d2, d3] => { results := [.lit (.bool true)], args := [d1, d2, d3] }
  | _ => none }
def vlcApartRow : OpenClaim := { program := "ytfkmmiinlipcpaa", sum := "e13ab37e3aa62fa490658cc07a2526c01f37a921895dbcff9234c240ee82eda9", func := "spindle/spindlelaw18.VlcApart", spec := "vlcApart", unfollowed := true, recurses := true, apart := false }
def VlcApartSaid : Prop := vlcApartRow.holds Try.pinned (OpenSpec.ofChange vlcApartSpec)

/-- ITS FALSE NEIGHBOUR: 'it returns false'. Refute it at one input. -/
def vlcApartWrong : ChangeSpec := { name := "vlcApart", fn := fun _ => fun
  | [d1, d2, d3] => { results := [.lit (.bool false)], args := [d1, d2, d3] }
  | _ => none }
def VlcApartWrongFalsely : Prop := vlcApartRow.holds Try.pinned (OpenSpec.ofChange vlcApartWrong)

/-- 'spindlelaw18.VlcLengths': WHATEVER THE INPUT: true; the input reads as it did. -/
def vlcLengthsSpec : ChangeSpec := { name := "vlcLengths", fn := fun _ => fun
  | [d] => { results := [.lit (.bool true)], args := [d] }
  | _ => none }
def vlcLengthsRow : OpenClaim := { program := "ytfkmmiinlipcpaa", sum := "e13ab37e3aa62fa490658cc07a2526c01f37a921895dbcff9234c240ee82eda9", func := "spindle/spindlelaw18.VlcLengths", spec := "vlcLengths", unfollowed := true, recurses := true, apart := false }
def VlcLengthsSaid : Prop := vlcLengthsRow.holds Try.pinned (OpenSpec.ofChange vlcLengthsSpec)

/-- ITS FALSE NEIGHBOUR: 'it returns false'. Refute it at one input. -/
def vlcLengthsWrong : ChangeSpec := { name := "vlcLengths", fn := fun _ => fun
  | [d] => { results := [.lit (.bool false)], args := [d] }
  | _ => none }
def VlcLengthsWrongFalsely : Prop := vlcLengthsRow.holds Try.pinned (OpenSpec.ofChange vlcLengthsWrong)

/-- 'spindlelaw18.VlcComplete': WHATEVER THE INPUT: true; the input reads as it did. -/
def vlcCompleteSpec : ChangeSpec := { name := "vlcComplete", fn := fun _ => fun
  | [d1, d2] => { results := [.lit (.bool true)], args := [d1, d2] }
  | _ => none }
def vlcCompleteRow : OpenClaim := { program := "ytfkmmiinlipcpaa", sum := "e13ab37e3aa62fa490658cc07a2526c01f37a921895dbcff9234c240ee82eda9", func := "spindle/spindlelaw18.VlcComplete", spec := "vlcComplete", unfollowed := true, recurses := true, apart := false }
def VlcCompleteSaid : Prop := vlcCompleteRow.holds Try.pinned (OpenSpec.ofChange vlcCompleteSpec)

/-- ITS FALSE NEIGHBOUR: 'it returns false'. Refute it at one input. -/
def vlcCompleteWrong : ChangeSpec := { name := "vlcComplete", fn := fun _ => fun
  | [d1, d2] => { results := [.lit (.bool false)], args := [d1, d2] }
  | _ => none }
def VlcCompleteWrongFalsely : Prop := vlcCompleteRow.holds Try.pinned (OpenSpec.ofChange vlcCompleteWrong)

/-- 'spindlelaw18.VlcReads': WHATEVER THE INPUT: true; the input reads as it did. -/
def vlcReadsSpec : ChangeSpec := { name := "vlcReads", fn := fun _ => fun
  | [d1, d2] => { results := [.lit (.bool true)], args := [d1, d2] }
  | _ => none }
def vlcReadsRow : OpenClaim := { program := "ytfkmmiinlipcpaa", sum := "e13ab37e3aa62fa490658cc07a2526c01f37a921895dbcff9234c240ee82eda9", func := "spindle/spindlelaw18.VlcReads", spec := "vlcReads", unfollowed := true, recurses := true, apart := false }
def VlcReadsSaid : Prop := vlcReadsRow.holds Try.pinned (OpenSpec.ofChange vlcReadsSpec)

/-- ITS FALSE NEIGHBOUR: 'it returns false'. Refute it at one input. -/
def vlcReadsWrong : ChangeSpec := { name := "vlcReads", fn := fun _ => fun
  | [d1, d2] => { results := [.lit (.bool false)], args := [d1, d2] }
  | _ => none }
def VlcReadsWrongFalsely : Prop := vlcReadsRow.holds Try.pinned (OpenSpec.ofChange vlcReadsWrong)

/-- 'spindlelaw18.VlcBack': WHATEVER THE INPUT: true; the input reads as it did. -/
def vlcBackSpec : ChangeSpec := { name := "vlcBack", fn := fun _ => fun
  | [d1, d2] => { results := [.lit (.bool true)], args := [d1, d2] }
  | _ => none }
def vlcBackRow : OpenClaim := { program := "ytfkmmiinlipcpaa", sum := "e13ab37e3aa62fa490658cc07a2526c01f37a921895dbcff9234c240ee82eda9", func := "spindle/spindlelaw18.VlcBack", spec := "vlcBack", unfollowed := true, recurses := true, apart := false }
def VlcBackSaid : Prop := vlcBackRow.holds Try.pinned (OpenSpec.ofChange vlcBackSpec)

/-- ITS FALSE NEIGHBOUR: 'it returns false'. Refute it at one input. -/
def vlcBackWrong : ChangeSpec := { name := "vlcBack", fn := fun _ => fun
  | [d1, d2] => { results := [.lit (.bool false)], args := [d1, d2] }
  | _ => none }
def VlcBackWrongFalsely : Prop := vlcBackRow.holds Try.pinned (OpenSpec.ofChange vlcBackWrong)

/-- 'spindlelaw34.FitBlocks': WHATEVER THE INPUT: true; the input reads as it did. -/
def fitBlocksSpec : ChangeSpec := { name := "fitBlocks", fn := fun _ => fun
  | [d] => { results := [.lit (.bool true)], args := [d] }
  | _ => none }
def fitBlocksRow : OpenClaim := { program := "ytfkmmiinlipcpaa", sum := "e13ab37e3aa62fa490658cc07a2526c01f37a921895dbcff9234c240ee82eda9", func := "spindle/spindlelaw34.FitBlocks", spec := "fitBlocks", unfollowed := true, recurses := true, apart := false }
def FitBlocksSaid : Prop := fitBlocksRow.holds Try.pinned (OpenSpec.ofChange fitBlocksSpec)

/-- ITS FALSE NEIGHBOUR: 'it returns false'. Refute it at one input. -/
def fitBlocksWrong : ChangeSpec := { name := "fitBlocks", fn := fun _ => fun
  | [d] => { results := [.lit (.bool false)], args := [d] }
  | _ => none }
def FitBlocksWrongFalsely : Prop := fitBlocksRow.holds Try.pinned (OpenSpec.ofChange fitBlocksWrong)

/-- 'spindlelaw34.FitBounds': WHATEVER THE INPUT: true; the input reads as it did. -/
def fitBoundsSpec : ChangeSpec := { name := "fitBounds", fn := fun _ => fun
  | [d1, d2, d3, d4] => { results := [.lit (.bool true)], args := [d1, d2, d3, d4] }
  | _ => none }
def fitBoundsRow : OpenClaim := { program := "ytfkmmiinlipcpaa", sum := "e13ab37e3aa62fa490658cc07a2526c01f37a921895dbcff9234c240ee82eda9", func := "spindle/spindlelaw34.FitBounds", spec := "fitBounds", unfollowed := true, recurses := true, apart := false }
def FitBoundsSaid : Prop := fitBoundsRow.holds Try.pinned (OpenSpec.ofChange fitBoundsSpec)

/-- ITS FALSE NEIGHBOUR: 'it returns false'. Refute it at one input. -/
def fitBoundsWrong : ChangeSpec := { name := "fitBounds", fn := fun _ => fun
  | [d1, d2, d3, d4] => { results := [.lit (.bool false)], args := [d1, d2, d3, d4] }
  | _ => none }
def FitBoundsWrongFalsely : Prop := fitBoundsRow.holds Try.pinned (OpenSpec.ofChange fitBoundsWrong)

/-- 'spindlelaw34.FitZeros': WHATEVER THE INPUT: true; the input reads as it did. -/
def fitZerosSpec : ChangeSpec := { name := "fitZeros", fn := fun _ => fun
  | [d] => { results := [.lit (.bool true)], args := [d] }
  | _ => none }
def fitZerosRow : OpenClaim := { program := "ytfkmmiinlipcpaa", sum := "e13ab37e3aa62fa490658cc07a2526c01f37a921895dbcff9234c240ee82eda9", func := "spindle/spindlelaw34.FitZeros", spec := "fitZeros", unfollowed := true, recurses := true, apart := false }
def FitZerosSaid : Prop := fitZerosRow.holds Try.pinned (OpenSpec.ofChange fitZerosSpec)

/-- ITS FALSE NEIGHBOUR: 'it returns false'. Refute it at one input. -/
def fitZerosWrong : ChangeSpec := { name := "fitZeros", fn := fun _ => fun
  | [d] => { results := [.lit (.bool false)], args := [d] }
  | _ => none }
def FitZerosWrongFalsely : Prop := fitZerosRow.holds Try.pinned (OpenSpec.ofChange fitZerosWrong)

/-- 'spindlelaw34.FitWrites': WHATEVER THE INPUT: true; the input reads as it did. -/
def fitWritesSpec : ChangeSpec := { name := "fitWrites", fn := fun _ => fun
  | [d1, d2, d3] => { results := [.lit (.bool true)], args := [d1, d2, d3] }
  | _ => none }
def fitWritesRow : OpenClaim := { program := "ytfkmmiinlipcpaa", sum := "e13ab37e3aa62fa490658cc07a2526c01f37a921895dbcff9234c240ee82eda9", func := "spindle/spindlelaw34.FitWrites", spec := "fitWrites", unfollowed := true, recurses := true, apart := false }
def FitWritesSaid : Prop := fitWritesRow.holds Try.pinned (OpenSpec.ofChange fitWritesSpec)

/-- ITS FALSE NEIGHBOUR: 'it returns false'. Refute it at one input. -/
def fitWritesWrong : ChangeSpec := { name := "fitWrites", fn := fun _ => fun
  | [d1, d2, d3] => { results := [.lit (.bool false)], args := [d1, d2, d3] }
  | _ => none }
def FitWritesWrongFalsely : Prop := fitWritesRow.holds Try.pinned (OpenSpec.ofChange fitWritesWrong)

/-- 'spindlelaw20.VblockReads': WHATEVER THE INPUT: true; the input reads as it did. -/
def vblockReadsSpec : ChangeSpec := { name := "vblockReads", fn := fun _ => fun
  | [d1, d2, d3, d4] => { results := [.lit (.bool true)], args := [d1, d2, d3, d4] }
  | _ => none }
def vblockReadsRow : OpenClaim := { program := "ytfkmmiinlipcpaa", sum := "e13ab37e3aa62fa490658cc07a2526c01f37a921895dbcff9234c240ee82eda9", func := "spindle/spindlelaw20.VblockReads", spec := "vblockReads", unfollowed := true, recurses := true, apart := false }
def VblockReadsSaid : Prop := vblockReadsRow.holds Try.pinned (OpenSpec.ofChange vblockReadsSpec)

/-- ITS FALSE NEIGHBOUR: 'it returns false'. Refute it at one input. -/
def vblockReadsWrong : ChangeSpec := { name := "vblockReads", fn := fun _ => fun
  | [d1, d2, d3, d4] => { results := [.lit (.bool false)], args := [d1, d2, d3, d4] }
  | _ => none }
def VblockReadsWrongFalsely : Prop := vblockReadsRow.holds Try.pinned (OpenSpec.ofChange vblockReadsWrong)

/-- 'spindlelaw20.VblockLengths': WHATEVER THE INPUT: true; the input reads as it did. -/
def vblockLengthsSpec : ChangeSpec := { name := "vblockLengths", fn := fun _ => fun
  | [d1, d2, d3] => { results := [.lit (.bool true)], args := [d1, d2, d3] }
  | _ => none }
def vblockLengthsRow : OpenClaim := { program := "ytfkmmiinlipcpaa", sum := "e13ab37e3aa62fa490658cc07a2526c01f37a921895dbcff9234c240ee82eda9", func := "spindle/spindlelaw20.VblockLengths", spec := "vblockLengths", unfollowed := true, recurses := true, apart := false }
def VblockLengthsSaid : Prop := vblockLengthsRow.holds Try.pinned (OpenSpec.ofChange vblockLengthsSpec)

/-- ITS FALSE NEIGHBOUR: 'it returns false'. Refute it at one input. -/
def vblockLengthsWrong : ChangeSpec := { name := "vblockLengths", fn := fun _ => fun
  | [d1, d2, d3] => { results := [.lit (.bool false)], args := [d1, d2, d3] }
  | _ => none }
def VblockLengthsWrongFalsely : Prop := vblockLengthsRow.holds Try.pinned (OpenSpec.ofChange vblockLengthsWrong)

/-- 'spindlelaw20.VblockApart': WHATEVER THE INPUT: true; the input reads as it did. -/
def vblockApartSpec : ChangeSpec := { name := "vblockApart", fn := fun _ => fun
  | [d1, d2, d3, d4] => { results := [.lit (.bool true)], args := [d1, d2, d3, d4] }
  | _ => none }
def vblockApartRow : OpenClaim := { program := "ytfkmmiinlipcpaa", sum := "e13ab37e3aa62fa490658cc07a2526c01f37a921895dbcff9234c240ee82eda9", func := "spindle/spindlelaw20.VblockApart", spec := "vblockApart", unfollowed := true, recurses := true, apart := false }
def VblockApartSaid : Prop := vblockApartRow.holds Try.pinned (OpenSpec.ofChange vblockApartSpec)

/-- ITS FALSE NEIGHBOUR: 'it returns false'. Refute it at one input. -/
def vblockApartWrong : ChangeSpec := { name := "vblockApart", fn := fun _ => fun
  | [d1, d2, d3, d4] => { results := [.lit (.bool false)], args := [d1, d2, d3, d4] }
  | _ => none }
def VblockApartWrongFalsely : Prop := vblockApartRow.holds Try.pinned (OpenSpec.ofChange vblockApartWrong)

/-- 'spindlelaw20.VblockWrites': WHATEVER THE INPUT: true; the input reads as it did. -/
def vblockWritesSpec : ChangeSpec := { name := "vblockWrites", fn := fun _ => fun
  | [d1, d2] => { results := [.lit (.bool true)], args := [d1, d2] }
  | _ => none }
def vblockWritesRow : OpenClaim := { program := "ytfkmmiinlipcpaa", sum := "e13ab37e3aa62fa490658cc07a2526c01f37a921895dbcff9234c240ee82eda9", func := "spindle/spindlelaw20.VblockWrites", spec := "vblockWrites", unfollowed := true, recurses := true, apart := false }
def VblockWritesSaid : Prop := vblockWritesRow.holds Try.pinned (OpenSpec.ofChange vblockWritesSpec)

/-- ITS FALSE NEIGHBOUR: 'it returns false'. Refute it at one input. -/
def vblockWritesWrong : ChangeSpec := { name := "vblockWrites", fn := fun _ => fun
  | [d1, d2] => { results := [.lit (.bool false)], args := [d1, d2] }
  | _ => none }
def VblockWritesWrongFalsely : Prop := vblockWritesRow.holds Try.pinned (OpenSpec.ofChange vblockWritesWrong)

/-- 'spindlelaw20.VblockBack': WHATEVER THE INPUT: true; the input reads as it did. -/
def vblockBackSpec : ChangeSpec := { name := "vblockBack", fn := fun _ => fun
  | [d1, d2, d3, d4] => { results := [.lit (.bool true)], args := [d1, d2, d3, d4] }
  | _ => none }
def vblockBackRow : OpenClaim := { program := "ytfkmmiinlipcpaa", sum := "e13ab37e3aa62fa490658cc07a2526c01f37a921895dbcff9234c240ee82eda9", func := "spindle/spindlelaw20.VblockBack", spec := "vblockBack", unfollowed := true, recurses := true, apart := false }
def VblockBackSaid : Prop := vblockBackRow.holds Try.pinned (OpenSpec.ofChange vblockBackSpec)

/-- ITS FALSE NEIGHBOUR: 'it returns false'. Refute it at one input. -/
def vblockBackWrong : ChangeSpec := { name := "vblockBack", fn := fun _ => fun
  | [d1, d2, d3, d4] => { results := [.lit (.bool false)], args := [d1, d2, d3, d4] }
  | _ => none }
def VblockBackWrongFalsely : Prop := vblockBackRow.holds Try.pinned (OpenSpec.ofChange vblockBackWrong)

/-- 'spindlelaw20.VblockAgain': WHATEVER THE INPUT: true; the input reads as it did. -/
def vblockAgainSpec : ChangeSpec := { name := "vblockAgain", fn := fun _ => fun
  | [d1, d2, d3] => { results := [.lit (.bool true)], args := [d1, d2, d3] }
  | _ => none }
def vblockAgainRow : OpenClaim := { program := "ytfkmmiinlipcpaa", sum := "e13ab37e3aa62fa490658cc07a2526c01f37a921895dbcff9234c240ee82eda9", func := "spindle/spindlelaw20.VblockAgain", spec := "vblockAgain", unfollowed := true, recurses := true, apart := false }
def VblockAgainSaid : Prop := vblockAgainRow.holds Try.pinned (OpenSpec.ofChange vblockAgainSpec)

/-- ITS FALSE NEIGHBOUR: 'it returns false'. Refute it at one input. -/
def vblockAgainWrong : ChangeSpec := { name := "vblockAgain", fn := fun _ => fun
  | [d1, d2, d3] => { results := [.lit (.bool false)], args := [d1, d2, d3] }
  | _ => none }
def VblockAgainWrongFalsely : Prop := vblockAgainRow.holds Try.pinned (OpenSpec.ofChange vblockAgainWrong)

/-- 'spindlelaw20.VblockFits': WHATEVER THE INPUT: true; the input reads as it did. -/
def vblockFitsSpec : ChangeSpec := { name := "vblockFits", fn := fun _ => fun
  | [d1, d2] => { results := [.lit (.bool true)], args := [d1, d2] }
  | _ => none }
def vblockFitsRow : OpenClaim := { program := "ytfkmmiinlipcpaa", sum := "e13ab37e3aa62fa490658cc07a2526c01f37a921895dbcff9234c240ee82eda9", func := "spindle/spindlelaw20.VblockFits", spec := "vblockFits", unfollowed := true, recurses := true, apart := false }
def VblockFitsSaid : Prop := vblockFitsRow.holds Try.pinned (OpenSpec.ofChange vblockFitsSpec)

/-- ITS FALSE NEIGHBOUR: 'it returns false'. Refute it at one input. -/
def vblockFitsWrong : ChangeSpec := { name := "vblockFits", fn := fun _ => fun
  | [d1, d2] => { results := [.lit (.bool false)], args := [d1, d2] }
  | _ => none }
def VblockFitsWrongFalsely : Prop := vblockFitsRow.holds Try.pinned (OpenSpec.ofChange vblockFitsWrong)

/- THE SECOND FORM. 'bulk': how many values and letters a reading holds, each counted each time it is reached (what is shared counts as often as it is met; a slice's spare places count too). A statement '..UptoSaid' is the law's where the arguments, and the package variables that the reading takes, are together of bulk at most 1048576: NARROWER than '..Said'. Prove '..Said' where nothing that the law and all that it calls make is longer than what came in: it says more and counts as full. Else prove '..UptoSaid'. A law counts once. -/
mutual
def uptoBulk {H : Type} : DataW H → Nat
  | .lit (.string bytes) => bytes.length + 1
  | .lit _ => 1
  | .nil => 1
  | .ptr d => uptoBulk d + 1
  | .slice elems spare => uptoBulkAll elems + uptoBulkAll spare + 1
  | .agg parts => uptoBulkAll parts + 1
  | .iface _ d => uptoBulk d + 1
  | .map entries => uptoBulkEntries entries + 1
  | .held _ => 1
def uptoBulkAll {H : Type} : List (DataW H) → Nat
  | [] => 0
  | d :: r => uptoBulk d + uptoBulkAll r
def uptoBulkEntries {H : Type} : List (Lit × DataW H) → Nat
  | [] => 0
  | x :: r => uptoBulkEntry x + uptoBulkEntries r
def uptoBulkEntry {H : Type} : Lit × DataW H → Nat
  | (.string bytes, d) => bytes.length + uptoBulk d + 1
  | (_, d) => uptoBulk d + 1
 end
def uptoSmall : (H : Type) → List (DataW H) → Bool := fun _ ds => decide (uptoBulkAll ds ≤ 1048576)
def OpenSpec.upto (s : _root_.Go.ChangeSpec) : _root_.Go.OpenSpec := { _root_.Go.OpenSpec.ofChange s with cond := some uptoSmall }

/-- 'spindlelaw18.VlcPairs', WHERE WHAT IT READS IS OF BULK AT MOST 1048576: true; the input reads as it did. -/
def vlcPairsUptoRow : OpenClaim := { program := "ytfkmmiinlipcpaa", sum := "e13ab37e3aa62fa490658cc07a2526c01f37a921895dbcff9234c240ee82eda9", func := "spindle/spindlelaw18.VlcPairs", spec := "vlcPairs", unfollowed := true, recurses := true, apart := false, narrowed := true }
def VlcPairsUptoSaid : Prop := vlcPairsUptoRow.holds Try.pinned (OpenSpec.upto vlcPairsSpec)

/-- 'spindlelaw18.VlcNumbers', WHERE WHAT IT READS IS OF BULK AT MOST 1048576: true; the input reads as it did. -/
def vlcNumbersUptoRow : OpenClaim := { program := "ytfkmmiinlipcpaa", sum := "e13ab37e3aa62fa490658cc07a2526c01f37a921895dbcff9234c240ee82eda9", func := "spindle/spindlelaw18.VlcNumbers", spec := "vlcNumbers", unfollowed := true, recurses := true, apart := false, narrowed := true }
def VlcNumbersUptoSaid : Prop := vlcNumbersUptoRow.holds Try.pinned (OpenSpec.upto vlcNumbersSpec)

/-- 'spindlelaw18.VlcWrites', WHERE WHAT IT READS IS OF BULK AT MOST 1048576: true; the input reads as it did. -/
def vlcWritesUptoRow : OpenClaim := { program := "ytfkmmiinlipcpaa", sum := "e13ab37e3aa62fa490658cc07a2526c01f37a921895dbcff9234c240ee82eda9", func := "spindle/spindlelaw18.VlcWrites", spec := "vlcWrites", unfollowed := true, recurses := true, apart := false, narrowed := true }
def VlcWritesUptoSaid : Prop := vlcWritesUptoRow.holds Try.pinned (OpenSpec.upto vlcWritesSpec)

/-- 'spindlelaw18.VlcApart', WHERE WHAT IT READS IS OF BULK AT MOST 1048576: true; the input reads as it did. -/
def vlcApartUptoRow : OpenClaim := { program := "ytfkmmiinlipcpaa", sum := "e13ab37e3aa62fa490658cc07a2526c01f37a921895dbcff9234c240ee82eda9", func := "spindle/spindlelaw18.VlcApart", spec := "vlcApart", unfollowed := true, recurses := true, apart := false, narrowed := true }
def VlcApartUptoSaid : Prop := vlcApartUptoRow.holds Try.pinned (OpenSpec.upto vlcApartSpec)

/-- 'spindlelaw18.VlcLengths', WHERE WHAT IT READS IS OF BULK AT MOST 1048576: true; the input reads as it did. -/
def vlcLengthsUptoRow : OpenClaim := { program := "ytfkmmiinlipcpaa", sum := "e13ab37e3aa62fa490658cc07a2526c01f37a921895dbcff9234c240ee82eda9", func := "spindle/spindlelaw18.VlcLengths", spec := "vlcLengths", unfollowed := true, recurses := true, apart := false, narrowed := true }
def VlcLengthsUptoSaid : Prop := vlcLengthsUptoRow.holds Try.pinned (OpenSpec.upto vlcLengthsSpec)

/-- 'spindlelaw18.VlcComplete', WHERE WHAT IT READS IS OF BULK AT MOST 1048576: true; the input reads as it did. -/
def vlcCompleteUptoRow : OpenClaim := { program := "ytfkmmiinlipcpaa", sum := "e13ab37e3aa62fa490658cc07a2526c01f37a921895dbcff9234c240ee82eda9", func := "spindle/spindlelaw18.VlcComplete", spec := "vlcComplete", unfollowed := true, recurses := true, apart := false, narrowed := true }
def VlcCompleteUptoSaid : Prop := vlcCompleteUptoRow.holds Try.pinned (OpenSpec.upto vlcCompleteSpec)

/-- 'spindlelaw18.VlcReads', WHERE WHAT IT READS IS OF BULK AT MOST 1048576: true; the input reads as it did. -/
def vlcReadsUptoRow : OpenClaim := { program := "ytfkmmiinlipcpaa", sum := "e13ab37e3aa62fa490658cc07a2526c01f37a921895dbcff9234c240ee82eda9", func := "spindle/spindlelaw18.VlcReads", spec := "vlcReads", unfollowed := true, recurses := true, apart := false, narrowed := true }
def VlcReadsUptoSaid : Prop := vlcReadsUptoRow.holds Try.pinned (OpenSpec.upto vlcReadsSpec)

/-- 'spindlelaw18.VlcBack', WHERE WHAT IT READS IS OF BULK AT MOST 1048576: true; the input reads as it did. -/
def vlcBackUptoRow : OpenClaim := { program := "ytfkmmiinlipcpaa", sum := "e13ab37e3aa62fa490658cc07a2526c01f37a921895dbcff9234c240ee82eda9", func := "spindle/spindlelaw18.VlcBack", spec := "vlcBack", unfollowed := true, recurses := true, apart := false, narrowed := true }
def VlcBackUptoSaid : Prop := vlcBackUptoRow.holds Try.pinned (OpenSpec.upto vlcBackSpec)

/-- 'spindlelaw34.FitBlocks', WHERE WHAT IT READS IS OF BULK AT MOST 1048576: true; the input reads as it did. -/
def fitBlocksUptoRow : OpenClaim := { program := "ytfkmmiinlipcpaa", sum := "e13ab37e3aa62fa490658cc07a2526c01f37a921895dbcff9234c240ee82eda9", func := "spindle/spindlelaw34.FitBlocks", spec := "fitBlocks", unfollowed := true, recurses := true, apart := false, narrowed := true }
def FitBlocksUptoSaid : Prop := fitBlocksUptoRow.holds Try.pinned (OpenSpec.upto fitBlocksSpec)

/-- 'spindlelaw34.FitBounds', WHERE WHAT IT READS IS OF BULK AT MOST 1048576: true; the input reads as it did. -/
def fitBoundsUptoRow : OpenClaim := { program := "ytfkmmiinlipcpaa", sum := "e13ab37e3aa62fa490658cc07a2526c01f37a921895dbcff9234c240ee82eda9", func := "spindle/spindlelaw34.FitBounds", spec := "fitBounds", unfollowed := true, recurses := true, apart := false, narrowed := true }
def FitBoundsUptoSaid : Prop := fitBoundsUptoRow.holds Try.pinned (OpenSpec.upto fitBoundsSpec)

/-- 'spindlelaw34.FitZeros', WHERE WHAT IT READS IS OF BULK AT MOST 1048576: true; the input reads as it did. -/
def fitZerosUptoRow : OpenClaim := { program := "ytfkmmiinlipcpaa", sum := "e13ab37e3aa62fa490658cc07a2526c01f37a921895dbcff9234c240ee82eda9", func := "spindle/spindlelaw34.FitZeros", spec := "fitZeros", unfollowed := true, recurses := true, apart := false, narrowed := true }
def FitZerosUptoSaid : Prop := fitZerosUptoRow.holds Try.pinned (OpenSpec.upto fitZerosSpec)

/-- 'spindlelaw34.FitWrites', WHERE WHAT IT READS IS OF BULK AT MOST 1048576: true; the input reads as it did. -/
def fitWritesUptoRow : OpenClaim := { program := "ytfkmmiinlipcpaa", sum := "e13ab37e3aa62fa490658cc07a2526c01f37a921895dbcff9234c240ee82eda9", func := "spindle/spindlelaw34.FitWrites", spec := "fitWrites", unfollowed := true, recurses := true, apart := false, narrowed := true }
def FitWritesUptoSaid : Prop := fitWritesUptoRow.holds Try.pinned (OpenSpec.upto fitWritesSpec)

/-- 'spindlelaw20.VblockReads', WHERE WHAT IT READS IS OF BULK AT MOST 1048576: true; the input reads as it did. -/
def vblockReadsUptoRow : OpenClaim := { program := "ytfkmmiinlipcpaa", sum := "e13ab37e3aa62fa490658cc07a2526c01f37a921895dbcff9234c240ee82eda9", func := "spindle/spindlelaw20.VblockReads", spec := "vblockReads", unfollowed := true, recurses := true, apart := false, narrowed := true }
def VblockReadsUptoSaid : Prop := vblockReadsUptoRow.holds Try.pinned (OpenSpec.upto vblockReadsSpec)

/-- 'spindlelaw20.VblockLengths', WHERE WHAT IT READS IS OF BULK AT MOST 1048576: true; the input reads as it did. -/
def vblockLengthsUptoRow : OpenClaim := { program := "ytfkmmiinlipcpaa", sum := "e13ab37e3aa62fa490658cc07a2526c01f37a921895dbcff9234c240ee82eda9", func := "spindle/spindlelaw20.VblockLengths", spec := "vblockLengths", unfollowed := true, recurses := true, apart := false, narrowed := true }
def VblockLengthsUptoSaid : Prop := vblockLengthsUptoRow.holds Try.pinned (OpenSpec.upto vblockLengthsSpec)

/-- 'spindlelaw20.VblockApart', WHERE WHAT IT READS IS OF BULK AT MOST 1048576: true; the input reads as it did. -/
def vblockApartUptoRow : OpenClaim := { program := "ytfkmmiinlipcpaa", sum := "e13ab37e3aa62fa490658cc07a2526c01f37a921895dbcff9234c240ee82eda9", func := "spindle/spindlelaw20.VblockApart", spec := "vblockApart", unfollowed := true, recurses := true, apart := false, narrowed := true }
def VblockApartUptoSaid : Prop := vblockApartUptoRow.holds Try.pinned (OpenSpec.upto vblockApartSpec)

/-- 'spindlelaw20.VblockWrites', WHERE WHAT IT READS IS OF BULK AT MOST 1048576: true; the input reads as it did. -/
def vblockWritesUptoRow : OpenClaim := { program := "ytfkmmiinlipcpaa", sum := "e13ab37e3aa62fa490658cc07a2526c01f37a921895dbcff9234c240ee82eda9", func := "spindle/spindlelaw20.VblockWrites", spec := "vblockWrites", unfollowed := true, recurses := true, apart := false, narrowed := true }
def VblockWritesUptoSaid : Prop := vblockWritesUptoRow.holds Try.pinned (OpenSpec.upto vblockWritesSpec)

/-- 'spindlelaw20.VblockBack', WHERE WHAT IT READS IS OF BULK AT MOST 1048576: true; the input reads as it did. -/
def vblockBackUptoRow : OpenClaim := { program := "ytfkmmiinlipcpaa", sum := "e13ab37e3aa62fa490658cc07a2526c01f37a921895dbcff9234c240ee82eda9", func := "spindle/spindlelaw20.VblockBack", spec := "vblockBack", unfollowed := true, recurses := true, apart := false, narrowed := true }
def VblockBackUptoSaid : Prop := vblockBackUptoRow.holds Try.pinned (OpenSpec.upto vblockBackSpec)

/-- 'spindlelaw20.VblockAgain', WHERE WHAT IT READS IS OF BULK AT MOST 1048576: true; the input reads as it did. -/
def vblockAgainUptoRow : OpenClaim := { program := "ytfkmmiinlipcpaa", sum := "e13ab37e3aa62fa490658cc07a2526c01f37a921895dbcff9234c240ee82eda9", func := "spindle/spindlelaw20.VblockAgain", spec := "vblockAgain", unfollowed := true, recurses := true, apart := false, narrowed := true }
def VblockAgainUptoSaid : Prop := vblockAgainUptoRow.holds Try.pinned (OpenSpec.upto vblockAgainSpec)

/-- 'spindlelaw20.VblockFits', WHERE WHAT IT READS IS OF BULK AT MOST 1048576: true; the input reads as it did. -/
def vblockFitsUptoRow : OpenClaim := { program := "ytfkmmiinlipcpaa", sum := "e13ab37e3aa62fa490658cc07a2526c01f37a921895dbcff9234c240ee82eda9", func := "spindle/spindlelaw20.VblockFits", spec := "vblockFits", unfollowed := true, recurses := true, apart := false, narrowed := true }
def VblockFitsUptoSaid : Prop := vblockFitsUptoRow.holds Try.pinned (OpenSpec.upto vblockFitsSpec)

end Rows
end Go.Proofs.Ytfkmmiinlipcpaa
