/-
  DERIVED. GIVEN WITH THE SEED: THE CARDS: each row of YtbmcdphiolidkaaDoorRows.lean that lists a variable, with what it lists TIED to the program's text (the seventh form; the later family's looks); each row that meets fmt, with fmt's text TOLD by the authors' own Lean function (tested against real Go, not proved from fmt's source: count such statements apart). THE CARD IS WHAT COUNTS. Prove the row's statement (the work); the ties are given (YtbmcdphiolidkaaDoorTie.lean); close each card by the builder's one call (the guide's Derived/Test/ToyasCard.lean, 'card_holds'). Laid BY PROGRAM, IN A SANDBOX (cutbox-door.mjs). By AI agents, Wed Nov 11 2026. No macro, syntax, notation, axiom, sorry.
-/
import Derived.Test.YtbmcdphiolidkaaDoorRows
import GoSem.ClaimSeven
namespace Go.Proofs.YtbmcdphiolidkaaDoor
namespace Rows

/-- THE TIED CARD OF 'spindlelaw16.IncMoves'. -/
def incMovesCard : Claim7 := { stood := { row := incMovesRow, standIns := [], harness := (true, "d7babe9293344820591259cca82ee6c8f9ee1bba4c51767b8e79f76fab38e311"), looks := false }, kinds := [], alts := [], laidByText := true, laidKinds := [.data], laidTests := true, laidLooks := .later }
def IncMovesCardSaid : Prop := Claim7.holds Tryd.pinned (.plain (OpenSpec.ofChange incMovesSpec)) incMovesCard

/-- THE TIED CARD OF 'spindlelaw16.IncSigns'. -/
def incSignsCard : Claim7 := { stood := { row := incSignsRow, standIns := [], harness := (true, "d7babe9293344820591259cca82ee6c8f9ee1bba4c51767b8e79f76fab38e311"), looks := false }, kinds := [], alts := [], laidByText := true, laidKinds := [.data], laidTests := true, laidLooks := .later }
def IncSignsCardSaid : Prop := Claim7.holds Tryd.pinned (.plain (OpenSpec.ofChange incSignsSpec)) incSignsCard

/-- THE TIED CARD OF 'spindlelaw16.IncBlind'. -/
def incBlindCard : Claim7 := { stood := { row := incBlindRow, standIns := [], harness := (true, "d7babe9293344820591259cca82ee6c8f9ee1bba4c51767b8e79f76fab38e311"), looks := false }, kinds := [], alts := [], laidByText := true, laidKinds := [.data], laidTests := true, laidLooks := .later }
def IncBlindCardSaid : Prop := Claim7.holds Tryd.pinned (.plain (OpenSpec.ofChange incBlindSpec)) incBlindCard

/-- THE SECOND FORM's CARD OF 'spindlelaw16.IncMoves'. -/
def incMovesUptoCard : Claim7 := { stood := { row := incMovesUptoRow, standIns := [], harness := (true, "d7babe9293344820591259cca82ee6c8f9ee1bba4c51767b8e79f76fab38e311"), looks := false }, kinds := [], alts := [], laidByText := true, laidKinds := [.data], laidTests := true, laidLooks := .later }
def IncMovesUptoCardSaid : Prop := Claim7.holds Tryd.pinned (.plain (OpenSpec.upto incMovesSpec)) incMovesUptoCard

/-- THE SECOND FORM's CARD OF 'spindlelaw16.IncSigns'. -/
def incSignsUptoCard : Claim7 := { stood := { row := incSignsUptoRow, standIns := [], harness := (true, "d7babe9293344820591259cca82ee6c8f9ee1bba4c51767b8e79f76fab38e311"), looks := false }, kinds := [], alts := [], laidByText := true, laidKinds := [.data], laidTests := true, laidLooks := .later }
def IncSignsUptoCardSaid : Prop := Claim7.holds Tryd.pinned (.plain (OpenSpec.upto incSignsSpec)) incSignsUptoCard

/-- THE SECOND FORM's CARD OF 'spindlelaw16.IncBlind'. -/
def incBlindUptoCard : Claim7 := { stood := { row := incBlindUptoRow, standIns := [], harness := (true, "d7babe9293344820591259cca82ee6c8f9ee1bba4c51767b8e79f76fab38e311"), looks := false }, kinds := [], alts := [], laidByText := true, laidKinds := [.data], laidTests := true, laidLooks := .later }
def IncBlindUptoCardSaid : Prop := Claim7.holds Tryd.pinned (.plain (OpenSpec.upto incBlindSpec)) incBlindUptoCard
end Rows
end Go.Proofs.YtbmcdphiolidkaaDoor
