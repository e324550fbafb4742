/-
  DERIVED. GIVEN WITH THE SEED: THE CARDS: each row of YtjhgcajppicblaaGreatDoorRows.lean that lists a variable, with what it lists TIED to the program's text (the seventh form; the later family's looks); each row that meets fmt, with fmt's text TOLD by the authors' own Lean function (tested against real Go, not proved from fmt's source: count such statements apart). THE CARD IS WHAT COUNTS. Prove the row's statement (the work); the ties are given (YtjhgcajppicblaaGreatDoorTie.lean); close each card by the builder's one call (the guide's Derived/Test/ToyasCard.lean, 'card_holds'). Laid BY PROGRAM, IN A SANDBOX (cutbox-door.mjs). By AI agents, Wed Nov 11 2026. No macro, syntax, notation, axiom, sorry.
-/
import Derived.Test.YtjhgcajppicblaaGreatDoorRows
import GoSem.ClaimSeven
namespace Go.Proofs.YtjhgcajppicblaaGreatDoor
namespace Rows

/-- THE TIED CARD OF 'spindlelaw21.VmbExamples'. -/
def vmbExamplesCard : Claim7 := { stood := { row := vmbExamplesRow, standIns := [], harness := (true, "3fe8eed0c118e415c9b1fa6b24b5b32d7cf5c87317a3632bc6215468e9743f91"), looks := false }, kinds := [], alts := [], laidByText := true, laidKinds := [.data, .data], laidTests := true, laidLooks := .later }
def VmbExamplesCardSaid : Prop := Claim7.holds Tryz.pinned (.plain (OpenSpec.ofChange vmbExamplesSpec)) vmbExamplesCard

/-- THE TIED CARD OF 'spindlelaw22.VsliceExamples'. -/
def vsliceExamplesCard : Claim7 := { stood := { row := vsliceExamplesRow, standIns := [], harness := (true, "3fe8eed0c118e415c9b1fa6b24b5b32d7cf5c87317a3632bc6215468e9743f91"), looks := false }, kinds := [], alts := [], laidByText := true, laidKinds := [.data, .data], laidTests := true, laidLooks := .later }
def VsliceExamplesCardSaid : Prop := Claim7.holds Tryz.pinned (.plain (OpenSpec.ofChange vsliceExamplesSpec)) vsliceExamplesCard

/-- THE SECOND FORM's CARD OF 'spindlelaw21.VmbExamples'. -/
def vmbExamplesUptoCard : Claim7 := { stood := { row := vmbExamplesUptoRow, standIns := [], harness := (true, "3fe8eed0c118e415c9b1fa6b24b5b32d7cf5c87317a3632bc6215468e9743f91"), looks := false }, kinds := [], alts := [], laidByText := true, laidKinds := [.data, .data], laidTests := true, laidLooks := .later }
def VmbExamplesUptoCardSaid : Prop := Claim7.holds Tryz.pinned (.plain (OpenSpec.upto vmbExamplesSpec)) vmbExamplesUptoCard

/-- THE SECOND FORM's CARD OF 'spindlelaw22.VsliceExamples'. -/
def vsliceExamplesUptoCard : Claim7 := { stood := { row := vsliceExamplesUptoRow, standIns := [], harness := (true, "3fe8eed0c118e415c9b1fa6b24b5b32d7cf5c87317a3632bc6215468e9743f91"), looks := false }, kinds := [], alts := [], laidByText := true, laidKinds := [.data, .data], laidTests := true, laidLooks := .later }
def VsliceExamplesUptoCardSaid : Prop := Claim7.holds Tryz.pinned (.plain (OpenSpec.upto vsliceExamplesSpec)) vsliceExamplesUptoCard
end Rows
end Go.Proofs.YtjhgcajppicblaaGreatDoor
