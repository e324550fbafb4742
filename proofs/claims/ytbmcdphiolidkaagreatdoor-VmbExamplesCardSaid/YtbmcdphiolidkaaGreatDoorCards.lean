/-
  DERIVED. GIVEN WITH THE SEED: THE CARDS: each row of YtbmcdphiolidkaaGreatDoorRows.lean that lists a variable, with what it lists TIED to the program's text (the seventh form; the later family's looks); each row that meets fmt, with fmt's text TOLD by the authors' own Lean function (tested against real Go, not proved from fmt's source: count such statements apart). THE CARD IS WHAT COUNTS. Prove the row's statement (the work); the ties are given (YtbmcdphiolidkaaGreatDoorTie.lean); close each card by the builder's one call (the guide's Derived/Test/ToyasCard.lean, 'card_holds'). Laid BY PROGRAM, IN A SANDBOX (cutbox-door.mjs). By AI agents, Wed Nov 11 2026. No macro, syntax, notation, axiom, sorry.
-/
import Derived.Test.YtbmcdphiolidkaaGreatDoorRows
import GoSem.ClaimSeven
namespace Go.Proofs.YtbmcdphiolidkaaGreatDoor
namespace Rows

/-- THE TIED CARD OF 'spindlelaw22.VsliceOne'. -/
def vsliceOneCard : Claim7 := { stood := { row := vsliceOneRow, standIns := [], harness := (true, "7418da4b11740ddfbf63b38dcf9f9e59eefe84f53bdee1d7c1d491036b7b47f3"), looks := false }, kinds := [], alts := [], laidByText := true, laidKinds := [.data, .data], laidTests := true, laidLooks := .later }
def VsliceOneCardSaid : Prop := Claim7.holds Tryz.pinned (.plain (OpenSpec.ofChange vsliceOneSpec)) vsliceOneCard

/-- THE TIED CARD OF 'spindlelaw22.VsliceShorter'. -/
def vsliceShorterCard : Claim7 := { stood := { row := vsliceShorterRow, standIns := [], harness := (true, "7418da4b11740ddfbf63b38dcf9f9e59eefe84f53bdee1d7c1d491036b7b47f3"), looks := false }, kinds := [], alts := [], laidByText := true, laidKinds := [.data, .data], laidTests := true, laidLooks := .later }
def VsliceShorterCardSaid : Prop := Claim7.holds Tryz.pinned (.plain (OpenSpec.ofChange vsliceShorterSpec)) vsliceShorterCard

/-- THE TIED CARD OF 'spindlelaw21.VmbExamples'. -/
def vmbExamplesCard : Claim7 := { stood := { row := vmbExamplesRow, standIns := [], harness := (true, "7418da4b11740ddfbf63b38dcf9f9e59eefe84f53bdee1d7c1d491036b7b47f3"), looks := false }, kinds := [], alts := [], laidByText := true, laidKinds := [.data, .data], laidTests := true, laidLooks := .later }
def VmbExamplesCardSaid : Prop := Claim7.holds Tryz.pinned (.plain (OpenSpec.ofChange vmbExamplesSpec)) vmbExamplesCard

/-- THE TIED CARD OF 'spindlelaw21.VmbReads'. -/
def vmbReadsCard : Claim7 := { stood := { row := vmbReadsRow, standIns := [], harness := (true, "7418da4b11740ddfbf63b38dcf9f9e59eefe84f53bdee1d7c1d491036b7b47f3"), looks := false }, kinds := [], alts := [], laidByText := true, laidKinds := [.data, .data], laidTests := true, laidLooks := .later }
def VmbReadsCardSaid : Prop := Claim7.holds Tryz.pinned (.plain (OpenSpec.ofChange vmbReadsSpec)) vmbReadsCard

/-- THE TIED CARD OF 'spindlelaw21.VmbWrites'. -/
def vmbWritesCard : Claim7 := { stood := { row := vmbWritesRow, standIns := [], harness := (true, "7418da4b11740ddfbf63b38dcf9f9e59eefe84f53bdee1d7c1d491036b7b47f3"), looks := false }, kinds := [], alts := [], laidByText := true, laidKinds := [.data, .data], laidTests := true, laidLooks := .later }
def VmbWritesCardSaid : Prop := Claim7.holds Tryz.pinned (.plain (OpenSpec.ofChange vmbWritesSpec)) vmbWritesCard

/-- THE TIED CARD OF 'spindlelaw21.VmbBack'. -/
def vmbBackCard : Claim7 := { stood := { row := vmbBackRow, standIns := [], harness := (true, "7418da4b11740ddfbf63b38dcf9f9e59eefe84f53bdee1d7c1d491036b7b47f3"), looks := false }, kinds := [], alts := [], laidByText := true, laidKinds := [.data, .data], laidTests := true, laidLooks := .later }
def VmbBackCardSaid : Prop := Claim7.holds Tryz.pinned (.plain (OpenSpec.ofChange vmbBackSpec)) vmbBackCard

/-- THE TIED CARD OF 'spindlelaw21.VmbAgain'. -/
def vmbAgainCard : Claim7 := { stood := { row := vmbAgainRow, standIns := [], harness := (true, "7418da4b11740ddfbf63b38dcf9f9e59eefe84f53bdee1d7c1d491036b7b47f3"), looks := false }, kinds := [], alts := [], laidByText := true, laidKinds := [.data, .data], laidTests := true, laidLooks := .later }
def VmbAgainCardSaid : Prop := Claim7.holds Tryz.pinned (.plain (OpenSpec.ofChange vmbAgainSpec)) vmbAgainCard

/-- THE TIED CARD OF 'spindlelaw21.VmbApart'. -/
def vmbApartCard : Claim7 := { stood := { row := vmbApartRow, standIns := [], harness := (true, "7418da4b11740ddfbf63b38dcf9f9e59eefe84f53bdee1d7c1d491036b7b47f3"), looks := false }, kinds := [], alts := [], laidByText := true, laidKinds := [.data, .data], laidTests := true, laidLooks := .later }
def VmbApartCardSaid : Prop := Claim7.holds Tryz.pinned (.plain (OpenSpec.ofChange vmbApartSpec)) vmbApartCard

/-- THE TIED CARD OF 'spindlelaw21.VmbPlaces'. -/
def vmbPlacesCard : Claim7 := { stood := { row := vmbPlacesRow, standIns := [], harness := (true, "7418da4b11740ddfbf63b38dcf9f9e59eefe84f53bdee1d7c1d491036b7b47f3"), looks := false }, kinds := [], alts := [], laidByText := true, laidKinds := [.data, .data], laidTests := true, laidLooks := .later }
def VmbPlacesCardSaid : Prop := Claim7.holds Tryz.pinned (.plain (OpenSpec.ofChange vmbPlacesSpec)) vmbPlacesCard

/-- THE TIED CARD OF 'spindlelaw21.VmbPcm'. -/
def vmbPcmCard : Claim7 := { stood := { row := vmbPcmRow, standIns := [], harness := (true, "7418da4b11740ddfbf63b38dcf9f9e59eefe84f53bdee1d7c1d491036b7b47f3"), looks := false }, kinds := [], alts := [], laidByText := true, laidKinds := [.data, .data], laidTests := true, laidLooks := .later }
def VmbPcmCardSaid : Prop := Claim7.holds Tryz.pinned (.plain (OpenSpec.ofChange vmbPcmSpec)) vmbPcmCard

/-- THE TIED CARD OF 'spindlelaw22.VsliceReads'. -/
def vsliceReadsCard : Claim7 := { stood := { row := vsliceReadsRow, standIns := [], harness := (true, "7418da4b11740ddfbf63b38dcf9f9e59eefe84f53bdee1d7c1d491036b7b47f3"), looks := false }, kinds := [], alts := [], laidByText := true, laidKinds := [.data, .data], laidTests := true, laidLooks := .later }
def VsliceReadsCardSaid : Prop := Claim7.holds Tryz.pinned (.plain (OpenSpec.ofChange vsliceReadsSpec)) vsliceReadsCard

/-- THE TIED CARD OF 'spindlelaw22.VsliceBack'. -/
def vsliceBackCard : Claim7 := { stood := { row := vsliceBackRow, standIns := [], harness := (true, "7418da4b11740ddfbf63b38dcf9f9e59eefe84f53bdee1d7c1d491036b7b47f3"), looks := false }, kinds := [], alts := [], laidByText := true, laidKinds := [.data, .data], laidTests := true, laidLooks := .later }
def VsliceBackCardSaid : Prop := Claim7.holds Tryz.pinned (.plain (OpenSpec.ofChange vsliceBackSpec)) vsliceBackCard

/-- THE TIED CARD OF 'spindlelaw22.VsliceWrites'. -/
def vsliceWritesCard : Claim7 := { stood := { row := vsliceWritesRow, standIns := [], harness := (true, "7418da4b11740ddfbf63b38dcf9f9e59eefe84f53bdee1d7c1d491036b7b47f3"), looks := false }, kinds := [], alts := [], laidByText := true, laidKinds := [.data, .data], laidTests := true, laidLooks := .later }
def VsliceWritesCardSaid : Prop := Claim7.holds Tryz.pinned (.plain (OpenSpec.ofChange vsliceWritesSpec)) vsliceWritesCard

/-- THE TIED CARD OF 'spindlelaw22.VsliceAgain'. -/
def vsliceAgainCard : Claim7 := { stood := { row := vsliceAgainRow, standIns := [], harness := (true, "7418da4b11740ddfbf63b38dcf9f9e59eefe84f53bdee1d7c1d491036b7b47f3"), looks := false }, kinds := [], alts := [], laidByText := true, laidKinds := [.data, .data], laidTests := true, laidLooks := .later }
def VsliceAgainCardSaid : Prop := Claim7.holds Tryz.pinned (.plain (OpenSpec.ofChange vsliceAgainSpec)) vsliceAgainCard

/-- THE TIED CARD OF 'spindlelaw22.VsliceSkips'. -/
def vsliceSkipsCard : Claim7 := { stood := { row := vsliceSkipsRow, standIns := [], harness := (true, "7418da4b11740ddfbf63b38dcf9f9e59eefe84f53bdee1d7c1d491036b7b47f3"), looks := false }, kinds := [], alts := [], laidByText := true, laidKinds := [.data, .data], laidTests := true, laidLooks := .later }
def VsliceSkipsCardSaid : Prop := Claim7.holds Tryz.pinned (.plain (OpenSpec.ofChange vsliceSkipsSpec)) vsliceSkipsCard

/-- THE SECOND FORM's CARD OF 'spindlelaw22.VsliceOne'. -/
def vsliceOneUptoCard : Claim7 := { stood := { row := vsliceOneUptoRow, standIns := [], harness := (true, "7418da4b11740ddfbf63b38dcf9f9e59eefe84f53bdee1d7c1d491036b7b47f3"), looks := false }, kinds := [], alts := [], laidByText := true, laidKinds := [.data, .data], laidTests := true, laidLooks := .later }
def VsliceOneUptoCardSaid : Prop := Claim7.holds Tryz.pinned (.plain (OpenSpec.upto vsliceOneSpec)) vsliceOneUptoCard

/-- THE SECOND FORM's CARD OF 'spindlelaw22.VsliceShorter'. -/
def vsliceShorterUptoCard : Claim7 := { stood := { row := vsliceShorterUptoRow, standIns := [], harness := (true, "7418da4b11740ddfbf63b38dcf9f9e59eefe84f53bdee1d7c1d491036b7b47f3"), looks := false }, kinds := [], alts := [], laidByText := true, laidKinds := [.data, .data], laidTests := true, laidLooks := .later }
def VsliceShorterUptoCardSaid : Prop := Claim7.holds Tryz.pinned (.plain (OpenSpec.upto vsliceShorterSpec)) vsliceShorterUptoCard

/-- THE SECOND FORM's CARD OF 'spindlelaw21.VmbExamples'. -/
def vmbExamplesUptoCard : Claim7 := { stood := { row := vmbExamplesUptoRow, standIns := [], harness := (true, "7418da4b11740ddfbf63b38dcf9f9e59eefe84f53bdee1d7c1d491036b7b47f3"), looks := false }, kinds := [], alts := [], laidByText := true, laidKinds := [.data, .data], laidTests := true, laidLooks := .later }
def VmbExamplesUptoCardSaid : Prop := Claim7.holds Tryz.pinned (.plain (OpenSpec.upto vmbExamplesSpec)) vmbExamplesUptoCard

/-- THE SECOND FORM's CARD OF 'spindlelaw21.VmbReads'. -/
def vmbReadsUptoCard : Claim7 := { stood := { row := vmbReadsUptoRow, standIns := [], harness := (true, "7418da4b11740ddfbf63b38dcf9f9e59eefe84f53bdee1d7c1d491036b7b47f3"), looks := false }, kinds := [], alts := [], laidByText := true, laidKinds := [.data, .data], laidTests := true, laidLooks := .later }
def VmbReadsUptoCardSaid : Prop := Claim7.holds Tryz.pinned (.plain (OpenSpec.upto vmbReadsSpec)) vmbReadsUptoCard

/-- THE SECOND FORM's CARD OF 'spindlelaw21.VmbWrites'. -/
def vmbWritesUptoCard : Claim7 := { stood := { row := vmbWritesUptoRow, standIns := [], harness := (true, "7418da4b11740ddfbf63b38dcf9f9e59eefe84f53bdee1d7c1d491036b7b47f3"), looks := false }, kinds := [], alts := [], laidByText := true, laidKinds := [.data, .data], laidTests := true, laidLooks := .later }
def VmbWritesUptoCardSaid : Prop := Claim7.holds Tryz.pinned (.plain (OpenSpec.upto vmbWritesSpec)) vmbWritesUptoCard

/-- THE SECOND FORM's CARD OF 'spindlelaw21.VmbBack'. -/
def vmbBackUptoCard : Claim7 := { stood := { row := vmbBackUptoRow, standIns := [], harness := (true, "7418da4b11740ddfbf63b38dcf9f9e59eefe84f53bdee1d7c1d491036b7b47f3"), looks := false }, kinds := [], alts := [], laidByText := true, laidKinds := [.data, .data], laidTests := true, laidLooks := .later }
def VmbBackUptoCardSaid : Prop := Claim7.holds Tryz.pinned (.plain (OpenSpec.upto vmbBackSpec)) vmbBackUptoCard

/-- THE SECOND FORM's CARD OF 'spindlelaw21.VmbAgain'. -/
def vmbAgainUptoCard : Claim7 := { stood := { row := vmbAgainUptoRow, standIns := [], harness := (true, "7418da4b11740ddfbf63b38dcf9f9e59eefe84f53bdee1d7c1d491036b7b47f3"), looks := false }, kinds := [], alts := [], laidByText := true, laidKinds := [.data, .data], laidTests := true, laidLooks := .later }
def VmbAgainUptoCardSaid : Prop := Claim7.holds Tryz.pinned (.plain (OpenSpec.upto vmbAgainSpec)) vmbAgainUptoCard

/-- THE SECOND FORM's CARD OF 'spindlelaw21.VmbApart'. -/
def vmbApartUptoCard : Claim7 := { stood := { row := vmbApartUptoRow, standIns := [], harness := (true, "7418da4b11740ddfbf63b38dcf9f9e59eefe84f53bdee1d7c1d491036b7b47f3"), looks := false }, kinds := [], alts := [], laidByText := true, laidKinds := [.data, .data], laidTests := true, laidLooks := .later }
def VmbApartUptoCardSaid : Prop := Claim7.holds Tryz.pinned (.plain (OpenSpec.upto vmbApartSpec)) vmbApartUptoCard

/-- THE SECOND FORM's CARD OF 'spindlelaw21.VmbPlaces'. -/
def vmbPlacesUptoCard : Claim7 := { stood := { row := vmbPlacesUptoRow, standIns := [], harness := (true, "7418da4b11740ddfbf63b38dcf9f9e59eefe84f53bdee1d7c1d491036b7b47f3"), looks := false }, kinds := [], alts := [], laidByText := true, laidKinds := [.data, .data], laidTests := true, laidLooks := .later }
def VmbPlacesUptoCardSaid : Prop := Claim7.holds Tryz.pinned (.plain (OpenSpec.upto vmbPlacesSpec)) vmbPlacesUptoCard

/-- THE SECOND FORM's CARD OF 'spindlelaw21.VmbPcm'. -/
def vmbPcmUptoCard : Claim7 := { stood := { row := vmbPcmUptoRow, standIns := [], harness := (true, "7418da4b11740ddfbf63b38dcf9f9e59eefe84f53bdee1d7c1d491036b7b47f3"), looks := false }, kinds := [], alts := [], laidByText := true, laidKinds := [.data, .data], laidTests := true, laidLooks := .later }
def VmbPcmUptoCardSaid : Prop := Claim7.holds Tryz.pinned (.plain (OpenSpec.upto vmbPcmSpec)) vmbPcmUptoCard

/-- THE SECOND FORM's CARD OF 'spindlelaw22.VsliceReads'. -/
def vsliceReadsUptoCard : Claim7 := { stood := { row := vsliceReadsUptoRow, standIns := [], harness := (true, "7418da4b11740ddfbf63b38dcf9f9e59eefe84f53bdee1d7c1d491036b7b47f3"), looks := false }, kinds := [], alts := [], laidByText := true, laidKinds := [.data, .data], laidTests := true, laidLooks := .later }
def VsliceReadsUptoCardSaid : Prop := Claim7.holds Tryz.pinned (.plain (OpenSpec.upto vsliceReadsSpec)) vsliceReadsUptoCard

/-- THE SECOND FORM's CARD OF 'spindlelaw22.VsliceBack'. -/
def vsliceBackUptoCard : Claim7 := { stood := { row := vsliceBackUptoRow, standIns := [], harness := (true, "7418da4b11740ddfbf63b38dcf9f9e59eefe84f53bdee1d7c1d491036b7b47f3"), looks := false }, kinds := [], alts := [], laidByText := true, laidKinds := [.data, .data], laidTests := true, laidLooks := .later }
def VsliceBackUptoCardSaid : Prop := Claim7.holds Tryz.pinned (.plain (OpenSpec.upto vsliceBackSpec)) vsliceBackUptoCard

/-- THE SECOND FORM's CARD OF 'spindlelaw22.VsliceWrites'. -/
def vsliceWritesUptoCard : Claim7 := { stood := { row := vsliceWritesUptoRow, standIns := [], harness := (true, "7418da4b11740ddfbf63b38dcf9f9e59eefe84f53bdee1d7c1d491036b7b47f3"), looks := false }, kinds := [], alts := [], laidByText := true, laidKinds := [.data, .data], laidTests := true, laidLooks := .later }
def VsliceWritesUptoCardSaid : Prop := Claim7.holds Tryz.pinned (.plain (OpenSpec.upto vsliceWritesSpec)) vsliceWritesUptoCard

/-- THE SECOND FORM's CARD OF 'spindlelaw22.VsliceAgain'. -/
def vsliceAgainUptoCard : Claim7 := { stood := { row := vsliceAgainUptoRow, standIns := [], harness := (true, "7418da4b11740ddfbf63b38dcf9f9e59eefe84f53bdee1d7c1d491036b7b47f3"), looks := false }, kinds := [], alts := [], laidByText := true, laidKinds := [.data, .data], laidTests := true, laidLooks := .later }
def VsliceAgainUptoCardSaid : Prop := Claim7.holds Tryz.pinned (.plain (OpenSpec.upto vsliceAgainSpec)) vsliceAgainUptoCard

/-- THE SECOND FORM's CARD OF 'spindlelaw22.VsliceSkips'. -/
def vsliceSkipsUptoCard : Claim7 := { stood := { row := vsliceSkipsUptoRow, standIns := [], harness := (true, "7418da4b11740ddfbf63b38dcf9f9e59eefe84f53bdee1d7c1d491036b7b47f3"), looks := false }, kinds := [], alts := [], laidByText := true, laidKinds := [.data, .data], laidTests := true, laidLooks := .later }
def VsliceSkipsUptoCardSaid : Prop := Claim7.holds Tryz.pinned (.plain (OpenSpec.upto vsliceSkipsSpec)) vsliceSkipsUptoCard
end Rows
end Go.Proofs.YtbmcdphiolidkaaGreatDoor
