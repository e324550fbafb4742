/-
  DERIVED. GIVEN WITH THE SEED: THE CARDS: each row of YtomnllhlclpdjaaDoorRows.lean that lists a variable, with what it lists TIED to the program's text (the seventh form; the later family's looks); each row that meets fmt, with fmt's text TOLD by the authors' own Lean function (tested against real Go, not proved from fmt's source: count such statements apart). THE CARD IS WHAT COUNTS. Prove the row's statement (the work); the ties are given (YtomnllhlclpdjaaDoorTie.lean); close each card by the builder's one call (the guide's Derived/Test/ToyasCard.lean, 'card_holds'). Laid BY PROGRAM, IN A SANDBOX (cutbox-door.mjs). By AI agents, Wed Nov 11 2026. No macro, syntax, notation, axiom, sorry.
-/
import Derived.Test.YtomnllhlclpdjaaDoorRows
import GoSem.ClaimSeven
namespace Go.Proofs.YtomnllhlclpdjaaDoor
namespace Rows

/-- THE TIED CARD OF 'spindlelaw12.KindsTypes'. -/
def kindsTypesCard : Claim7 := { stood := { row := kindsTypesRow, standIns := [], harness := (true, "565c1f463a77b75cc8188d44d519477877cf258bd5ebc30ebb12cf1da956c79b"), looks := false }, kinds := [], alts := [], laidByText := true, laidKinds := [.data], laidTests := true, laidLooks := .later }
def KindsTypesCardSaid : Prop := Claim7.holds Tryd.pinned (.plain (OpenSpec.ofChange kindsTypesSpec)) kindsTypesCard

/-- THE TIED CARD OF 'spindlelaw12.KindsParts'. -/
def kindsPartsCard : Claim7 := { stood := { row := kindsPartsRow, standIns := [], harness := (true, "565c1f463a77b75cc8188d44d519477877cf258bd5ebc30ebb12cf1da956c79b"), looks := false }, kinds := [], alts := [], laidByText := true, laidKinds := [.data], laidTests := true, laidLooks := .later }
def KindsPartsCardSaid : Prop := Claim7.holds Tryd.pinned (.plain (OpenSpec.ofChange kindsPartsSpec)) kindsPartsCard

/-- THE TIED CARD OF 'spindlelaw12.KindsExamples'. -/
def kindsExamplesCard : Claim7 := { stood := { row := kindsExamplesRow, standIns := [], harness := (true, "565c1f463a77b75cc8188d44d519477877cf258bd5ebc30ebb12cf1da956c79b"), looks := false }, kinds := [], alts := [], laidByText := true, laidKinds := [.data], laidTests := true, laidLooks := .later }
def KindsExamplesCardSaid : Prop := Claim7.holds Tryd.pinned (.plain (OpenSpec.ofChange kindsExamplesSpec)) kindsExamplesCard

/-- THE TIED CARD OF 'spindlelaw12.KindsBack'. -/
def kindsBackCard : Claim7 := { stood := { row := kindsBackRow, standIns := [], harness := (true, "565c1f463a77b75cc8188d44d519477877cf258bd5ebc30ebb12cf1da956c79b"), looks := false }, kinds := [], alts := [], laidByText := true, laidKinds := [.data], laidTests := true, laidLooks := .later }
def KindsBackCardSaid : Prop := Claim7.holds Tryd.pinned (.plain (OpenSpec.ofChange kindsBackSpec)) kindsBackCard

/-- THE TIED CARD OF 'spindlelaw12.KindsCovers'. -/
def kindsCoversCard : Claim7 := { stood := { row := kindsCoversRow, standIns := [], harness := (true, "565c1f463a77b75cc8188d44d519477877cf258bd5ebc30ebb12cf1da956c79b"), looks := false }, kinds := [], alts := [], laidByText := true, laidKinds := [.data], laidTests := true, laidLooks := .later }
def KindsCoversCardSaid : Prop := Claim7.holds Tryd.pinned (.plain (OpenSpec.ofChange kindsCoversSpec)) kindsCoversCard

/-- THE TIED CARD OF 'spindlelaw12.KindsRects'. -/
def kindsRectsCard : Claim7 := { stood := { row := kindsRectsRow, standIns := [], harness := (true, "565c1f463a77b75cc8188d44d519477877cf258bd5ebc30ebb12cf1da956c79b"), looks := false }, kinds := [], alts := [], laidByText := true, laidKinds := [.data], laidTests := true, laidLooks := .later }
def KindsRectsCardSaid : Prop := Claim7.holds Tryd.pinned (.plain (OpenSpec.ofChange kindsRectsSpec)) kindsRectsCard

/-- THE SECOND FORM's CARD OF 'spindlelaw12.KindsTypes'. -/
def kindsTypesUptoCard : Claim7 := { stood := { row := kindsTypesUptoRow, standIns := [], harness := (true, "565c1f463a77b75cc8188d44d519477877cf258bd5ebc30ebb12cf1da956c79b"), looks := false }, kinds := [], alts := [], laidByText := true, laidKinds := [.data], laidTests := true, laidLooks := .later }
def KindsTypesUptoCardSaid : Prop := Claim7.holds Tryd.pinned (.plain (OpenSpec.upto kindsTypesSpec)) kindsTypesUptoCard

/-- THE SECOND FORM's CARD OF 'spindlelaw12.KindsParts'. -/
def kindsPartsUptoCard : Claim7 := { stood := { row := kindsPartsUptoRow, standIns := [], harness := (true, "565c1f463a77b75cc8188d44d519477877cf258bd5ebc30ebb12cf1da956c79b"), looks := false }, kinds := [], alts := [], laidByText := true, laidKinds := [.data], laidTests := true, laidLooks := .later }
def KindsPartsUptoCardSaid : Prop := Claim7.holds Tryd.pinned (.plain (OpenSpec.upto kindsPartsSpec)) kindsPartsUptoCard

/-- THE SECOND FORM's CARD OF 'spindlelaw12.KindsExamples'. -/
def kindsExamplesUptoCard : Claim7 := { stood := { row := kindsExamplesUptoRow, standIns := [], harness := (true, "565c1f463a77b75cc8188d44d519477877cf258bd5ebc30ebb12cf1da956c79b"), looks := false }, kinds := [], alts := [], laidByText := true, laidKinds := [.data], laidTests := true, laidLooks := .later }
def KindsExamplesUptoCardSaid : Prop := Claim7.holds Tryd.pinned (.plain (OpenSpec.upto kindsExamplesSpec)) kindsExamplesUptoCard

/-- THE SECOND FORM's CARD OF 'spindlelaw12.KindsBack'. -/
def kindsBackUptoCard : Claim7 := { stood := { row := kindsBackUptoRow, standIns := [], harness := (true, "565c1f463a77b75cc8188d44d519477877cf258bd5ebc30ebb12cf1da956c79b"), looks := false }, kinds := [], alts := [], laidByText := true, laidKinds := [.data], laidTests := true, laidLooks := .later }
def KindsBackUptoCardSaid : Prop := Claim7.holds Tryd.pinned (.plain (OpenSpec.upto kindsBackSpec)) kindsBackUptoCard

/-- THE SECOND FORM's CARD OF 'spindlelaw12.KindsCovers'. -/
def kindsCoversUptoCard : Claim7 := { stood := { row := kindsCoversUptoRow, standIns := [], harness := (true, "565c1f463a77b75cc8188d44d519477877cf258bd5ebc30ebb12cf1da956c79b"), looks := false }, kinds := [], alts := [], laidByText := true, laidKinds := [.data], laidTests := true, laidLooks := .later }
def KindsCoversUptoCardSaid : Prop := Claim7.holds Tryd.pinned (.plain (OpenSpec.upto kindsCoversSpec)) kindsCoversUptoCard

/-- THE SECOND FORM's CARD OF 'spindlelaw12.KindsRects'. -/
def kindsRectsUptoCard : Claim7 := { stood := { row := kindsRectsUptoRow, standIns := [], harness := (true, "565c1f463a77b75cc8188d44d519477877cf258bd5ebc30ebb12cf1da956c79b"), looks := false }, kinds := [], alts := [], laidByText := true, laidKinds := [.data], laidTests := true, laidLooks := .later }
def KindsRectsUptoCardSaid : Prop := Claim7.holds Tryd.pinned (.plain (OpenSpec.upto kindsRectsSpec)) kindsRectsUptoCard
end Rows
end Go.Proofs.YtomnllhlclpdjaaDoor
