/-
  DERIVED. GIVEN WITH THE SEED: THE CARDS: each row of YtjhgcajppicblaaDoorRows.lean that lists a variable, with what it lists TIED to the program's text (the seventh form; the later family's looks); each row that meets fmt, with fmt's text TOLD by the authors' own Lean function (tested against real Go, not proved from fmt's source: count such statements apart). THE CARD IS WHAT COUNTS. Prove the row's statement (the work); the ties are given (YtjhgcajppicblaaDoorTie.lean); close each card by the builder's one call (the guide's Derived/Test/ToyasCard.lean, 'card_holds'). Laid BY PROGRAM, IN A SANDBOX (cutbox-door.mjs). By AI agents, Wed Nov 11 2026. No macro, syntax, notation, axiom, sorry.
-/
import Derived.Test.YtjhgcajppicblaaDoorRows
import GoSem.ClaimSeven
namespace Go.Proofs.YtjhgcajppicblaaDoor
namespace Rows

/-- THE TIED CARD OF 'spindlelaw12.KindsExamples'. -/
def kindsExamplesCard : Claim7 := { stood := { row := kindsExamplesRow, standIns := [], harness := (true, "9c26a958779ebfa5ca2228d8350faf5c07df4b51541454cad22d8fb3d191c48b"), looks := false }, kinds := [], alts := [], laidByText := true, laidKinds := [.data], laidTests := true, laidLooks := .later }
def KindsExamplesCardSaid : Prop := Claim7.holds Tryd.pinned (.plain (OpenSpec.ofChange kindsExamplesSpec)) kindsExamplesCard

/-- THE TIED CARD OF 'spindlelaw16.IncExamples'. -/
def incExamplesCard : Claim7 := { stood := { row := incExamplesRow, standIns := [], harness := (true, "9c26a958779ebfa5ca2228d8350faf5c07df4b51541454cad22d8fb3d191c48b"), looks := false }, kinds := [], alts := [], laidByText := true, laidKinds := [.data], laidTests := true, laidLooks := .later }
def IncExamplesCardSaid : Prop := Claim7.holds Tryd.pinned (.plain (OpenSpec.ofChange incExamplesSpec)) incExamplesCard

/-- THE SECOND FORM's CARD OF 'spindlelaw12.KindsExamples'. -/
def kindsExamplesUptoCard : Claim7 := { stood := { row := kindsExamplesUptoRow, standIns := [], harness := (true, "9c26a958779ebfa5ca2228d8350faf5c07df4b51541454cad22d8fb3d191c48b"), looks := false }, kinds := [], alts := [], laidByText := true, laidKinds := [.data], laidTests := true, laidLooks := .later }
def KindsExamplesUptoCardSaid : Prop := Claim7.holds Tryd.pinned (.plain (OpenSpec.upto kindsExamplesSpec)) kindsExamplesUptoCard

/-- THE SECOND FORM's CARD OF 'spindlelaw16.IncExamples'. -/
def incExamplesUptoCard : Claim7 := { stood := { row := incExamplesUptoRow, standIns := [], harness := (true, "9c26a958779ebfa5ca2228d8350faf5c07df4b51541454cad22d8fb3d191c48b"), looks := false }, kinds := [], alts := [], laidByText := true, laidKinds := [.data], laidTests := true, laidLooks := .later }
def IncExamplesUptoCardSaid : Prop := Claim7.holds Tryd.pinned (.plain (OpenSpec.upto incExamplesSpec)) incExamplesUptoCard
end Rows
end Go.Proofs.YtjhgcajppicblaaDoor
