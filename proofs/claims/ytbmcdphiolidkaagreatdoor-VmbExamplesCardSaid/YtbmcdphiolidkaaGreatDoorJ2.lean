/- Facts of the whole program that a tied card asks for, one by one. -/
import Derived.Test.YtbmcdphiolidkaaGreatDoorRows
import Derived.Test.YtbmcdphiolidkaaGreatDoorCards
import Derived.SevenTiedAt
import Derived.KernelRfl
namespace Go.Proofs.YtbmcdphiolidkaaGreatDoor
open Go Go.Proofs
theorem card_main : Tryz.prog.mainIs = some (true, "7418da4b11740ddfbf63b38dcf9f9e59eefe84f53bdee1d7c1d491036b7b47f3".toList) := by kernel_rfl
theorem card_looks : false = Tryz.prog.looks [] := by kernel_rfl
theorem card_goes : false = Rows.vmbExamplesRow.goesBy Tryz.prog := by kernel_rfl
theorem card_text : Rows.vmbExamplesRow.wfByText (OpenSpec.ofChange Rows.vmbExamplesSpec) = true := by kernel_rfl
theorem card_named : Tryz.prog.funcNamed "spindle/spindlelaw21.VmbExamples" = some 5 := by kernel_rfl
theorem card_std : (Tryz.f5.params.toList.all fun t => !Tryz.prog.wantsStandIn t) = true := by kernel_rfl
end Go.Proofs.YtbmcdphiolidkaaGreatDoor
