/- VsliceExamples returns true, for its one input (it has no arguments), and changes nothing that was there before: 'Rows.VsliceExamplesCardSaid', the tied card. The condition is the row's own: the variable spindle/kinds.quarters, spindle/mb.sizes reads as the program's text lays it (the card ties it). -/
import Derived.Test.YtjhgcajppicblaaGreatDoorRows
import Derived.Test.YtjhgcajppicblaaGreatDoorCards
import Derived.Test.YtjhgcajppicblaaGreatDoorTie
import Derived.Test.YtjhgcajppicblaaGreatDoorVsliceExamplesT1
import Derived.WalkKit
import Derived.ProofKit
import Derived.OpenShut
import Derived.LaidMore
import Derived.Stop.Joined
import Derived.SevenTiedAt
namespace Go.Proofs.YtjhgcajppicblaaGreatDoor.vsliceExamples
open Go.ChangeShapes Go.WideShapes Go.ChangeAt Go.RowKit
set_option linter.unusedVariables false

theorem own : ownKnob Tryz.prog.godebug = none := by kernel_rfl
def isTrue : Option (Go.Ab.AV × Go.Ab.Heap) → Bool
  | some (.bool true, _) => true
  | _ => false
theorem computed : isTrue (Go.Ab.tabN (Go.Ab.tVsliceExamples.rows (Go.Ab.ctlF 1000)) 60 4 0 [] Go.Ab.S0) = true := by kernel_rfl
theorem mixed : Tryz.prog.follows .mixedOrders = true := by kernel_rfl
theorem datum0 : Go.Ab.dav (Rows.laid_spindle_kinds_quarters (H := Unit)) = some Go.Ab.tVsliceExamples.Gcells0 := by kernel_rfl
theorem datum1 : Go.Ab.dav (Rows.laid_spindle_mb_sizes (H := Unit)) = some Go.Ab.tVsliceExamples.Gcells1 := by kernel_rfl
theorem walk (w : World) (hG : Go.Ab.GOk Go.Ab.tVsliceExamples.Gk (Go.Ab.gOf w)) :
    Calls Tryz.prog 4 #[] w fun e w' => e = .returned (.bool true) ∧ (∀ b, b < w.heap.size → w'.heap[b]? = w.heap[b]?) ∧ w'.os = w.os ∧ w'.output = w.output := by
  have h := computed
  unfold isTrue at h
  split at h
  · rename_i S' hs
    exact Go.Ab.law_callsG (Go.Ab.tabN_ok (Go.Ab.rngC_ok (Go.Ab.ctlF_ok 1000)) mixed _ 60) hG (args := #[]) (by simp [Go.Ab.lrel]) (by decide) hs
  · cases h

/-- The heap that the program's own text lays meets the condition. -/
theorem door_met (os : Os) (args : Array Value) : laidMetH Tryz.prog Rows.vsliceExamplesRow.laid ((World.doorLaid Tryz.prog 32 os).forCall (fun _ _ => 0) ⟨#[], args, []⟩).memory :=
  laidMetH_of_parts3 (fuel := 8) (laidMet_of_run' 8 (by kernel_rfl) (by kernel_rfl)) (by kernel_rfl) (by kernel_rfl)

set_option maxRecDepth 100000 in
theorem lifted (os : Os) (started : os.Started) (H : Type) (enc : TypeId × Value → H) :
    ReturnsInHanded {} Tryz.checked os 4 .any (fun w args => (Rows.vsliceExamplesSpec.pre enc Tryz.prog Tryz.f4 [] false w args ∧ laidMetH Tryz.prog Rows.vsliceExamplesRow.laid w) ∧ sizedMet enc Tryz.prog Tryz.f4 (OpenSpec.ofChange Rows.vsliceExamplesSpec) false w args)
      (Rows.vsliceExamplesSpec.post enc Tryz.prog Tryz.f4 false true false false) := by
  refine returnsInHanded_of_change_and (C := Tryz.checked) (X := fun w _ => laidMetH Tryz.prog Rows.vsliceExamplesRow.laid w) (fun _ _ _ hh h => h.of_heap hh) own started (by kernel_rfl) Tryz.func4
    (ChangeSpec.witness_shaped (enc := enc) (C := Tryz.checked) (os := os) (X := fun w _ => laidMetH Tryz.prog Rows.vsliceExamplesRow.laid w) false (World.doorLaid Tryz.prog 32 os) #[] 8 rfl (World.shaped_of_RefB (by kernel_rfl) (by kernel_rfl)) (by kernel_rfl) (by kernel_rfl) (by kernel_rfl) (door_met os _)) ?_
  intro W base args ds gs before hval0 hW _ _ hL _
  have hW' := hW
  obtain ⟨p, q, hA0, hV, rfl, hfz, hnd⟩ := hW
  have hA : DataW.TrodAll enc Tryz.prog W 0 (fun _ => true) true Tryz.f4.params.toList args.toList ds p := hA0
  rw [Tryz.params4] at hA
  obtain ⟨rfl, rfl, rfl⟩ := trodAll_none hA
  have hG : Go.Ab.GOk Go.Ab.tVsliceExamples.Gk (Go.Ab.gOf W) := Go.Ab.laid_gok2 (t := 186) (t' := 142) (F := 12) (by kernel_rfl) (by kernel_rfl) hL (by kernel_rfl) (by kernel_rfl) (by kernel_rfl) datum0 (by kernel_rfl) (by kernel_rfl) (by kernel_rfl) datum1
  refine (walk W hG).mono fun e W' ⟨he, hs, ho, hu⟩ => ?_
  subst he
  exact ⟨_, rfl, Go.Ab.law_post (tb := 4) (by kernel_rfl) (by kernel_rfl) (slices_full_of Tryz.prog (by kernel_rfl)) (by rw [Tryz.params4]; simp) rfl
    (fun ds hl => by rw [Tryz.params4] at hl; match ds, hl with | [], _ => rfl) (by kernel_rfl) Tryz.underlying4 hW' hs ho hu⟩

theorem over : Rows.VsliceExamplesSaid :=
  OpenClaim.holds_of_wide 4 Tryz.f4 rfl rfl rfl rfl rfl rfl rfl ⟨rfl, rfl, rfl, rfl, rfl⟩ rfl rfl rfl rfl rfl (by kernel_rfl) Tryz.func4 (by kernel_rfl)
    (of_decide_eq_true (by kernel_rfl)) (by unfold Func.isWrapper; first | (rw [if_pos (by decide +kernel)]; kernel_rfl) | (rw [if_neg (by decide +kernel)]; exact ⟨rfl, rfl⟩))
    (fun os started H enc _ => lifted os started H enc)

/-- ████ THE TIED CARD ████ -/
theorem proved : Rows.VsliceExamplesCardSaid :=
  Claim7.holds_tied_plain_at .later [] [.data, .data] true (true, "3fe8eed0c118e415c9b1fa6b24b5b32d7cf5c87317a3632bc6215468e9743f91") false
    over (fun _ h => by cases h) (by kernel_rfl) (fun _ h => by cases h) vsliceExamples_row_tie rfl ⟨rfl, rfl⟩ (by kernel_rfl) rfl
    (fun f fn hf hfn => by
      obtain rfl : f = 4 := Option.some.inj ((show Tryz.prog.funcNamed "spindle/spindlelaw22.VsliceExamples" = some 4 by kernel_rfl).symm.trans hf) |>.symm
      obtain rfl : fn = Tryz.f4 := (Option.some.inj (Tryz.func4.symm.trans hfn)).symm
      exact ⟨by kernel_rfl, fun j t ht => by
        rw [Tryz.params4] at ht
        simp at ht⟩)
    (by kernel_rfl)
end Go.Proofs.YtjhgcajppicblaaGreatDoor.vsliceExamples
