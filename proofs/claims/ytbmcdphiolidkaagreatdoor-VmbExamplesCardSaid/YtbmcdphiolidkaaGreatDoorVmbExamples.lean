/- VmbExamples returns true for every input, and changes nothing that was there before: 'Rows.VmbExamplesCardSaid', the tied card. The condition is the row's own: spindle/kinds.quarters, spindle/mb.sizes reads as the program's text lays it (the card ties it). -/
import Derived.Test.YtbmcdphiolidkaaGreatDoorRows
import Derived.Test.YtbmcdphiolidkaaGreatDoorCards
import Derived.Test.YtbmcdphiolidkaaGreatDoorTie
import Derived.Test.YtbmcdphiolidkaaGreatDoorVX2
import Derived.Test.YtbmcdphiolidkaaGreatDoorJ
import Derived.Test.YtbmcdphiolidkaaGreatDoorJ2
import Derived.WalkKit
import Derived.ProofKit
import Derived.OpenShut
import Derived.LaidMore
import Derived.Stop.Joined
import Derived.SevenTiedAt
namespace Go.Proofs.YtbmcdphiolidkaaGreatDoor.vmbExamples
open Go.ChangeShapes Go.WideShapes Go.ChangeAt Go.RowKit
set_option linter.unusedVariables false

theorem own : ownKnob Tryz.prog.godebug = none := by kernel_rfl
theorem flats : (Tryz.f5.params.toList.all fun t => Go.Ab.flat Tryz.prog 16 t) = true := by kernel_rfl
theorem datum0 : Go.Ab.dav (Rows.laid_spindle_kinds_quarters (H := Unit)) = some Go.Ab.tV.Gcells0 := by kernel_rfl
theorem datum1 : Go.Ab.dav (Rows.laid_spindle_mb_sizes (H := Unit)) = some Go.Ab.tV.Gcells1 := by kernel_rfl

/-- The heap that the program's own text lays meets the condition. -/
theorem door_met (os : Os) (args : Array Value) : laidMetH Tryz.prog Rows.vmbExamplesRow.laid ((World.doorLaid Tryz.prog 40 os).forCall (fun _ _ => 0) ⟨#[], args, []⟩).memory :=
  laidMetH_of_parts3 (fuel := 8) (laidMet_of_run' 8 (by kernel_rfl) (by kernel_rfl)) (by kernel_rfl) (by kernel_rfl)

set_option maxRecDepth 100000 in
theorem lifted (os : Os) (started : os.Started) (H : Type) (enc : TypeId × Value → H) :
    ReturnsInHanded {} Tryz.checked os 5 .any (fun w args => (Rows.vmbExamplesSpec.pre enc Tryz.prog Tryz.f5 [] false w args ∧ laidMetH Tryz.prog Rows.vmbExamplesRow.laid w) ∧ sizedMet enc Tryz.prog Tryz.f5 (OpenSpec.ofChange Rows.vmbExamplesSpec) false w args)
      (Rows.vmbExamplesSpec.post enc Tryz.prog Tryz.f5 false true false false) := by
  refine returnsInHanded_of_change_and (C := Tryz.checked) (X := fun w _ => laidMetH Tryz.prog Rows.vmbExamplesRow.laid w) (fun _ _ _ hh h => h.of_heap hh) own started (by kernel_rfl) Tryz.func5
    (ChangeSpec.witness_shaped (enc := enc) (C := Tryz.checked) (os := os) (X := fun w _ => laidMetH Tryz.prog Rows.vmbExamplesRow.laid w) false (World.doorLaid Tryz.prog 40 os) #[] 8 rfl (World.shaped_of_RefB (by kernel_rfl) (by kernel_rfl)) (by kernel_rfl) (by kernel_rfl) (by kernel_rfl) (door_met os _)) ?_
  intro W base args ds gs before hval0 hW _ _ hL _
  have hval : ∀ (j : Nat) t v, Tryz.f5.params[j]? = some t → args[j]? = some v → Value.okWide Tryz.prog W .any base t v := hval0
  have hW' := hW
  obtain ⟨p, q, hA0, hV, rfl, hfz, hnd⟩ := hW
  have hA : DataW.TrodAll enc Tryz.prog W 0 (fun _ => true) true Tryz.f5.params.toList args.toList ds p := hA0
  obtain ⟨xs, hr, hok⟩ := Go.Ab.args_av (N := maxLen) (F := 16) (Nat.le_refl _) (fun t ht => List.all_eq_true.1 flats t ht) (fun j t v h1 h2 => hval j t v (by rw [← h1]; simp) (by rw [← h2]; simp)) hA
  have hG : Go.Ab.GOk Go.Ab.tV.Gk (Go.Ab.gOf W) := Go.Ab.laid_gok2 (t := 293) (t' := 226) (F := 12) (by kernel_rfl) (by kernel_rfl) hL (by kernel_rfl) (by kernel_rfl) (by kernel_rfl) datum0 (by kernel_rfl) (by kernel_rfl) (by kernel_rfl) datum1
  obtain ⟨C, S', hC, hc⟩ := Go.Ab.tV.vmb_law xs hok
  refine (Go.Ab.law_callsG (args := args) hC hG hr (by decide) hc).mono fun e W' ⟨he, hs, ho, hu⟩ => ?_
  subst he
  exact ⟨_, rfl, Go.Ab.law_post (tb := 4) (by kernel_rfl) (by kernel_rfl) (slices_full_of Tryz.prog (by kernel_rfl)) (fun t ht => of_decide_eq_true (List.all_eq_true.1 (show (Tryz.f5.params.toList.all fun t => decide (t < Tryz.prog.types.size)) = true by kernel_rfl) t ht)) rfl
    (fun ds hl => by rw [Tryz.params5] at hl; match ds, hl with | [], _ => rfl) (by kernel_rfl) Tryz.underlying4 hW' hs ho hu⟩

theorem j0 : (Rows.vmbExamplesRow.wf (OpenSpec.ofChange Rows.vmbExamplesSpec)) = true := by kernel_rfl
theorem j3 : (Tryz.f5.params.all (Tryz.prog.readableRec ·)) = true := by kernel_rfl
theorem j4 : (namedTie Tryz.prog Rows.vmbExamplesRow.named Rows.vmbExamplesSpec.vars) = true := by kernel_rfl
theorem j5 : ((Rows.vmbExamplesRow.stops == [])) = true := by kernel_rfl
theorem j7 : ((Rows.vmbExamplesRow.knobs == [])) = true := by kernel_rfl
theorem j9 : ((Rows.vmbExamplesRow.inPlace == Tryz.prog.inPlace 5)) = true := by kernel_rfl
theorem j10 : ((Rows.vmbExamplesRow.unfollowed == Tryz.prog.unfollowed 5)) = true := by kernel_rfl
theorem j11 : ((Rows.vmbExamplesRow.recurses == Tryz.prog.recurses 5)) = true := by kernel_rfl
theorem j12 : ((Rows.vmbExamplesRow.named == Tryz.prog.varsNamed 5)) = true := by kernel_rfl
theorem j13 : ((Rows.vmbExamplesRow.maps == (Tryz.f5.params.toList ++ Rows.vmbExamplesSpec.plain.varTypes Tryz.prog).any (Tryz.prog.mapsRec ·))) = true := by kernel_rfl
theorem j14 : ((Rows.vmbExamplesRow.ifaces == (Tryz.f5.params.toList ++ Rows.vmbExamplesSpec.plain.varTypes Tryz.prog).any (Tryz.prog.ifacesRec ·))) = true := by kernel_rfl
theorem j15 : ((Rows.vmbExamplesRow.mapsOut == Tryz.prog.mapsAmong Tryz.f5.resultTypes.toList)) = true := by kernel_rfl
theorem j16 : ((Rows.vmbExamplesRow.loops == (Tryz.f5.params.toList ++ Rows.vmbExamplesSpec.plain.varTypes Tryz.prog).any (Tryz.prog.loopsFrom ·))) = true := by kernel_rfl
theorem j17 : ((Rows.vmbExamplesRow.wideKeys == (Tryz.f5.params.toList ++ Rows.vmbExamplesSpec.plain.varTypes Tryz.prog ++ Tryz.f5.resultTypes.toList).any (Tryz.prog.wideKeysFrom ·))) = true := by kernel_rfl
theorem j18 : (Rows.vmbExamplesSpec.vars.all (Tryz.prog.varReadable ·)) = true := by kernel_rfl
theorem j19 : (Tryz.f5.resultTypes.all (fun t => Tryz.prog.readableRec t && decide (t < Tryz.prog.types.size))) = true := by kernel_rfl
theorem j20 : ((Rows.vmbExamplesRow.ifacesOut == Tryz.f5.resultTypes.toList.any (Tryz.prog.ifacesRec ·))) = true := by kernel_rfl
theorem j21 : ((Rows.vmbExamplesRow.loopsOut == Tryz.f5.resultTypes.toList.any (Tryz.prog.loopsFrom ·))) = true := by kernel_rfl
theorem j23 : (Rows.vmbExamplesRow.shortTexts.isNone) = true := by kernel_rfl
theorem j28 : ((Rows.vmbExamplesRow.kinds == (if Rows.vmbExamplesRow.domain.isEmpty then [] else Tryz.f5.params.toList.map fun t => match Tryz.prog.underlying t with | some (.int k) => some k | _ => none))) = true := by kernel_rfl
theorem j29 : ((Rows.vmbExamplesRow.pinned == Rows.vmbExamplesRow.pinnedBy)) = true := by kernel_rfl
theorem j30 : ((Rows.vmbExamplesRow.veiled == (Tryz.f5.params.toList ++ Rows.vmbExamplesSpec.plain.varTypes Tryz.prog ++ Tryz.f5.resultTypes.toList).any (Tryz.prog.veiledRec ·))) = true := by kernel_rfl
theorem j31 : (Rows.vmbExamplesRow.veiledFits Tryz.prog Tryz.f5.params.toList (Tryz.f5.params.toList ++ Rows.vmbExamplesSpec.plain.varTypes Tryz.prog ++ Tryz.f5.resultTypes.toList)) = true := by kernel_rfl
set_option maxRecDepth 100000 in
theorem closed : joinedFacts Tryz.prog 5 Tryz.f5 Rows.vmbExamplesSpec Rows.vmbExamplesRow = true := (Go.Proofs.YtbmcdphiolidkaaGreatDoor.shared.andT (Go.Proofs.YtbmcdphiolidkaaGreatDoor.shared.andT (Go.Proofs.YtbmcdphiolidkaaGreatDoor.shared.andT (Go.Proofs.YtbmcdphiolidkaaGreatDoor.shared.andT (Go.Proofs.YtbmcdphiolidkaaGreatDoor.shared.andT (Go.Proofs.YtbmcdphiolidkaaGreatDoor.shared.andT (Go.Proofs.YtbmcdphiolidkaaGreatDoor.shared.andT (Go.Proofs.YtbmcdphiolidkaaGreatDoor.shared.andT (Go.Proofs.YtbmcdphiolidkaaGreatDoor.shared.andT (Go.Proofs.YtbmcdphiolidkaaGreatDoor.shared.andT (Go.Proofs.YtbmcdphiolidkaaGreatDoor.shared.andT (Go.Proofs.YtbmcdphiolidkaaGreatDoor.shared.andT (Go.Proofs.YtbmcdphiolidkaaGreatDoor.shared.andT (Go.Proofs.YtbmcdphiolidkaaGreatDoor.shared.andT (Go.Proofs.YtbmcdphiolidkaaGreatDoor.shared.andT (Go.Proofs.YtbmcdphiolidkaaGreatDoor.shared.andT (Go.Proofs.YtbmcdphiolidkaaGreatDoor.shared.andT (Go.Proofs.YtbmcdphiolidkaaGreatDoor.shared.andT (Go.Proofs.YtbmcdphiolidkaaGreatDoor.shared.andT (Go.Proofs.YtbmcdphiolidkaaGreatDoor.shared.andT (Go.Proofs.YtbmcdphiolidkaaGreatDoor.shared.andT (Go.Proofs.YtbmcdphiolidkaaGreatDoor.shared.andT (Go.Proofs.YtbmcdphiolidkaaGreatDoor.shared.andT (Go.Proofs.YtbmcdphiolidkaaGreatDoor.shared.andT (Go.Proofs.YtbmcdphiolidkaaGreatDoor.shared.andT (Go.Proofs.YtbmcdphiolidkaaGreatDoor.shared.andT (Go.Proofs.YtbmcdphiolidkaaGreatDoor.shared.andT (Go.Proofs.YtbmcdphiolidkaaGreatDoor.shared.andT (Go.Proofs.YtbmcdphiolidkaaGreatDoor.shared.andT (Go.Proofs.YtbmcdphiolidkaaGreatDoor.shared.andT (Go.Proofs.YtbmcdphiolidkaaGreatDoor.shared.andT j0 Go.Proofs.YtbmcdphiolidkaaGreatDoor.shared.j1) Go.Proofs.YtbmcdphiolidkaaGreatDoor.shared.j2) j3) j4) j5) Go.Proofs.YtbmcdphiolidkaaGreatDoor.shared.j6) j7) Go.Proofs.YtbmcdphiolidkaaGreatDoor.shared.j8) j9) j10) j11) j12) j13) j14) j15) j16) j17) j18) j19) j20) j21) Go.Proofs.YtbmcdphiolidkaaGreatDoor.shared.j22) j23) Go.Proofs.YtbmcdphiolidkaaGreatDoor.shared.j24) Go.Proofs.YtbmcdphiolidkaaGreatDoor.shared.j25) Go.Proofs.YtbmcdphiolidkaaGreatDoor.shared.j26) Go.Proofs.YtbmcdphiolidkaaGreatDoor.shared.j27) j28) j29) j30) j31)

theorem over : Rows.VmbExamplesSaid :=
  OpenClaim.holds_of_wide 5 Tryz.f5 rfl rfl rfl rfl rfl rfl rfl ⟨rfl, rfl, rfl, rfl, rfl⟩ rfl rfl rfl rfl rfl (by kernel_rfl) Tryz.func5 closed
    (of_decide_eq_true (by kernel_rfl)) (by unfold Func.isWrapper; first | (rw [if_pos (by decide +kernel)]; kernel_rfl) | (rw [if_neg (by decide +kernel)]; exact ⟨rfl, rfl⟩))
    (fun os started H enc _ => lifted os started H enc)

/-- ████ THE TIED CARD ████ -/
theorem proved : Rows.VmbExamplesCardSaid :=
  Claim7.holds_tied_plain_at .later [] [.data, .data] true (true, "7418da4b11740ddfbf63b38dcf9f9e59eefe84f53bdee1d7c1d491036b7b47f3") false
    over (fun _ h => by cases h) Go.Proofs.YtbmcdphiolidkaaGreatDoor.card_text (fun _ h => by cases h) vmbExamples_row_tie rfl ⟨rfl, rfl⟩ Go.Proofs.YtbmcdphiolidkaaGreatDoor.card_main rfl
    (fun f fn hf hfn => by
      obtain rfl : f = 5 := Option.some.inj (Go.Proofs.YtbmcdphiolidkaaGreatDoor.card_named.symm.trans hf) |>.symm
      obtain rfl : fn = Tryz.f5 := (Option.some.inj (Tryz.func5.symm.trans hfn)).symm
      exact ⟨Go.Proofs.YtbmcdphiolidkaaGreatDoor.card_looks, fun j t ht => by
        have hm : t ∈ Tryz.f5.params.toList := List.mem_of_getElem? (i := j) (by rw [← ht]; simp)
        have := List.all_eq_true.1 Go.Proofs.YtbmcdphiolidkaaGreatDoor.card_std t hm
        exact (by simpa using this : Tryz.prog.wantsStandIn t = false)⟩)
    Go.Proofs.YtbmcdphiolidkaaGreatDoor.card_goes
end Go.Proofs.YtbmcdphiolidkaaGreatDoor.vmbExamples
