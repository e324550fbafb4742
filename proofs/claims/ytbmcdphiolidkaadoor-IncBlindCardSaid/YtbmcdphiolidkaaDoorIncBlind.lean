/- IncBlind returns true for every input, and changes nothing that was there before: 'Rows.IncBlindCardSaid', the tied card. The condition is the row's own: spindle/kinds.quarters reads as the program's text lays it (the card ties it). -/
import Derived.Test.YtbmcdphiolidkaaDoorRows
import Derived.Test.YtbmcdphiolidkaaDoorCards
import Derived.Test.YtbmcdphiolidkaaDoorTie
import Derived.Test.YtbmcdphiolidkaaDoorIJB
import Derived.Test.YtbmcdphiolidkaaDoorJ
import Derived.WalkKit
import Derived.ProofKit
import Derived.OpenShut
import Derived.LaidMore
import Derived.Stop.Joined
import Derived.SevenTiedAt
namespace Go.Proofs.YtbmcdphiolidkaaDoor.incBlind
open Go.ChangeShapes Go.WideShapes Go.ChangeAt Go.RowKit
set_option linter.unusedVariables false

theorem own : ownKnob Tryd.prog.godebug = none := by kernel_rfl
theorem flats : (Tryd.f5.params.toList.all fun t => Go.Ab.flat Tryd.prog 16 t) = true := by kernel_rfl
theorem datum0 : Go.Ab.dav (Rows.laid_spindle_kinds_quarters (H := Unit)) = some Go.Ab.tNearU.Gcells0 := by kernel_rfl

/-- The heap that the program's own text lays meets the condition. -/
theorem door_met (os : Os) (args : Array Value) : laidMetH Tryd.prog Rows.incBlindRow.laid ((World.doorLaid Tryd.prog 40 os).forCall (fun _ _ => 0) ⟨#[], args, []⟩).memory :=
  laidMetH_of_parts3 (fuel := 8) (laidMet_of_run' 8 (by kernel_rfl) (by kernel_rfl)) (by kernel_rfl) (by kernel_rfl)

set_option maxRecDepth 100000 in
theorem lifted (os : Os) (started : os.Started) (H : Type) (enc : TypeId × Value → H) :
    ReturnsInHanded {} Tryd.checked os 5 .any (fun w args => (Rows.incBlindSpec.pre enc Tryd.prog Tryd.f5 [] false w args ∧ laidMetH Tryd.prog Rows.incBlindRow.laid w) ∧ sizedMet enc Tryd.prog Tryd.f5 (OpenSpec.ofChange Rows.incBlindSpec) false w args)
      (Rows.incBlindSpec.post enc Tryd.prog Tryd.f5 false true false false) := by
  refine returnsInHanded_of_change_and (C := Tryd.checked) (X := fun w _ => laidMetH Tryd.prog Rows.incBlindRow.laid w) (fun _ _ _ hh h => h.of_heap hh) own started (by kernel_rfl) Tryd.func5
    (ChangeSpec.witness_shaped (enc := enc) (C := Tryd.checked) (os := os) (X := fun w _ => laidMetH Tryd.prog Rows.incBlindRow.laid w) false (World.doorLaid Tryd.prog 40 os) #[.int .i64 0, .int .i64 0, .slice none 0 0, .int .i64 0, .agg #[.int .u8 0, .int .u8 0, .int .u8 0, .int .u8 0, .int .u8 0, .int .u8 0, .int .u8 0, .int .u8 0, .int .u8 0, .int .u8 0, .int .u8 0, .int .u8 0, .int .u8 0, .int .u8 0, .int .u8 0, .int .u8 0, .int .u8 0, .int .u8 0, .int .u8 0, .int .u8 0, .int .u8 0, .int .u8 0, .int .u8 0, .slice none 0 0, .slice none 0 0, .int .u8 0, .int .i64 0, .slice none 0 0, .string .empty], .agg #[.int .u8 0, .int .u8 0, .int .u8 0, .int .u8 0, .int .u8 0, .int .u8 0, .int .u8 0, .int .u8 0, .int .u8 0, .int .u8 0, .int .u8 0, .int .u8 0, .int .u8 0, .int .u8 0, .int .u8 0, .int .u8 0, .int .u8 0, .int .u8 0, .int .u8 0, .int .u8 0, .int .u8 0, .int .u8 0, .int .u8 0, .slice none 0 0, .slice none 0 0, .int .u8 0, .int .i64 0, .slice none 0 0, .string .empty]] 8 rfl (World.shaped_of_RefB (by kernel_rfl) (by kernel_rfl)) (by kernel_rfl) (by kernel_rfl) (by kernel_rfl) (door_met os _)) ?_
  intro W base args ds gs before hval0 hW _ _ hL _
  have hval : ∀ (j : Nat) t v, Tryd.f5.params[j]? = some t → args[j]? = some v → Value.okWide Tryd.prog W .any base t v := hval0
  have hW' := hW
  obtain ⟨p, q, hA0, hV, rfl, hfz, hnd⟩ := hW
  have hA : DataW.TrodAll enc Tryd.prog W 0 (fun _ => true) true Tryd.f5.params.toList args.toList ds p := hA0
  obtain ⟨xs, hr, hok⟩ := Go.Ab.args_av (N := maxLen) (F := 16) (Nat.le_refl _) (fun t ht => List.all_eq_true.1 flats t ht) (fun j t v h1 h2 => hval j t v (by rw [← h1]; simp) (by rw [← h2]; simp)) hA
  have hG : Go.Ab.GOk Go.Ab.tNearU.Gk (Go.Ab.gOf W) := Go.Ab.laid_gok (t := 130) (F := 12) (by kernel_rfl) hL (by kernel_rfl) (by kernel_rfl) (by kernel_rfl) datum0
  obtain ⟨C, S', hC, hc⟩ := Go.Ab.tNearU.incBlind_law xs hok
  refine (Go.Ab.law_callsG (args := args) hC hG hr (by decide) hc).mono fun e W' ⟨he, hs, ho, hu⟩ => ?_
  subst he
  exact ⟨_, rfl, Go.Ab.law_post (tb := 4) (by kernel_rfl) (by kernel_rfl) (slices_full_of Tryd.prog (by kernel_rfl)) (fun t ht => of_decide_eq_true (List.all_eq_true.1 (show (Tryd.f5.params.toList.all fun t => decide (t < Tryd.prog.types.size)) = true by kernel_rfl) t ht)) rfl
    (fun ds hl => by rw [Tryd.params5] at hl; match ds, hl with | [_, _, _, _, _, _], _ => rfl) (by kernel_rfl) Tryd.underlying4 hW' hs ho hu⟩

theorem j0 : (Rows.incBlindRow.wf (OpenSpec.ofChange Rows.incBlindSpec)) = true := by kernel_rfl
theorem j3 : (Tryd.f5.params.all (Tryd.prog.readableRec ·)) = true := by kernel_rfl
theorem j4 : (namedTie Tryd.prog Rows.incBlindRow.named Rows.incBlindSpec.vars) = true := by kernel_rfl
theorem j5 : ((Rows.incBlindRow.stops == [])) = true := by kernel_rfl
theorem j7 : ((Rows.incBlindRow.knobs == [])) = true := by kernel_rfl
theorem j9 : ((Rows.incBlindRow.inPlace == Tryd.prog.inPlace 5)) = true := by kernel_rfl
theorem j10 : ((Rows.incBlindRow.unfollowed == Tryd.prog.unfollowed 5)) = true := by kernel_rfl
theorem j11 : ((Rows.incBlindRow.recurses == Tryd.prog.recurses 5)) = true := by kernel_rfl
theorem j12 : ((Rows.incBlindRow.named == Tryd.prog.varsNamed 5)) = true := by kernel_rfl
theorem j13 : ((Rows.incBlindRow.maps == (Tryd.f5.params.toList ++ Rows.incBlindSpec.plain.varTypes Tryd.prog).any (Tryd.prog.mapsRec ·))) = true := by kernel_rfl
theorem j14 : ((Rows.incBlindRow.ifaces == (Tryd.f5.params.toList ++ Rows.incBlindSpec.plain.varTypes Tryd.prog).any (Tryd.prog.ifacesRec ·))) = true := by kernel_rfl
theorem j15 : ((Rows.incBlindRow.mapsOut == Tryd.prog.mapsAmong Tryd.f5.resultTypes.toList)) = true := by kernel_rfl
theorem j16 : ((Rows.incBlindRow.loops == (Tryd.f5.params.toList ++ Rows.incBlindSpec.plain.varTypes Tryd.prog).any (Tryd.prog.loopsFrom ·))) = true := by kernel_rfl
theorem j17 : ((Rows.incBlindRow.wideKeys == (Tryd.f5.params.toList ++ Rows.incBlindSpec.plain.varTypes Tryd.prog ++ Tryd.f5.resultTypes.toList).any (Tryd.prog.wideKeysFrom ·))) = true := by kernel_rfl
theorem j18 : (Rows.incBlindSpec.vars.all (Tryd.prog.varReadable ·)) = true := by kernel_rfl
theorem j19 : (Tryd.f5.resultTypes.all (fun t => Tryd.prog.readableRec t && decide (t < Tryd.prog.types.size))) = true := by kernel_rfl
theorem j20 : ((Rows.incBlindRow.ifacesOut == Tryd.f5.resultTypes.toList.any (Tryd.prog.ifacesRec ·))) = true := by kernel_rfl
theorem j21 : ((Rows.incBlindRow.loopsOut == Tryd.f5.resultTypes.toList.any (Tryd.prog.loopsFrom ·))) = true := by kernel_rfl
theorem j23 : (Rows.incBlindRow.shortTexts.isNone) = true := by kernel_rfl
theorem j28 : ((Rows.incBlindRow.kinds == (if Rows.incBlindRow.domain.isEmpty then [] else Tryd.f5.params.toList.map fun t => match Tryd.prog.underlying t with | some (.int k) => some k | _ => none))) = true := by kernel_rfl
theorem j29 : ((Rows.incBlindRow.pinned == Rows.incBlindRow.pinnedBy)) = true := by kernel_rfl
theorem j30 : ((Rows.incBlindRow.veiled == (Tryd.f5.params.toList ++ Rows.incBlindSpec.plain.varTypes Tryd.prog ++ Tryd.f5.resultTypes.toList).any (Tryd.prog.veiledRec ·))) = true := by kernel_rfl
theorem j31 : (Rows.incBlindRow.veiledFits Tryd.prog Tryd.f5.params.toList (Tryd.f5.params.toList ++ Rows.incBlindSpec.plain.varTypes Tryd.prog ++ Tryd.f5.resultTypes.toList)) = true := by kernel_rfl
set_option maxRecDepth 100000 in
theorem closed : joinedFacts Tryd.prog 5 Tryd.f5 Rows.incBlindSpec Rows.incBlindRow = true := (Go.Proofs.YtbmcdphiolidkaaDoor.shared.andT (Go.Proofs.YtbmcdphiolidkaaDoor.shared.andT (Go.Proofs.YtbmcdphiolidkaaDoor.shared.andT (Go.Proofs.YtbmcdphiolidkaaDoor.shared.andT (Go.Proofs.YtbmcdphiolidkaaDoor.shared.andT (Go.Proofs.YtbmcdphiolidkaaDoor.shared.andT (Go.Proofs.YtbmcdphiolidkaaDoor.shared.andT (Go.Proofs.YtbmcdphiolidkaaDoor.shared.andT (Go.Proofs.YtbmcdphiolidkaaDoor.shared.andT (Go.Proofs.YtbmcdphiolidkaaDoor.shared.andT (Go.Proofs.YtbmcdphiolidkaaDoor.shared.andT (Go.Proofs.YtbmcdphiolidkaaDoor.shared.andT (Go.Proofs.YtbmcdphiolidkaaDoor.shared.andT (Go.Proofs.YtbmcdphiolidkaaDoor.shared.andT (Go.Proofs.YtbmcdphiolidkaaDoor.shared.andT (Go.Proofs.YtbmcdphiolidkaaDoor.shared.andT (Go.Proofs.YtbmcdphiolidkaaDoor.shared.andT (Go.Proofs.YtbmcdphiolidkaaDoor.shared.andT (Go.Proofs.YtbmcdphiolidkaaDoor.shared.andT (Go.Proofs.YtbmcdphiolidkaaDoor.shared.andT (Go.Proofs.YtbmcdphiolidkaaDoor.shared.andT (Go.Proofs.YtbmcdphiolidkaaDoor.shared.andT (Go.Proofs.YtbmcdphiolidkaaDoor.shared.andT (Go.Proofs.YtbmcdphiolidkaaDoor.shared.andT (Go.Proofs.YtbmcdphiolidkaaDoor.shared.andT (Go.Proofs.YtbmcdphiolidkaaDoor.shared.andT (Go.Proofs.YtbmcdphiolidkaaDoor.shared.andT (Go.Proofs.YtbmcdphiolidkaaDoor.shared.andT (Go.Proofs.YtbmcdphiolidkaaDoor.shared.andT (Go.Proofs.YtbmcdphiolidkaaDoor.shared.andT (Go.Proofs.YtbmcdphiolidkaaDoor.shared.andT j0 Go.Proofs.YtbmcdphiolidkaaDoor.shared.j1) Go.Proofs.YtbmcdphiolidkaaDoor.shared.j2) j3) j4) j5) Go.Proofs.YtbmcdphiolidkaaDoor.shared.j6) j7) Go.Proofs.YtbmcdphiolidkaaDoor.shared.j8) j9) j10) j11) j12) j13) j14) j15) j16) j17) j18) j19) j20) j21) Go.Proofs.YtbmcdphiolidkaaDoor.shared.j22) j23) Go.Proofs.YtbmcdphiolidkaaDoor.shared.j24) Go.Proofs.YtbmcdphiolidkaaDoor.shared.j25) Go.Proofs.YtbmcdphiolidkaaDoor.shared.j26) Go.Proofs.YtbmcdphiolidkaaDoor.shared.j27) j28) j29) j30) j31)

theorem over : Rows.IncBlindSaid :=
  OpenClaim.holds_of_wide 5 Tryd.f5 rfl rfl rfl rfl rfl rfl rfl ⟨rfl, rfl, rfl, rfl, rfl⟩ rfl rfl rfl rfl rfl (by kernel_rfl) Tryd.func5 closed
    (of_decide_eq_true (by kernel_rfl)) (by unfold Func.isWrapper; first | (rw [if_pos (by decide +kernel)]; kernel_rfl) | (rw [if_neg (by decide +kernel)]; exact ⟨rfl, rfl⟩))
    (fun os started H enc _ => lifted os started H enc)

/-- ████ THE TIED CARD ████ -/
theorem proved : Rows.IncBlindCardSaid :=
  Claim7.holds_tied_plain_at .later [] [.data] true (true, "d7babe9293344820591259cca82ee6c8f9ee1bba4c51767b8e79f76fab38e311") false
    over (fun _ h => by cases h) (by kernel_rfl) (fun _ h => by cases h) incBlind_row_tie rfl ⟨rfl, rfl⟩ (by kernel_rfl) rfl
    (fun f fn hf hfn => by
      obtain rfl : f = 5 := Option.some.inj ((show Tryd.prog.funcNamed "spindle/spindlelaw16.IncBlind" = some 5 by kernel_rfl).symm.trans hf) |>.symm
      obtain rfl : fn = Tryd.f5 := (Option.some.inj (Tryd.func5.symm.trans hfn)).symm
      exact ⟨by kernel_rfl, fun j t ht => by
        have hm : t ∈ Tryd.f5.params.toList := List.mem_of_getElem? (i := j) (by rw [← ht]; simp)
        have := List.all_eq_true.1 (show (Tryd.f5.params.toList.all fun t => !Tryd.prog.wantsStandIn t) = true by kernel_rfl) t hm
        exact (by simpa using this : Tryd.prog.wantsStandIn t = false)⟩)
    (by kernel_rfl)
end Go.Proofs.YtbmcdphiolidkaaDoor.incBlind
