/- IncMoves returns true for every input, and changes nothing that was there before: 'Rows.IncMovesCardSaid', the tied card. The condition is the row's own: spindle/kinds.quarters reads as the program's text lays it (the card ties it). -/
import Derived.Test.YtbmcdphiolidkaaDoorRows
import Derived.Test.YtbmcdphiolidkaaDoorCards
import Derived.Test.YtbmcdphiolidkaaDoorTie
import Derived.Test.YtbmcdphiolidkaaDoorIL5
import Derived.Test.YtbmcdphiolidkaaDoorJ
import Derived.WalkKit
import Derived.ProofKit
import Derived.OpenShut
import Derived.LaidMore
import Derived.Stop.Joined
import Derived.SevenTiedAt
namespace Go.Proofs.YtbmcdphiolidkaaDoor.incMoves
open Go.ChangeShapes Go.WideShapes Go.ChangeAt Go.RowKit
set_option linter.unusedVariables false

theorem own : ownKnob Tryd.prog.godebug = none := by kernel_rfl
theorem flats : (Tryd.f3.params.toList.all fun t => Go.Ab.flat Tryd.prog 16 t) = true := by kernel_rfl
theorem datum0 : Go.Ab.dav (Rows.laid_spindle_kinds_quarters (H := Unit)) = some Go.Ab.tNearU.Gcells0 := by kernel_rfl

/-- The heap that the program's own text lays meets the condition. -/
theorem door_met (os : Os) (args : Array Value) : laidMetH Tryd.prog Rows.incMovesRow.laid ((World.doorLaid Tryd.prog 40 os).forCall (fun _ _ => 0) ⟨#[], args, []⟩).memory :=
  laidMetH_of_parts3 (fuel := 8) (laidMet_of_run' 8 (by kernel_rfl) (by kernel_rfl)) (by kernel_rfl) (by kernel_rfl)

set_option maxRecDepth 100000 in
theorem lifted (os : Os) (started : os.Started) (H : Type) (enc : TypeId × Value → H) :
    ReturnsInHanded {} Tryd.checked os 3 .any (fun w args => (Rows.incMovesSpec.pre enc Tryd.prog Tryd.f3 [] false w args ∧ laidMetH Tryd.prog Rows.incMovesRow.laid w) ∧ sizedMet enc Tryd.prog Tryd.f3 (OpenSpec.ofChange Rows.incMovesSpec) false w args)
      (Rows.incMovesSpec.post enc Tryd.prog Tryd.f3 false true false false) := by
  refine returnsInHanded_of_change_and (C := Tryd.checked) (X := fun w _ => laidMetH Tryd.prog Rows.incMovesRow.laid w) (fun _ _ _ hh h => h.of_heap hh) own started (by kernel_rfl) Tryd.func3
    (ChangeSpec.witness_shaped (enc := enc) (C := Tryd.checked) (os := os) (X := fun w _ => laidMetH Tryd.prog Rows.incMovesRow.laid w) false (World.doorLaid Tryd.prog 40 os) #[.int .i64 0, .int .i64 0, .slice none 0 0, .agg #[.int .u8 0, .int .u8 0, .int .u8 0, .int .u8 0, .int .u8 0, .int .u8 0, .int .u8 0, .int .u8 0, .int .u8 0, .int .u8 0, .int .u8 0, .int .u8 0, .int .u8 0, .int .u8 0, .int .u8 0, .int .u8 0, .int .u8 0, .int .u8 0, .int .u8 0, .int .u8 0, .int .u8 0, .int .u8 0, .int .u8 0, .slice none 0 0, .slice none 0 0, .int .u8 0, .int .i64 0, .slice none 0 0, .string .empty], .int .i64 0, .bool false] 8 rfl (World.shaped_of_RefB (by kernel_rfl) (by kernel_rfl)) (by kernel_rfl) (by kernel_rfl) (by kernel_rfl) (door_met os _)) ?_
  intro W base args ds gs before hval0 hW _ _ hL _
  have hval : ∀ (j : Nat) t v, Tryd.f3.params[j]? = some t → args[j]? = some v → Value.okWide Tryd.prog W .any base t v := hval0
  have hW' := hW
  obtain ⟨p, q, hA0, hV, rfl, hfz, hnd⟩ := hW
  have hA : DataW.TrodAll enc Tryd.prog W 0 (fun _ => true) true Tryd.f3.params.toList args.toList ds p := hA0
  obtain ⟨xs, hr, hok⟩ := Go.Ab.args_av (N := maxLen) (F := 16) (Nat.le_refl _) (fun t ht => List.all_eq_true.1 flats t ht) (fun j t v h1 h2 => hval j t v (by rw [← h1]; simp) (by rw [← h2]; simp)) hA
  have hG : Go.Ab.GOk Go.Ab.tNearU.Gk (Go.Ab.gOf W) := Go.Ab.laid_gok (t := 130) (F := 12) (by kernel_rfl) hL (by kernel_rfl) (by kernel_rfl) (by kernel_rfl) datum0
  obtain ⟨C, S', hC, hc⟩ := Go.Ab.tNearU.incMoves_law xs hok
  refine (Go.Ab.law_callsG (args := args) hC hG hr (by decide) hc).mono fun e W' ⟨he, hs, ho, hu⟩ => ?_
  subst he
  exact ⟨_, rfl, Go.Ab.law_post (tb := 4) (by kernel_rfl) (by kernel_rfl) (slices_full_of Tryd.prog (by kernel_rfl)) (fun t ht => of_decide_eq_true (List.all_eq_true.1 (show (Tryd.f3.params.toList.all fun t => decide (t < Tryd.prog.types.size)) = true by kernel_rfl) t ht)) rfl
    (fun ds hl => by rw [Tryd.params3] at hl; match ds, hl with | [_, _, _, _, _, _], _ => rfl) (by kernel_rfl) Tryd.underlying4 hW' hs ho hu⟩

theorem j0 : (Rows.incMovesRow.wf (OpenSpec.ofChange Rows.incMovesSpec)) = true := by kernel_rfl
theorem j3 : (Tryd.f3.params.all (Tryd.prog.readableRec ·)) = true := by kernel_rfl
theorem j4 : (namedTie Tryd.prog Rows.incMovesRow.named Rows.incMovesSpec.vars) = true := by kernel_rfl
theorem j5 : ((Rows.incMovesRow.stops == [])) = true := by kernel_rfl
theorem j7 : ((Rows.incMovesRow.knobs == [])) = true := by kernel_rfl
theorem j9 : ((Rows.incMovesRow.inPlace == Tryd.prog.inPlace 3)) = true := by kernel_rfl
theorem j10 : ((Rows.incMovesRow.unfollowed == Tryd.prog.unfollowed 3)) = true := by kernel_rfl
theorem j11 : ((Rows.incMovesRow.recurses == Tryd.prog.recurses 3)) = true := by kernel_rfl
theorem j12 : ((Rows.incMovesRow.named == Tryd.prog.varsNamed 3)) = true := by kernel_rfl
theorem j13 : ((Rows.incMovesRow.maps == (Tryd.f3.params.toList ++ Rows.incMovesSpec.plain.varTypes Tryd.prog).any (Tryd.prog.mapsRec ·))) = true := by kernel_rfl
theorem j14 : ((Rows.incMovesRow.ifaces == (Tryd.f3.params.toList ++ Rows.incMovesSpec.plain.varTypes Tryd.prog).any (Tryd.prog.ifacesRec ·))) = true := by kernel_rfl
theorem j15 : ((Rows.incMovesRow.mapsOut == Tryd.prog.mapsAmong Tryd.f3.resultTypes.toList)) = true := by kernel_rfl
theorem j16 : ((Rows.incMovesRow.loops == (Tryd.f3.params.toList ++ Rows.incMovesSpec.plain.varTypes Tryd.prog).any (Tryd.prog.loopsFrom ·))) = true := by kernel_rfl
theorem j17 : ((Rows.incMovesRow.wideKeys == (Tryd.f3.params.toList ++ Rows.incMovesSpec.plain.varTypes Tryd.prog ++ Tryd.f3.resultTypes.toList).any (Tryd.prog.wideKeysFrom ·))) = true := by kernel_rfl
theorem j18 : (Rows.incMovesSpec.vars.all (Tryd.prog.varReadable ·)) = true := by kernel_rfl
theorem j19 : (Tryd.f3.resultTypes.all (fun t => Tryd.prog.readableRec t && decide (t < Tryd.prog.types.size))) = true := by kernel_rfl
theorem j20 : ((Rows.incMovesRow.ifacesOut == Tryd.f3.resultTypes.toList.any (Tryd.prog.ifacesRec ·))) = true := by kernel_rfl
theorem j21 : ((Rows.incMovesRow.loopsOut == Tryd.f3.resultTypes.toList.any (Tryd.prog.loopsFrom ·))) = true := by kernel_rfl
theorem j23 : (Rows.incMovesRow.shortTexts.isNone) = true := by kernel_rfl
theorem j28 : ((Rows.incMovesRow.kinds == (if Rows.incMovesRow.domain.isEmpty then [] else Tryd.f3.params.toList.map fun t => match Tryd.prog.underlying t with | some (.int k) => some k | _ => none))) = true := by kernel_rfl
theorem j29 : ((Rows.incMovesRow.pinned == Rows.incMovesRow.pinnedBy)) = true := by kernel_rfl
theorem j30 : ((Rows.incMovesRow.veiled == (Tryd.f3.params.toList ++ Rows.incMovesSpec.plain.varTypes Tryd.prog ++ Tryd.f3.resultTypes.toList).any (Tryd.prog.veiledRec ·))) = true := by kernel_rfl
theorem j31 : (Rows.incMovesRow.veiledFits Tryd.prog Tryd.f3.params.toList (Tryd.f3.params.toList ++ Rows.incMovesSpec.plain.varTypes Tryd.prog ++ Tryd.f3.resultTypes.toList)) = true := by kernel_rfl
set_option maxRecDepth 100000 in
theorem closed : joinedFacts Tryd.prog 3 Tryd.f3 Rows.incMovesSpec Rows.incMovesRow = true := (Go.Proofs.YtbmcdphiolidkaaDoor.shared.andT (Go.Proofs.YtbmcdphiolidkaaDoor.shared.andT (Go.Proofs.YtbmcdphiolidkaaDoor.shared.andT (Go.Proofs.YtbmcdphiolidkaaDoor.shared.andT (Go.Proofs.YtbmcdphiolidkaaDoor.shared.andT (Go.Proofs.YtbmcdphiolidkaaDoor.shared.andT (Go.Proofs.YtbmcdphiolidkaaDoor.shared.andT (Go.Proofs.YtbmcdphiolidkaaDoor.shared.andT (Go.Proofs.YtbmcdphiolidkaaDoor.shared.andT (Go.Proofs.YtbmcdphiolidkaaDoor.shared.andT (Go.Proofs.YtbmcdphiolidkaaDoor.shared.andT (Go.Proofs.YtbmcdphiolidkaaDoor.shared.andT (Go.Proofs.YtbmcdphiolidkaaDoor.shared.andT (Go.Proofs.YtbmcdphiolidkaaDoor.shared.andT (Go.Proofs.YtbmcdphiolidkaaDoor.shared.andT (Go.Proofs.YtbmcdphiolidkaaDoor.shared.andT (Go.Proofs.YtbmcdphiolidkaaDoor.shared.andT (Go.Proofs.YtbmcdphiolidkaaDoor.shared.andT (Go.Proofs.YtbmcdphiolidkaaDoor.shared.andT (Go.Proofs.YtbmcdphiolidkaaDoor.shared.andT (Go.Proofs.YtbmcdphiolidkaaDoor.shared.andT (Go.Proofs.YtbmcdphiolidkaaDoor.shared.andT (Go.Proofs.YtbmcdphiolidkaaDoor.shared.andT (Go.Proofs.YtbmcdphiolidkaaDoor.shared.andT (Go.Proofs.YtbmcdphiolidkaaDoor.shared.andT (Go.Proofs.YtbmcdphiolidkaaDoor.shared.andT (Go.Proofs.YtbmcdphiolidkaaDoor.shared.andT (Go.Proofs.YtbmcdphiolidkaaDoor.shared.andT (Go.Proofs.YtbmcdphiolidkaaDoor.shared.andT (Go.Proofs.YtbmcdphiolidkaaDoor.shared.andT (Go.Proofs.YtbmcdphiolidkaaDoor.shared.andT j0 Go.Proofs.YtbmcdphiolidkaaDoor.shared.j1) Go.Proofs.YtbmcdphiolidkaaDoor.shared.j2) j3) j4) j5) Go.Proofs.YtbmcdphiolidkaaDoor.shared.j6) j7) Go.Proofs.YtbmcdphiolidkaaDoor.shared.j8) j9) j10) j11) j12) j13) j14) j15) j16) j17) j18) j19) j20) j21) Go.Proofs.YtbmcdphiolidkaaDoor.shared.j22) j23) Go.Proofs.YtbmcdphiolidkaaDoor.shared.j24) Go.Proofs.YtbmcdphiolidkaaDoor.shared.j25) Go.Proofs.YtbmcdphiolidkaaDoor.shared.j26) Go.Proofs.YtbmcdphiolidkaaDoor.shared.j27) j28) j29) j30) j31)

theorem over : Rows.IncMovesSaid :=
  OpenClaim.holds_of_wide 3 Tryd.f3 rfl rfl rfl rfl rfl rfl rfl ⟨rfl, rfl, rfl, rfl, rfl⟩ rfl rfl rfl rfl rfl (by kernel_rfl) Tryd.func3 closed
    (of_decide_eq_true (by kernel_rfl)) (by unfold Func.isWrapper; first | (rw [if_pos (by decide +kernel)]; kernel_rfl) | (rw [if_neg (by decide +kernel)]; exact ⟨rfl, rfl⟩))
    (fun os started H enc _ => lifted os started H enc)

/-- ████ THE TIED CARD ████ -/
theorem proved : Rows.IncMovesCardSaid :=
  Claim7.holds_tied_plain_at .later [] [.data] true (true, "d7babe9293344820591259cca82ee6c8f9ee1bba4c51767b8e79f76fab38e311") false
    over (fun _ h => by cases h) (by kernel_rfl) (fun _ h => by cases h) incMoves_row_tie rfl ⟨rfl, rfl⟩ (by kernel_rfl) rfl
    (fun f fn hf hfn => by
      obtain rfl : f = 3 := Option.some.inj ((show Tryd.prog.funcNamed "spindle/spindlelaw16.IncMoves" = some 3 by kernel_rfl).symm.trans hf) |>.symm
      obtain rfl : fn = Tryd.f3 := (Option.some.inj (Tryd.func3.symm.trans hfn)).symm
      exact ⟨by kernel_rfl, fun j t ht => by
        have hm : t ∈ Tryd.f3.params.toList := List.mem_of_getElem? (i := j) (by rw [← ht]; simp)
        have := List.all_eq_true.1 (show (Tryd.f3.params.toList.all fun t => !Tryd.prog.wantsStandIn t) = true by kernel_rfl) t hm
        exact (by simpa using this : Tryd.prog.wantsStandIn t = false)⟩)
    (by kernel_rfl)
end Go.Proofs.YtbmcdphiolidkaaDoor.incMoves
