/- IncRanges returns true for every input, and changes nothing that was there before: 'Rows.IncRangesSaid', no condition. -/
import Derived.Test.YtbmcdphiolidkaaRows
import Derived.Test.YtbmcdphiolidkaaIIR
import Derived.Test.YtbmcdphiolidkaaJ
import Derived.WalkKit
import Derived.ProofKit
import Derived.OpenShut
namespace Go.Proofs.Ytbmcdphiolidkaa.incRanges
open Go.ChangeShapes Go.WideShapes Go.ChangeAt Go.RowKit
set_option linter.unusedVariables false

theorem own : ownKnob Try.prog.godebug = none := by kernel_rfl
theorem flats : (Try.f3.params.toList.all fun t => Go.Ab.flat Try.prog 16 t) = true := by kernel_rfl

set_option maxRecDepth 100000 in
theorem lifted (os : Os) (started : os.Started) (H : Type) (enc : TypeId × Value → H) :
    ReturnsInHanded {} Try.checked os 3 .any (Rows.incRangesSpec.pre6 enc Try.prog Try.f3 Rows.incRangesRow.domain false) (Rows.incRangesSpec.post enc Try.prog Try.f3 false true false false) := by
  refine returnsInHanded_of_change (C := Try.checked) own started (by kernel_rfl) Try.func3
    (ChangeSpec.witness6 (enc := enc) (C := Try.checked) false ⟨#[], #[.int .i64 0, .int .i64 0, .slice none 0 0, .agg #[.int .u8 0, .int .u8 0, .int .u8 0, .int .u8 0, .int .u8 0, .int .u8 0, .int .u8 0, .int .u8 0, .int .u8 0, .int .u8 0, .int .u8 0, .int .u8 0, .int .u8 0, .int .u8 0, .int .u8 0, .int .u8 0, .int .u8 0, .int .u8 0, .int .u8 0, .int .u8 0, .int .u8 0, .int .u8 0, .int .u8 0, .slice none 0 0, .slice none 0 0, .int .u8 0, .int .i64 0, .slice none 0 0, .string .empty], .int .u8 0], []⟩ 8 (by kernel_rfl) (by kernel_rfl) (by kernel_rfl) (by kernel_rfl)) ?_
  intro W base args ds gs before hval0 hW hcnd _
  have hval : ∀ (j : Nat) t v, Try.f3.params[j]? = some t → args[j]? = some v → Value.okWide Try.prog W .any base t v := hval0
  have hW' := hW
  obtain ⟨p, q, hA0, hV, rfl, hfz, hnd⟩ := hW
  have hA : DataW.TrodAll enc Try.prog W 0 (fun _ => true) true Try.f3.params.toList args.toList ds p := hA0
  obtain ⟨xs, hr, hok⟩ := Go.Ab.args_av (N := maxLen) (F := 16) (Nat.le_refl _) (fun t ht => List.all_eq_true.1 flats t ht) (fun j t v h1 h2 => hval j t v (by simpa using h1) (by simpa using h2)) hA
  obtain ⟨C, S', hC, hc⟩ := Go.Ab.tNearU.incRanges_law xs hok
  refine (Go.Ab.law_calls (args := args) hC hr (by decide) hc).mono fun e W' ⟨he, hs, ho, hu⟩ => ?_
  subst he
  exact ⟨_, rfl, Go.Ab.law_post (tb := 4) (by kernel_rfl) (by kernel_rfl) (slices_full_of Try.prog (by kernel_rfl)) (fun t ht => of_decide_eq_true (List.all_eq_true.1 (show (Try.f3.params.toList.all fun t => decide (t < Try.prog.types.size)) = true by kernel_rfl) t ht)) rfl
    (fun ds hl => by rw [Try.params3] at hl; match ds, hl with | [_, _, _, _, _], _ => rfl) (by kernel_rfl) Try.underlying4 hW' hs ho hu⟩

theorem j0 : (Rows.incRangesRow.wf (OpenSpec.ofChange Rows.incRangesSpec)) = true := by kernel_rfl
theorem j3 : (Try.f3.params.all (Try.prog.readableRec ·)) = true := by kernel_rfl
theorem j4 : (namedTie Try.prog Rows.incRangesRow.named Rows.incRangesSpec.vars) = true := by kernel_rfl
theorem j5 : ((Rows.incRangesRow.stops == [])) = true := by kernel_rfl
theorem j7 : ((Rows.incRangesRow.knobs == [])) = true := by kernel_rfl
theorem j9 : ((Rows.incRangesRow.inPlace == Try.prog.inPlace 3)) = true := by kernel_rfl
theorem j10 : ((Rows.incRangesRow.unfollowed == Try.prog.unfollowed 3)) = true := by kernel_rfl
theorem j11 : ((Rows.incRangesRow.recurses == Try.prog.recurses 3)) = true := by kernel_rfl
theorem j12 : ((Rows.incRangesRow.named == Try.prog.varsNamed 3)) = true := by kernel_rfl
theorem j13 : ((Rows.incRangesRow.maps == (Try.f3.params.toList ++ Rows.incRangesSpec.plain.varTypes Try.prog).any (Try.prog.mapsRec ·))) = true := by kernel_rfl
theorem j14 : ((Rows.incRangesRow.ifaces == (Try.f3.params.toList ++ Rows.incRangesSpec.plain.varTypes Try.prog).any (Try.prog.ifacesRec ·))) = true := by kernel_rfl
theorem j15 : ((Rows.incRangesRow.mapsOut == Try.prog.mapsAmong Try.f3.resultTypes.toList)) = true := by kernel_rfl
theorem j16 : ((Rows.incRangesRow.loops == (Try.f3.params.toList ++ Rows.incRangesSpec.plain.varTypes Try.prog).any (Try.prog.loopsFrom ·))) = true := by kernel_rfl
theorem j17 : ((Rows.incRangesRow.wideKeys == (Try.f3.params.toList ++ Rows.incRangesSpec.plain.varTypes Try.prog ++ Try.f3.resultTypes.toList).any (Try.prog.wideKeysFrom ·))) = true := by kernel_rfl
theorem j18 : (Rows.incRangesSpec.vars.all (Try.prog.varReadable ·)) = true := by kernel_rfl
theorem j19 : (Try.f3.resultTypes.all (fun t => Try.prog.readableRec t && decide (t < Try.prog.types.size))) = true := by kernel_rfl
theorem j20 : ((Rows.incRangesRow.ifacesOut == Try.f3.resultTypes.toList.any (Try.prog.ifacesRec ·))) = true := by kernel_rfl
theorem j21 : ((Rows.incRangesRow.loopsOut == Try.f3.resultTypes.toList.any (Try.prog.loopsFrom ·))) = true := by kernel_rfl
theorem j23 : (Rows.incRangesRow.shortTexts.isNone) = true := by kernel_rfl
theorem j28 : ((Rows.incRangesRow.kinds == (if Rows.incRangesRow.domain.isEmpty then [] else Try.f3.params.toList.map fun t => match Try.prog.underlying t with | some (.int k) => some k | _ => none))) = true := by kernel_rfl
theorem j29 : ((Rows.incRangesRow.pinned == Rows.incRangesRow.pinnedBy)) = true := by kernel_rfl
theorem j30 : ((Rows.incRangesRow.veiled == (Try.f3.params.toList ++ Rows.incRangesSpec.plain.varTypes Try.prog ++ Try.f3.resultTypes.toList).any (Try.prog.veiledRec ·))) = true := by kernel_rfl
theorem j31 : (Rows.incRangesRow.veiledFits Try.prog Try.f3.params.toList (Try.f3.params.toList ++ Rows.incRangesSpec.plain.varTypes Try.prog ++ Try.f3.resultTypes.toList)) = true := by kernel_rfl
set_option maxRecDepth 100000 in
theorem closed : joinedFacts Try.prog 3 Try.f3 Rows.incRangesSpec Rows.incRangesRow = true := (Go.Proofs.Ytbmcdphiolidkaa.shared.andT (Go.Proofs.Ytbmcdphiolidkaa.shared.andT (Go.Proofs.Ytbmcdphiolidkaa.shared.andT (Go.Proofs.Ytbmcdphiolidkaa.shared.andT (Go.Proofs.Ytbmcdphiolidkaa.shared.andT (Go.Proofs.Ytbmcdphiolidkaa.shared.andT (Go.Proofs.Ytbmcdphiolidkaa.shared.andT (Go.Proofs.Ytbmcdphiolidkaa.shared.andT (Go.Proofs.Ytbmcdphiolidkaa.shared.andT (Go.Proofs.Ytbmcdphiolidkaa.shared.andT (Go.Proofs.Ytbmcdphiolidkaa.shared.andT (Go.Proofs.Ytbmcdphiolidkaa.shared.andT (Go.Proofs.Ytbmcdphiolidkaa.shared.andT (Go.Proofs.Ytbmcdphiolidkaa.shared.andT (Go.Proofs.Ytbmcdphiolidkaa.shared.andT (Go.Proofs.Ytbmcdphiolidkaa.shared.andT (Go.Proofs.Ytbmcdphiolidkaa.shared.andT (Go.Proofs.Ytbmcdphiolidkaa.shared.andT (Go.Proofs.Ytbmcdphiolidkaa.shared.andT (Go.Proofs.Ytbmcdphiolidkaa.shared.andT (Go.Proofs.Ytbmcdphiolidkaa.shared.andT (Go.Proofs.Ytbmcdphiolidkaa.shared.andT (Go.Proofs.Ytbmcdphiolidkaa.shared.andT (Go.Proofs.Ytbmcdphiolidkaa.shared.andT (Go.Proofs.Ytbmcdphiolidkaa.shared.andT (Go.Proofs.Ytbmcdphiolidkaa.shared.andT (Go.Proofs.Ytbmcdphiolidkaa.shared.andT (Go.Proofs.Ytbmcdphiolidkaa.shared.andT (Go.Proofs.Ytbmcdphiolidkaa.shared.andT (Go.Proofs.Ytbmcdphiolidkaa.shared.andT (Go.Proofs.Ytbmcdphiolidkaa.shared.andT j0 Go.Proofs.Ytbmcdphiolidkaa.shared.j1) Go.Proofs.Ytbmcdphiolidkaa.shared.j2) j3) j4) j5) Go.Proofs.Ytbmcdphiolidkaa.shared.j6) j7) Go.Proofs.Ytbmcdphiolidkaa.shared.j8) j9) j10) j11) j12) j13) j14) j15) j16) j17) j18) j19) j20) j21) Go.Proofs.Ytbmcdphiolidkaa.shared.j22) j23) Go.Proofs.Ytbmcdphiolidkaa.shared.j24) Go.Proofs.Ytbmcdphiolidkaa.shared.j25) Go.Proofs.Ytbmcdphiolidkaa.shared.j26) Go.Proofs.Ytbmcdphiolidkaa.shared.j27) j28) j29) j30) j31)

theorem over : Rows.incRangesRow.holds Try.pinned (OpenSpec.ofChange Rows.incRangesSpec) :=
  OpenClaim.holds_of_wide 3 Try.f3 rfl rfl rfl rfl rfl rfl rfl ⟨rfl, rfl, rfl, rfl, rfl⟩ rfl rfl rfl rfl rfl (by kernel_rfl) Try.func3 closed
    (of_decide_eq_true (by kernel_rfl)) (by unfold Func.isWrapper; first | (rw [if_pos (by decide +kernel)]; kernel_rfl) | (rw [if_neg (by decide +kernel)]; exact ⟨rfl, rfl⟩))
    (fun os started H enc _ => lifted os started H enc)

/-- ████ THE STATEMENT ████ -/
theorem proved : Rows.IncRangesSaid :=
  over
end Go.Proofs.Ytbmcdphiolidkaa.incRanges
