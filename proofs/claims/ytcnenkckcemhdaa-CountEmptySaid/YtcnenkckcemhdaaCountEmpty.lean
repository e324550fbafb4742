/- CountEmpty returns true for every input, and changes nothing that was there before: 'Rows.CountEmptySaid', no condition. -/
import Derived.Test.YtcnenkckcemhdaaRows
import Derived.Test.YtcnenkckcemhdaaCnsH3
import Derived.Test.YtcnenkckcemhdaaJ
import Derived.WalkKit
import Derived.ProofKit
import Derived.OpenShut
namespace Go.Proofs.Ytcnenkckcemhdaa.countEmpty
open Go.ChangeShapes Go.WideShapes Go.ChangeAt Go.RowKit
set_option linter.unusedVariables false

theorem own : ownKnob Try.prog.godebug = none := by kernel_rfl
theorem flats : (Try.f10.params.toList.all fun t => Go.Ab.flat Try.prog 16 t) = true := by kernel_rfl

set_option maxRecDepth 100000 in
theorem lifted (os : Os) (started : os.Started) (H : Type) (enc : TypeId × Value → H) :
    ReturnsInHanded {} Try.checked os 10 .any (Rows.countEmptySpec.pre6 enc Try.prog Try.f10 Rows.countEmptyRow.domain false) (Rows.countEmptySpec.post enc Try.prog Try.f10 false true false false) := by
  refine returnsInHanded_of_change (C := Try.checked) own started (by kernel_rfl) Try.func10
    (ChangeSpec.witness6 (enc := enc) (C := Try.checked) false ⟨#[], #[.int .i64 0, .int .i64 0, .slice none 0 0, .agg #[.int .u8 0, .int .u8 0, .int .u8 0, .int .u8 0, .int .u8 0, .int .u8 0, .int .u8 0, .int .u8 0, .int .u8 0, .int .u8 0, .int .u8 0, .int .u8 0, .int .u8 0, .int .u8 0, .int .u8 0, .int .u8 0, .int .u8 0, .int .u8 0, .int .u8 0, .int .u8 0, .int .u8 0, .int .u8 0, .int .u8 0, .slice none 0 0, .slice none 0 0, .int .u8 0, .int .i64 0, .slice none 0 0, .string .empty]], []⟩ 8 (by kernel_rfl) (by kernel_rfl) (by kernel_rfl) (by kernel_rfl)) ?_
  intro W base args ds gs before hval0 hW hcnd _
  have hval : ∀ (j : Nat) t v, Try.f10.params[j]? = some t → args[j]? = some v → Value.okWide Try.prog W .any base t v := hval0
  have hW' := hW
  obtain ⟨p, q, hA0, hV, rfl, hfz, hnd⟩ := hW
  have hA : DataW.TrodAll enc Try.prog W 0 (fun _ => true) true Try.f10.params.toList args.toList ds p := hA0
  obtain ⟨xs, hr, hok⟩ := Go.Ab.args_av (N := maxLen) (F := 16) (Nat.le_refl _) (fun t ht => List.all_eq_true.1 flats t ht) (fun j t v h1 h2 => hval j t v (by simpa using h1) (by simpa using h2)) hA
  obtain ⟨C, S', hC, hc⟩ := Go.Ab.tNearU.countEmpty_law xs hok
  refine (Go.Ab.law_calls (args := args) hC hr (by decide) hc).mono fun e W' ⟨he, hs, ho, hu⟩ => ?_
  subst he
  exact ⟨_, rfl, Go.Ab.law_post (tb := 4) (by kernel_rfl) (by kernel_rfl) (slices_full_of Try.prog (by kernel_rfl)) (fun t ht => of_decide_eq_true (List.all_eq_true.1 (show (Try.f10.params.toList.all fun t => decide (t < Try.prog.types.size)) = true by kernel_rfl) t ht)) rfl
    (fun ds hl => by rw [Try.params10] at hl; match ds, hl with | [_, _, _, _], _ => rfl) (by kernel_rfl) Try.underlying4 hW' hs ho hu⟩

theorem j0 : (Rows.countEmptyRow.wf (OpenSpec.ofChange Rows.countEmptySpec)) = true := by kernel_rfl
theorem j3 : (Try.f10.params.all (Try.prog.readableRec ·)) = true := by kernel_rfl
theorem j4 : (namedTie Try.prog Rows.countEmptyRow.named Rows.countEmptySpec.vars) = true := by kernel_rfl
theorem j5 : ((Rows.countEmptyRow.stops == [])) = true := by kernel_rfl
theorem j7 : ((Rows.countEmptyRow.knobs == [])) = true := by kernel_rfl
theorem j9 : ((Rows.countEmptyRow.inPlace == Try.prog.inPlace 10)) = true := by kernel_rfl
theorem j10 : ((Rows.countEmptyRow.unfollowed == Try.prog.unfollowed 10)) = true := by kernel_rfl
theorem j11 : ((Rows.countEmptyRow.recurses == Try.prog.recurses 10)) = true := by kernel_rfl
theorem j12 : ((Rows.countEmptyRow.named == Try.prog.varsNamed 10)) = true := by kernel_rfl
theorem j13 : ((Rows.countEmptyRow.maps == (Try.f10.params.toList ++ Rows.countEmptySpec.plain.varTypes Try.prog).any (Try.prog.mapsRec ·))) = true := by kernel_rfl
theorem j14 : ((Rows.countEmptyRow.ifaces == (Try.f10.params.toList ++ Rows.countEmptySpec.plain.varTypes Try.prog).any (Try.prog.ifacesRec ·))) = true := by kernel_rfl
theorem j15 : ((Rows.countEmptyRow.mapsOut == Try.prog.mapsAmong Try.f10.resultTypes.toList)) = true := by kernel_rfl
theorem j16 : ((Rows.countEmptyRow.loops == (Try.f10.params.toList ++ Rows.countEmptySpec.plain.varTypes Try.prog).any (Try.prog.loopsFrom ·))) = true := by kernel_rfl
theorem j17 : ((Rows.countEmptyRow.wideKeys == (Try.f10.params.toList ++ Rows.countEmptySpec.plain.varTypes Try.prog ++ Try.f10.resultTypes.toList).any (Try.prog.wideKeysFrom ·))) = true := by kernel_rfl
theorem j18 : (Rows.countEmptySpec.vars.all (Try.prog.varReadable ·)) = true := by kernel_rfl
theorem j19 : (Try.f10.resultTypes.all (fun t => Try.prog.readableRec t && decide (t < Try.prog.types.size))) = true := by kernel_rfl
theorem j20 : ((Rows.countEmptyRow.ifacesOut == Try.f10.resultTypes.toList.any (Try.prog.ifacesRec ·))) = true := by kernel_rfl
theorem j21 : ((Rows.countEmptyRow.loopsOut == Try.f10.resultTypes.toList.any (Try.prog.loopsFrom ·))) = true := by kernel_rfl
theorem j23 : (Rows.countEmptyRow.shortTexts.isNone) = true := by kernel_rfl
theorem j28 : ((Rows.countEmptyRow.kinds == (if Rows.countEmptyRow.domain.isEmpty then [] else Try.f10.params.toList.map fun t => match Try.prog.underlying t with | some (.int k) => some k | _ => none))) = true := by kernel_rfl
theorem j29 : ((Rows.countEmptyRow.pinned == Rows.countEmptyRow.pinnedBy)) = true := by kernel_rfl
theorem j30 : ((Rows.countEmptyRow.veiled == (Try.f10.params.toList ++ Rows.countEmptySpec.plain.varTypes Try.prog ++ Try.f10.resultTypes.toList).any (Try.prog.veiledRec ·))) = true := by kernel_rfl
theorem j31 : (Rows.countEmptyRow.veiledFits Try.prog Try.f10.params.toList (Try.f10.params.toList ++ Rows.countEmptySpec.plain.varTypes Try.prog ++ Try.f10.resultTypes.toList)) = true := by kernel_rfl
set_option maxRecDepth 100000 in
theorem closed : joinedFacts Try.prog 10 Try.f10 Rows.countEmptySpec Rows.countEmptyRow = true := (Go.Proofs.Ytcnenkckcemhdaa.shared.andT (Go.Proofs.Ytcnenkckcemhdaa.shared.andT (Go.Proofs.Ytcnenkckcemhdaa.shared.andT (Go.Proofs.Ytcnenkckcemhdaa.shared.andT (Go.Proofs.Ytcnenkckcemhdaa.shared.andT (Go.Proofs.Ytcnenkckcemhdaa.shared.andT (Go.Proofs.Ytcnenkckcemhdaa.shared.andT (Go.Proofs.Ytcnenkckcemhdaa.shared.andT (Go.Proofs.Ytcnenkckcemhdaa.shared.andT (Go.Proofs.Ytcnenkckcemhdaa.shared.andT (Go.Proofs.Ytcnenkckcemhdaa.shared.andT (Go.Proofs.Ytcnenkckcemhdaa.shared.andT (Go.Proofs.Ytcnenkckcemhdaa.shared.andT (Go.Proofs.Ytcnenkckcemhdaa.shared.andT (Go.Proofs.Ytcnenkckcemhdaa.shared.andT (Go.Proofs.Ytcnenkckcemhdaa.shared.andT (Go.Proofs.Ytcnenkckcemhdaa.shared.andT (Go.Proofs.Ytcnenkckcemhdaa.shared.andT (Go.Proofs.Ytcnenkckcemhdaa.shared.andT (Go.Proofs.Ytcnenkckcemhdaa.shared.andT (Go.Proofs.Ytcnenkckcemhdaa.shared.andT (Go.Proofs.Ytcnenkckcemhdaa.shared.andT (Go.Proofs.Ytcnenkckcemhdaa.shared.andT (Go.Proofs.Ytcnenkckcemhdaa.shared.andT (Go.Proofs.Ytcnenkckcemhdaa.shared.andT (Go.Proofs.Ytcnenkckcemhdaa.shared.andT (Go.Proofs.Ytcnenkckcemhdaa.shared.andT (Go.Proofs.Ytcnenkckcemhdaa.shared.andT (Go.Proofs.Ytcnenkckcemhdaa.shared.andT (Go.Proofs.Ytcnenkckcemhdaa.shared.andT (Go.Proofs.Ytcnenkckcemhdaa.shared.andT j0 Go.Proofs.Ytcnenkckcemhdaa.shared.j1) Go.Proofs.Ytcnenkckcemhdaa.shared.j2) j3) j4) j5) Go.Proofs.Ytcnenkckcemhdaa.shared.j6) j7) Go.Proofs.Ytcnenkckcemhdaa.shared.j8) j9) j10) j11) j12) j13) j14) j15) j16) j17) j18) j19) j20) j21) Go.Proofs.Ytcnenkckcemhdaa.shared.j22) j23) Go.Proofs.Ytcnenkckcemhdaa.shared.j24) Go.Proofs.Ytcnenkckcemhdaa.shared.j25) Go.Proofs.Ytcnenkckcemhdaa.shared.j26) Go.Proofs.Ytcnenkckcemhdaa.shared.j27) j28) j29) j30) j31)

theorem over : Rows.countEmptyRow.holds Try.pinned (OpenSpec.ofChange Rows.countEmptySpec) :=
  OpenClaim.holds_of_wide 10 Try.f10 rfl rfl rfl rfl rfl rfl rfl ⟨rfl, rfl, rfl, rfl, rfl⟩ rfl rfl rfl rfl rfl (by kernel_rfl) Try.func10 closed
    (of_decide_eq_true (by kernel_rfl)) (by unfold Func.isWrapper; first | (rw [if_pos (by decide +kernel)]; kernel_rfl) | (rw [if_neg (by decide +kernel)]; exact ⟨rfl, rfl⟩))
    (fun os started H enc _ => lifted os started H enc)

/-- ████ THE STATEMENT ████ -/
theorem proved : Rows.CountEmptySaid :=
  over
end Go.Proofs.Ytcnenkckcemhdaa.countEmpty
