/- VblockExamples returns true, for its one input (it has no arguments), and changes nothing that was there before: 'Rows.VblockExamplesSaid', no condition. -/
import Derived.Test.YtjhgcajppicblaaRows
import Derived.Test.YtjhgcajppicblaaVblockExamplesT
import Derived.WalkKit
import Derived.ProofKit
import Derived.OpenShut
namespace Go.Proofs.Ytjhgcajppicblaa.vblockExamples
open Go.ChangeShapes Go.WideShapes Go.ChangeAt Go.RowKit
set_option linter.unusedVariables false      -- a walk need not use every 'w<i>' (that an integer argument fits its kind)

theorem own : ownKnob Try.prog.godebug = none := by kernel_rfl

def isTrue : Option (Go.Ab.AV × Go.Ab.Heap) → Bool
  | some (.bool true, _) => true
  | _ => false
theorem computed : isTrue (Go.Ab.tabN (Go.Ab.tVblockExamples.rows (Go.Ab.ctlF 1000)) 60 5 0 [] Go.Ab.S0) = true := by kernel_rfl
theorem mixed : Try.prog.follows .mixedOrders = true := by kernel_rfl
theorem walk (w : World) :
    Calls Try.prog 5 #[] w fun e w' => e = .returned (.bool true) ∧ (∀ b, b < w.heap.size → w'.heap[b]? = w.heap[b]?) ∧ w'.os = w.os ∧ w'.output = w.output := by
  have h := computed
  unfold isTrue at h
  split at h
  · rename_i S' hs
    exact Go.Ab.law_calls (Go.Ab.tabN_ok (Go.Ab.rngC_ok (Go.Ab.ctlF_ok 1000)) mixed _ 60) (args := #[]) (by simp [Go.Ab.lrel]) (by decide) hs
  · cases h

/-! ### THE ROW's STEP: WRITTEN OUT: LEAVE IT -/
set_option maxRecDepth 100000 in
theorem lifted (os : Os) (started : os.Started) (H : Type) (enc : TypeId × Value → H) :
    ReturnsInHanded {} Try.checked os 5 .any (Rows.vblockExamplesSpec.pre6 enc Try.prog Try.f5 Rows.vblockExamplesRow.domain false) (Rows.vblockExamplesSpec.post enc Try.prog Try.f5 false true false false) := by
  refine returnsInHanded_of_change (C := Try.checked) own started (by kernel_rfl) Try.func5
    (ChangeSpec.witness6 (enc := enc) (C := Try.checked) false ⟨#[], #[], []⟩ 8 (by kernel_rfl) (by kernel_rfl) (by kernel_rfl) (by kernel_rfl)) ?_
  intro W base args ds gs before hval0 hW hcnd _
  have hval : ∀ (j : Nat) t v, Try.f5.params[j]? = some t → args[j]? = some v → Value.okWide Try.prog W .any base t v := hval0
  have hW' := hW
  obtain ⟨p, q, hA0, hV, rfl, hfz, hnd⟩ := hW
  have hA : DataW.TrodAll enc Try.prog W 0 (fun _ => true) true Try.f5.params.toList args.toList ds p := hA0
  rw [Try.params5] at hA
  obtain ⟨rfl, rfl, rfl⟩ := trodAll_none hA
  refine (walk W).mono fun e W' ⟨he, hs, ho, hu⟩ => ?_
  subst he
  exact ⟨_, rfl, Go.Ab.law_post (tb := 4) (by kernel_rfl) (by kernel_rfl) (slices_full_of Try.prog (by kernel_rfl)) (by rw [Try.params5]; simp) rfl
    (fun ds hl => by rw [Try.params5] at hl; match ds, hl with | [], _ => rfl) (by kernel_rfl) Try.underlying4 hW' hs ho hu⟩

theorem over : Rows.vblockExamplesRow.holds Try.pinned (OpenSpec.ofChange Rows.vblockExamplesSpec) :=
  OpenClaim.holds_of_wide 5 Try.f5 rfl rfl rfl rfl rfl rfl rfl ⟨rfl, rfl, rfl, rfl, rfl⟩ rfl rfl rfl rfl rfl (by kernel_rfl) Try.func5 (by kernel_rfl)
    (of_decide_eq_true (by kernel_rfl)) (by unfold Func.isWrapper; first | (rw [if_pos (by decide +kernel)]; kernel_rfl) | (rw [if_neg (by decide +kernel)]; exact ⟨rfl, rfl⟩))
    (fun os started H enc _ => lifted os started H enc)

/-- ████ THE STATEMENT ████ -/
theorem proved : Rows.VblockExamplesSaid :=
  over
end Go.Proofs.Ytjhgcajppicblaa.vblockExamples
