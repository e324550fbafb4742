/- Lists of macroblocks of which one has more coefficients: what is found nearby. -/
import Derived.Test.YtcnenkckcemhdaaCnsE1
import Derived.Test.YtcnenkckcemhdaaCnsD5
set_option maxRecDepth 100000
set_option linter.unusedSimpArgs false
set_option linter.unusedVariables false
set_option linter.unusedSectionVars false
namespace Go.Ab.tNearU
open Go Go.Proofs

theorem row_norm {m : M} (hg : Good 1000 m) (c : Cd) : m.norm.row c = (m.row c).map nrm := by
  unfold M.row
  show (ixF m.bls c).bind (fun i => (cut (nrmB m.b))[i]?) = _
  rw [cut_nB hg.b]
  cases ixF m.bls c with
  | none => rfl
  | some i => show ((cut m.b).map nrm)[i]? = ((cut m.b)[i]?).map nrm; rw [List.getElem?_map]
theorem Le.norm {m m' : M} (h : Le m m') (hg : Good 1000 m') : Le m m'.norm := ⟨h.kind, fun c => by
  rw [row_norm hg]
  rcases h.row c with ⟨h1, h2⟩ | ⟨r, r', h1, h2, h3⟩
  · exact .inl ⟨h1, by rw [h2]; rfl⟩
  · exact .inr ⟨r, nrm r', h1, by rw [h2]; rfl, by rw [nz_map hg h2]; exact h3⟩⟩
structure LeL (ms ms' : List M) : Prop where
  len : ms.length = ms'.length
  at' : ∀ i (h : i < ms.length) (h' : i < ms'.length), Le ms[i] ms'[i]
theorem fa_le {fi a : Int} {ms ms' : List M} (h : LeL ms ms') : Le (fa fi ms a).1 (fa fi ms' a).1 ∧ (fa fi ms a).2 = (fa fi ms' a).2 := by
  unfold fa
  by_cases hc : fi ≤ a ∧ a < fi + ms.length
  · have hc' : fi ≤ a ∧ a < fi + ms'.length := by rw [← h.len]; exact hc
    rw [dif_pos hc, dif_pos hc']
    exact ⟨h.at' _ _ _, rfl⟩
  · have hc' : ¬ (fi ≤ a ∧ a < fi + ms'.length) := by rw [← h.len]; exact hc
    rw [dif_neg hc, dif_neg hc']
    exact ⟨Le.refl _, rfl⟩
theorem lf_le {fi w : Int} {ms ms' : List M} (h : LeL ms ms') : Le (lf fi w ms).1 (lf fi w ms').1 ∧ (lf fi w ms).2 = (lf fi w ms').2 := by
  unfold lf
  rw [← h.len]
  split
  · exact ⟨Le.refl _, rfl⟩
  · exact fa_le h
theorem cls_le {fi w : Int} {ms ms' : List M} (h : LeL ms ms') (m : M) (c : Cd) : cls m (lf fi w ms) (fa fi ms (fi + ms.length - w)) c ≤ cls m (lf fi w ms') (fa fi ms' (fi + ms'.length - w)) c := by
  rw [← h.len]
  exact cls_mono (lf_le h).1 (lf_le h).2 (fa_le h).1 (fa_le h).2
theorem Ext.kill {S T : Heap} (h : Ext S T) {ids : List Nat} (hi : ∀ j ∈ ids, S.next ≤ j) : Ext S (Go.Ab.tNearU.kill T ids) := ⟨h.1, h.2.1, fun j hj => by
  rw [kill_out (fun hm => by have := hi j hm; omega)]
  exact h.2.2 j hj⟩
end Go.Ab.tNearU
