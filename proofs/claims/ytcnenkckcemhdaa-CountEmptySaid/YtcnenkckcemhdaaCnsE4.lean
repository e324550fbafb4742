/- A write into a block of a deep row of rows. -/
import Derived.Test.YtcnenkckcemhdaaCnsE3
set_option maxRecDepth 100000
set_option linter.unusedSimpArgs false
set_option linter.unusedVariables false
set_option linter.unusedSectionVars false
namespace Go.Ab.tNearU
open Go Go.Proofs

theorem ownL_len {P : AV → AV → List Nat → Prop} : ∀ {l r : List AV} {ids : List Nat}, OwnL P l r ids → r.length = l.length
  | [], r, ids, ⟨h, _⟩ => by subst h; rfl
  | a :: l, r, ids, ⟨a', l', i1, i2, h1, h2, h3, h4, h5⟩ => by subst h1; simp [ownL_len h5]
theorem D2.write {T : Heap} {b mb : AV} {ids : List Nat} (h : D2 true T b mb ids) {i : Nat} (hi : i < (cut mb).length) :
    ∃ q m outs ids' x, b = .hs q 0 m 1 ∧ ids = q :: ids' ∧ T.blk q = some outs ∧ outs[i]? = some x ∧ m = (cut mb).length ∧
      ((x = .nils ∧ (cut mb)[i] = .nils) ∨ ∃ id n cs, x = .hs id 0 n 1 ∧ (cut mb)[i] = .is n cs ∧ T.blk id = some cs ∧ cs.length = n ∧ id ∈ ids' ∧
        ∀ cs' : List AV, cs'.length = n → cs'.all plain1 = true → D2 true (T.set id (some cs')) b (.is m ((cut mb).set i (.is n cs'))) ids) := by
  rcases h with ⟨_, rfl, _, h8⟩ | ⟨q, m, outs, rs, ids', rfl, rfl, rfl, h4, h5, h6, h7⟩
  · rw [h8 rfl] at hi; cases hi
  · have hlen := ownL_len h7
    have hcut : cut (.is m rs) = rs := rfl
    have hi1 : i < rs.length := hi
    have hi0 : i < outs.length := by omega
    obtain ⟨idx, f1, f2, f3⟩ := ownL_upd h7 i hi0 hi1
    refine ⟨q, m, outs, ids', outs[i], rfl, rfl, h4, List.getElem?_eq_getElem hi0, by rw [hcut]; omega, ?_⟩
    rcases f1 with ⟨_, g2, _, g4⟩ | ⟨id, n, cs, g1, g2, g3, g4, g5, g6⟩
    · exact .inl ⟨g4 rfl, by show rs[i] = _; rw [g2, g4 rfl]⟩
    · have hid : id ∈ ids' := f2 id (by rw [g3]; exact List.mem_singleton.2 rfl)
      refine .inr ⟨id, n, cs, g1, g2, g4, by omega, hid, fun cs' hl hp => ?_⟩
      have hne : q ≠ id := fun h => h6 (by rw [h]; exact hid)
      refine .inr ⟨q, m, outs, rs.set i (.is n cs'), ids', rfl, rfl, rfl, by rw [set_other _ _ hne]; exact h4, h5, h6, f3 _ _ (fun a a' ix hix hp => hp.keep fun j hj => ?_) ?_⟩
      · exact set_other _ _ (fun h => hix j hj (by rw [g3, h]; exact List.mem_singleton.2 rfl))
      · exact .inr ⟨id, n, cs', g1, rfl, g3, set_blk _ _ _, by omega, hp⟩
end Go.Ab.tNearU
