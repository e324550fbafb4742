/- Own neighbours stand earlier: the class seen when only the blocks before are known. -/
import Derived.Test.YtcnenkckcemhdaaCnsWA
set_option maxRecDepth 100000
set_option linter.unusedSimpArgs false
set_option linter.unusedVariables false
set_option linter.unusedSectionVars false
namespace Go.Ab.tNearU
open Go Go.Proofs

def key (c : Cd) : Nat := c.1 * 1000 + c.2.1 * 100 + c.2.2
def KLt (a b : Cd) : Prop := key a < key b
theorem lum_pw (cat cb : Nat) : ∀ n, (lum cat cb n).Pairwise KLt
  | 0 => List.Pairwise.nil
  | n + 1 => by
    simp only [lum]
    split
    · rw [List.pairwise_append]
      refine ⟨lum_pw cat cb n, List.pairwise_singleton _ _, fun a ha b hb => ?_⟩
      rw [List.mem_singleton] at hb
      subst hb
      obtain ⟨h1, h2, h3⟩ := mem_lum ha
      unfold KLt key
      rw [h1, h2]
      simp only
      omega
    · exact lum_pw cat cb n
theorem bls_pw (kind cb : Nat) : (bls kind cb).Pairwise KLt := by
  unfold bls
  split
  · exact List.Pairwise.nil
  · have hA : ∀ a ∈ (if kind = 1 then [((0, 0, 0) : Cd)] else []), key a = 0 := by
      intro a ha
      split at ha
      · rw [List.mem_singleton] at ha; subst ha; rfl
      · cases ha
    have hL : ∀ a ∈ lum (if kind = 1 then 1 else 2) cb 16, 1000 ≤ key a ∧ key a < 3000 := by
      intro a ha
      obtain ⟨h1, h2, h3⟩ := mem_lum ha
      unfold key
      rw [h1, h2]
      split <;> omega
    have hC : ∀ a ∈ (if cb / 16 > 0 then [((3, 0, 0) : Cd), (3, 1, 0)] else []), 3000 ≤ key a ∧ key a < 4000 := by
      intro a ha
      split at ha
      · have : a = (3, 0, 0) ∨ a = (3, 1, 0) := by simpa using ha
        rcases this with h | h <;> (subst h; exact ⟨by decide, by decide⟩)
      · cases ha
    have hD : ∀ a ∈ (if cb / 16 = 2 then chrAC else []), 4000 ≤ key a := by
      intro a ha
      split at ha
      · have : a = (4, 0, 0) ∨ a = (4, 0, 1) ∨ a = (4, 0, 2) ∨ a = (4, 0, 3) ∨ a = (4, 1, 0) ∨ a = (4, 1, 1) ∨ a = (4, 1, 2) ∨ a = (4, 1, 3) := by simpa [chrAC] using ha
        rcases this with h | h | h | h | h | h | h | h <;> (subst h; decide)
      · cases ha
    rw [List.pairwise_append, List.pairwise_append, List.pairwise_append]
    refine ⟨⟨⟨?_, lum_pw _ _ _, fun a ha b hb => ?_⟩, ?_, fun a ha b hb => ?_⟩, ?_, fun a ha b hb => ?_⟩
    · split
      · exact List.pairwise_singleton _ _
      · exact List.Pairwise.nil
    · have h1 := hA a ha
      have h2 := hL b hb
      unfold KLt; omega
    · split
      · unfold KLt key; decide
      · exact List.Pairwise.nil
    · have h2 := hC b hb
      rcases List.mem_append.1 ha with h | h
      · have h1 := hA a h
        unfold KLt; omega
      · have h1 := hL a h
        unfold KLt; omega
    · split
      · unfold KLt key chrAC; decide
      · exact List.Pairwise.nil
    · have h2 := hD b hb
      rcases List.mem_append.1 ha with h | h
      · rcases List.mem_append.1 h with h | h
        · have h1 := hA a h
          unfold KLt; omega
        · have h1 := hL a h
          unfold KLt; omega
      · have h1 := hC a h
        unfold KLt; omega
theorem earlier {kind cb i j : Nat} {c e : Cd} (hi : i < (bls kind cb).length) (hc : (bls kind cb)[i] = c) (he : ixF (bls kind cb) e = some j) (hk : key e < key c) : j < i := by
  obtain ⟨h1, h2⟩ := ixF_is he
  have hp := List.pairwise_iff_getElem.1 (bls_pw kind cb)
  by_cases hlt : j < i
  · exact hlt
  · exfalso
    by_cases hij : i = j
    · subst hij
      rw [hc] at h2
      rw [h2] at hk
      omega
    · have := hp i j hi h1 (by omega)
      rw [hc, h2] at this
      unfold KLt at this
      omega
theorem stp_own : ∀ ab : Bool, ∀ k, k < 16 → (stp false ab k).2 = true → (stp false ab k).1 < k := by decide
theorem stp_own4 : ∀ ab : Bool, ∀ k, k < 4 → (stp true ab k).2 = true → (stp true ab k).1 < k := by decide

/-- The first blocks of a copy. -/
def cutTo (a : AV) (n : Nat) : AV := match a with
  | .is _ cs => .is n (cs.take n)
  | _ => .nils
def M.part (m : M) (i : Nat) : M := { m.norm with b := cutTo (nrmB m.b) (min (cut m.b).length i) }
theorem cut_nB {N : Nat} {a : AV} (h : Rows N a) : cut (nrmB a) = (cut a).map nrm := by
  by_cases h0 : (cut a).length = 0
  · rw [nrmB_cut0 h h0, List.eq_nil_of_length_eq_zero h0]; rfl
  · rw [nrmB_cut h rfl h0]; rfl
theorem part_cut {m : M} (hg : Good 1000 m) (i : Nat) : cut (m.part i).b = ((cut m.b).map nrm).take (min (cut m.b).length i) := by
  show cut (cutTo (nrmB m.b) _) = _
  by_cases h0 : (cut m.b).length = 0
  · rw [nrmB_cut0 hg.b h0, List.eq_nil_of_length_eq_zero h0]; rfl
  · rw [nrmB_cut hg.b rfl h0]; rfl
theorem part_good {m : M} (hg : Good 1000 m) (i : Nat) : Good 1000 (m.part i) := by
  refine ⟨hg.pre, hg.r.nrm, hg.v.nrm, ?_⟩
  show Rows 1000 (cutTo (nrmB m.b) _)
  obtain h | ⟨n, cs, h, h1, h2, h3⟩ := hg.b.nrm
  · rw [h]; exact .inl rfl
  · have hl : (cut m.b).length = n := by
      have := congrArg List.length (cut_nB hg.b)
      rw [h, List.length_map] at this
      have this' : cs.length = (cut m.b).length := this
      omega
    rw [h]
    exact .inr ⟨_, _, rfl, by omega, by rw [List.length_take]; omega, fun c hc => h3 c (List.mem_of_mem_take hc)⟩
theorem part_byt {m : M} (hb : Byt m) (i : Nat) : Byt (m.part i) := ⟨hb.k, hb.c⟩
theorem part_bls (m : M) (i : Nat) : (m.part i).bls = m.bls := rfl
theorem row_part {m : M} (hg : Good 1000 m) {i : Nat} {e : Cd} (h : ∀ j, ixF m.bls e = some j → j < i) : (m.part i).row e = (m.row e).map nrm := by
  unfold M.row
  rw [part_bls, part_cut hg]
  cases he : ixF m.bls e with
  | none => rfl
  | some j =>
    have hj := h j he
    show (((cut m.b).map nrm).take (min (cut m.b).length i))[j]? = ((cut m.b)[j]?).map nrm
    rw [List.getElem?_take]
    by_cases hlt : j < min (cut m.b).length i
    · rw [if_pos hlt, List.getElem?_map]
    · rw [if_neg hlt, List.getElem?_eq_none (by omega)]; rfl
theorem nz_map {m : M} (hg : Good 1000 m) {e : Cd} {r : AV} (h : m.row e = some r) : nz (nrm r) = nz r := nz_nrm' (row_good hg h)
theorem tot_part {m : M} (hg : Good 1000 m) {i : Nat} {d : Cd} (h1 : ∀ j, ixF m.bls d = some j → j < i) (h2 : d.1 = 1 ∨ d.1 = 2 → ∀ j, ixF m.bls (alt d) = some j → j < i) : tot (m.part i) d = tot m d := by
  have hco : nz (coefA (m.part i) d) = nz (coefA m d) := by
    unfold coefA
    rw [row_part hg h1]
    cases hr : m.row d with
    | some r => exact nz_map hg hr
    | none =>
      simp only [Option.map_none]
      by_cases hl : d.1 = 1 ∨ d.1 = 2
      · rw [if_pos hl, if_pos hl, row_part hg (h2 hl)]
        cases hr2 : m.row (alt d) with
        | some r => exact nz_map hg hr2
        | none => rfl
      · rw [if_neg hl, if_neg hl]
  unfold tot
  rw [hco]
  rfl
theorem none_of {m : M} {e : Cd} (h : e ∉ m.bls) {i : Nat} : ∀ j, ixF m.bls e = some j → j < i := fun j hj => by
  obtain ⟨h1, h2⟩ := ixF_is hj
  exact absurd (h2 ▸ List.getElem_mem h1) h
theorem look_part {m : M} (hg : Good 1000 m) {nb : M × Bool} {ab : Bool} {i : Nat} (hi : i < m.bls.length) {c : Cd} (hc : m.bls[i] = c) : lookd (m.part i) nb ab c = lookd m nb ab c := by
  have hmem : c ∈ m.bls := hc ▸ List.getElem_mem hi
  obtain ⟨hok, hex, k1, k2⟩ := mem_bls hmem
  have hce : CdEx c := ⟨hok, hex⟩
  unfold lookd
  cases hs : (stp (isCh c) ab c.2.2).2 with
  | false => rfl
  | true =>
    simp only
    congr 1
    obtain ⟨a, b, k⟩ := c
    cases hch : isCh (a, b, k) with
    | true =>
      have ha : a = 4 := Nat.eq_of_beq_eq_true hch
      subst ha
      rw [hch] at hs
      have hk4 : k < 4 := hce.ch hch
      have hj := stp_own4 ab k hk4 hs
      refine tot_part hg (fun j hj' => earlier hi hc hj' ?_) (fun h => ?_)
      · show 4 * 1000 + b * 100 + (stp true ab k).1 < 4 * 1000 + b * 100 + k
        omega
      · rcases h with h | h <;> cases h
    | false =>
      rw [hch] at hs
      have hk16 : k < 16 := hok.2.2
      have hj := stp_own ab k hk16 hs
      simp only at hok hex k1 k2
      have ha : a = 0 ∨ a = 1 ∨ a = 2 ∨ a = 3 ∨ a = 4 := by have := hok.1; simp only at this; omega
      have hal : ∀ j, alt (2, 0, j) = (1, 0, j) := fun j => by
        unfold alt
        rw [if_neg (by intro h; cases h)]
      show tot (m.part i) (2, 0, (stp false ab k).1) = tot m (2, 0, (stp false ab k).1)
      rcases ha with rfl | rfl | rfl | rfl | rfl
      · simp only [exF, Bool.and_eq_true] at hex
        have hk0 : k = 0 := Nat.eq_of_beq_eq_true hex.2
        omega
      · have hkind := k1 rfl
        refine tot_part hg (none_of fun h => (mem_bls h).2.2.2 rfl hkind) (fun _ => ?_)
        rw [hal]
        refine fun j hj' => earlier hi hc hj' ?_
        show 1 * 1000 + 0 * 100 + (stp false ab k).1 < 1 * 1000 + b * 100 + k
        omega
      · have hkind := k2 rfl
        refine tot_part hg (fun j hj' => earlier hi hc hj' ?_) (fun _ => ?_)
        · show 2 * 1000 + 0 * 100 + (stp false ab k).1 < 2 * 1000 + b * 100 + k
          omega
        · rw [hal]
          exact none_of fun h => hkind ((mem_bls h).2.2.1 rfl)
      · simp only [exF, Bool.and_eq_true] at hex
        have hk0 : k = 0 := Nat.eq_of_beq_eq_true hex.2
        omega
      · cases hch
theorem cls_part {m : M} (hg : Good 1000 m) {nl na : M × Bool} {i : Nat} (hi : i < m.bls.length) {c : Cd} (hc : m.bls[i] = c) : cls (m.part i) nl na c = cls m nl na c := by
  unfold cls
  rw [look_part hg hi hc, look_part hg hi hc]
end Go.Ab.tNearU
