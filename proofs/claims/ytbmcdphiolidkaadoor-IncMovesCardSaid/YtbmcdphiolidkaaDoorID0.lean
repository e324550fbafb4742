/- Deep values: what they are when frozen, and which blocks they own. -/
import Derived.Test.YtbmcdphiolidkaaDoorIV2
set_option maxRecDepth 100000
set_option linter.unusedSimpArgs false
set_option linter.unusedVariables false
set_option linter.unusedSectionVars false
namespace Go.Ab.tNearU
open Go Go.Proofs

def OwnL (P : AV → AV → List Nat → Prop) : List AV → List AV → List Nat → Prop
  | [], r, ids => r = [] ∧ ids = []
  | a :: l, r, ids => ∃ a' l' i1 i2, r = a' :: l' ∧ ids = i1 ++ i2 ∧ (∀ j ∈ i1, j ∉ i2) ∧ P a a' i1 ∧ OwnL P l l' i2
/-- A deep value of depth at most 'd': what it is when frozen, and its blocks. -/
def Own : Nat → Heap → AV → AV → List Nat → Prop
  | 0, _, a, r, ids => plain1 a = true ∧ r = a ∧ ids = []
  | d + 1, S, a, r, ids => (plain1 a = true ∧ r = a ∧ ids = []) ∨ ∃ id n es cs cs' ids', a = .hs id 0 n es ∧ r = .is n cs' ∧ ids = id :: ids' ∧ S.blk id = some cs ∧ cs.length = n * es ∧ id ∉ ids' ∧ OwnL (Own d S) cs cs' ids'
def kill (T : Heap) (ids : List Nat) : Heap := { T with blk := fun j => if j ∈ ids then none else T.blk j }
theorem kill_nil (T : Heap) : kill T [] = T := by simp [kill]
theorem kill_in {T : Heap} {ids : List Nat} {j : Nat} (h : j ∈ ids) : (kill T ids).blk j = none := by simp [kill, h]
theorem kill_out {T : Heap} {ids : List Nat} {j : Nat} (h : j ∉ ids) : (kill T ids).blk j = T.blk j := by simp [kill, h]
theorem heap_ext {S T : Heap} (h1 : S.blk = T.blk) (h2 : S.next = T.next) (h3 : S.cx = T.cx) : S = T := by
  cases S; cases T; simp_all
theorem kill_app (T : Heap) (a b : List Nat) : kill (kill T a) b = kill T (a ++ b) := by
  unfold kill
  refine heap_ext (funext fun j => ?_) rfl rfl
  show (if j ∈ b then none else if j ∈ a then none else T.blk j) = if j ∈ a ++ b then none else T.blk j
  by_cases h1 : j ∈ a <;> by_cases h2 : j ∈ b <;> simp [h1, h2]
theorem kill_one (T : Heap) (i : Nat) (b : List Nat) : kill (T.set i none) b = kill T (i :: b) := by
  unfold kill Heap.set
  refine heap_ext (funext fun j => ?_) rfl rfl
  by_cases h1 : j = i <;> by_cases h2 : j ∈ b <;> simp [h1, h2]
theorem OwnL.mono {P Q : AV → AV → List Nat → Prop} : ∀ {l r : List AV} {ids : List Nat}, (∀ a a' i, (∀ j ∈ i, j ∈ ids) → P a a' i → Q a a' i) → OwnL P l r ids → OwnL Q l r ids
  | [], _, _, _, h => h
  | a :: l, r, ids, hpq, ⟨a', l', i1, i2, h1, h2, h3, h4, h5⟩ => ⟨a', l', i1, i2, h1, h2, h3, hpq _ _ _ (fun j hj => by rw [h2]; exact List.mem_append_left _ hj) h4, OwnL.mono (fun x x' i hi => hpq x x' i (fun j hj => by rw [h2]; exact List.mem_append_right _ (hi j hj))) h5⟩
theorem Own.keep : ∀ {d : Nat} {S T : Heap} {a r : AV} {ids : List Nat}, Own d S a r ids → (∀ j ∈ ids, T.blk j = S.blk j) → Own d T a r ids
  | 0, _, _, _, _, _, h, _ => h
  | d + 1, S, T, a, r, ids, h, hk => by
    rcases h with h | ⟨id, n, es, cs, cs', ids', h1, h2, h3, h4, h5, h6, h7⟩
    · exact .inl h
    · refine .inr ⟨id, n, es, cs, cs', ids', h1, h2, h3, by rw [hk id (by rw [h3]; exact List.mem_cons_self), h4], h5, h6, h7.mono fun x x' i hi hx => ?_⟩
      exact Own.keep hx fun j hj => hk j (by rw [h3]; exact List.mem_cons_of_mem _ (hi j hj))
theorem ownL_fz {d k : Nat} {S : Heap} (ih : ∀ {a r : AV} {ids : List Nat} {T : Heap}, Own d S a r ids → (∀ j ∈ ids, T.blk j = S.blk j) → fz (k + d + 1) a T = some (r, kill T ids)) :
    ∀ {l r : List AV} {ids : List Nat} {T : Heap}, OwnL (Own d S) l r ids → (∀ j ∈ ids, T.blk j = S.blk j) → fzM (fz (k + d + 1)) l T = some (r, kill T ids)
  | [], r, ids, T, ⟨h1, h2⟩, _ => by subst h1 h2; rw [kill_nil]; rfl
  | a :: l, r, ids, T, ⟨a', l', i1, i2, h1, h2, h3, h4, h5⟩, hT => by
    subst h1 h2
    have e1 := ih h4 (T := T) fun j hj => hT j (List.mem_append_left _ hj)
    have e2 := ownL_fz ih h5 (T := kill T i1) fun j hj => by
      rw [kill_out (fun h => h3 j h hj)]
      exact hT j (List.mem_append_right _ hj)
    simp only [fzM, e1, e2, kill_app]
theorem own_fz : ∀ (d : Nat) {k : Nat} {S : Heap} {a r : AV} {ids : List Nat} {T : Heap}, Own d S a r ids → (∀ j ∈ ids, T.blk j = S.blk j) → fz (k + d + 1) a T = some (r, kill T ids)
  | 0, k, S, a, r, ids, T, ⟨h1, h2, h3⟩, _ => by subst h2 h3; rw [kill_nil]; exact fz_plain1 h1
  | d + 1, k, S, a, r, ids, T, h, hT => by
    rcases h with ⟨h1, h2, h3⟩ | ⟨id, n, es, cs, cs', ids', h1, h2, h3, h4, h5, h6, h7⟩
    · subst h2 h3; rw [kill_nil]; exact fz_plain1 h1
    · subst h1 h2 h3
      have hb : T.blk id = some cs := by rw [hT id List.mem_cons_self, h4]
      have e := ownL_fz (d := d) (k := k) (fun hx hy => own_fz d hx hy) h7 (T := T.set id none) fun j hj => by
        rw [set_other _ _ (fun h => by subst h; exact h6 hj)]
        exact hT j (List.mem_cons_of_mem _ hj)
      have hke : k + (d + 1) + 1 = (k + d + 1) + 1 := by omega
      rw [hke, fz, hb]
      simp only [Nat.zero_add, h5, Nat.le_refl, if_true, List.drop_zero]
      rw [List.take_of_length_le (by omega), e]
      simp only [kill_one]
theorem ownL_app {P : AV → AV → List Nat → Prop} : ∀ {l1 r1 : List AV} {i1 : List Nat} {l2 r2 : List AV} {i2 : List Nat}, OwnL P l1 r1 i1 → OwnL P l2 r2 i2 → (∀ j ∈ i1, j ∉ i2) → OwnL P (l1 ++ l2) (r1 ++ r2) (i1 ++ i2)
  | [], _, _, l2, r2, i2, ⟨h1, h2⟩, h, _ => by subst h1 h2; exact h
  | a :: l, r1, i1, l2, r2, i2, ⟨a', l', j1, j2, h1, h2, h3, h4, h5⟩, h, hd => by
    subst h1 h2
    refine ⟨a', l' ++ r2, j1, j2 ++ i2, rfl, by rw [List.append_assoc], fun j hj hj' => ?_, h4, ownL_app h5 h fun j hj => hd j (List.mem_append_right _ hj)⟩
    rcases List.mem_append.1 hj' with h | h
    · exact h3 j hj h
    · exact hd j (List.mem_append_left _ hj) h
theorem ownL_plain {d : Nat} {S : Heap} : ∀ {l : List AV}, l.all plain1 = true → OwnL (Own d S) l l []
  | [], _ => ⟨rfl, rfl⟩
  | a :: l, h => by
    simp only [List.all_cons, Bool.and_eq_true] at h
    refine ⟨a, l, [], [], rfl, rfl, fun j hj => (by cases hj), ?_, ownL_plain h.2⟩
    cases d with
    | zero => exact ⟨h.1, rfl, rfl⟩
    | succ d => exact .inl ⟨h.1, rfl, rfl⟩
end Go.Ab.tNearU
