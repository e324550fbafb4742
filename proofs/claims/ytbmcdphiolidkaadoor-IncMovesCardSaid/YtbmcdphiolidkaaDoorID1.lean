/- Copies that are written afterwards: deep rows. -/
import Derived.Test.YtbmcdphiolidkaaDoorID0
set_option maxRecDepth 100000
set_option linter.unusedSimpArgs false
set_option linter.unusedVariables false
set_option linter.unusedSectionVars false
namespace Go.Ab.tNearU
open Go Go.Proofs

/-- A row of plain cells, frozen or in the heap ('w': in the heap for certain, if it is not empty). -/
def D1 (w : Bool) (e : Nat) (S : Heap) (a r : AV) (ids : List Nat) : Prop :=
  (plain1 a = true ∧ r = a ∧ ids = [] ∧ (w = true → a = .nils)) ∨ ∃ id n cs, a = .hs id 0 n e ∧ r = .is n cs ∧ ids = [id] ∧ S.blk id = some cs ∧ cs.length = n * e ∧ cs.all plain1 = true
/-- A row of such rows. -/
def D2 (w : Bool) (S : Heap) (a r : AV) (ids : List Nat) : Prop :=
  (plain1 a = true ∧ r = a ∧ ids = [] ∧ (w = true → a = .nils)) ∨ ∃ id n cs cs' ids', a = .hs id 0 n 1 ∧ r = .is n cs' ∧ ids = id :: ids' ∧ S.blk id = some cs ∧ cs.length = n * 1 ∧ id ∉ ids' ∧ OwnL (D1 w 1 S) cs cs' ids'
theorem D1.own {w : Bool} {e : Nat} {S : Heap} {a r : AV} {ids : List Nat} (h : D1 w e S a r ids) : Own 1 S a r ids := by
  rcases h with ⟨h1, h2, h3, _⟩ | ⟨id, n, cs, h1, h2, h3, h4, h5, h6⟩
  · exact .inl ⟨h1, h2, h3⟩
  · exact .inr ⟨id, n, e, cs, cs, [], h1, h2, h3, h4, h5, List.not_mem_nil, ownL_plain h6⟩
theorem D2.own {w : Bool} {S : Heap} {a r : AV} {ids : List Nat} (h : D2 w S a r ids) : Own 2 S a r ids := by
  rcases h with ⟨h1, h2, h3, _⟩ | ⟨id, n, cs, cs', ids', h1, h2, h3, h4, h5, h6, h7⟩
  · exact .inl ⟨h1, h2, h3⟩
  · exact .inr ⟨id, n, 1, cs, cs', ids', h1, h2, h3, h4, h5, h6, h7.mono fun _ _ _ _ h => D1.own h⟩
theorem D1.keep {w : Bool} {e : Nat} {S T : Heap} {a r : AV} {ids : List Nat} (h : D1 w e S a r ids) (hk : ∀ j ∈ ids, T.blk j = S.blk j) : D1 w e T a r ids := by
  rcases h with h | ⟨id, n, cs, h1, h2, h3, h4, h5, h6⟩
  · exact .inl h
  · exact .inr ⟨id, n, cs, h1, h2, h3, by rw [hk id (by rw [h3]; exact List.mem_singleton.2 rfl), h4], h5, h6⟩
theorem D2.keep {w : Bool} {S T : Heap} {a r : AV} {ids : List Nat} (h : D2 w S a r ids) (hk : ∀ j ∈ ids, T.blk j = S.blk j) : D2 w T a r ids := by
  rcases h with h | ⟨id, n, cs, cs', ids', h1, h2, h3, h4, h5, h6, h7⟩
  · exact .inl h
  · exact .inr ⟨id, n, cs, cs', ids', h1, h2, h3, by rw [hk id (by rw [h3]; exact List.mem_cons_self), h4], h5, h6,
      h7.mono fun _ _ i hi hx => hx.keep fun j hj => hk j (by rw [h3]; exact List.mem_cons_of_mem _ (hi j hj))⟩
theorem app_nilh {es by' n id : Nat} {cs : List AV} {S : Heap} (hb : S.blk id = some cs) (hn : cs.length = n * es) (h0 : n ≠ 0) (h1 : n * by' ≤ mostRoom) (h2 : n ≤ mostRoom) : aAppend es by' .nils (.hs id 0 n es) S = some (.hs S.next 0 n es, S.alloc cs) := by
  unfold aAppend rowOf
  simp only [hb, Nat.zero_add, hn, Nat.le_refl, and_self, if_true, List.drop_zero]
  unfold aAppendN
  rw [List.take_of_length_le (by omega)]
  simp only [h0, if_false, h1, h2, and_self, if_true]
theorem app_nilh0 {es by' id : Nat} {cs : List AV} {S : Heap} (hb : S.blk id = some cs) : aAppend es by' .nils (.hs id 0 0 es) S = some (.nils, S) := by
  unfold aAppend rowOf
  simp only [hb, Nat.zero_mul, Nat.zero_add, Nat.zero_le, and_self, if_true]
  rfl
/-- A copy of a row by append. -/
theorem app_copy {w : Bool} {e by' : Nat} {S : Heap} {a r : AV} {ids0 : List Nat} (ha : D1 w e S a r ids0) (h : Row 1000 e r) (he : 0 < e) (hby : by' ≤ 1000) :
    ∃ x S' ids, aAppend e by' .nils a S = some (x, S') ∧ D1 true e S' x (nrm r) ids ∧ (∀ j ∈ ids, S.next ≤ j ∧ j < S'.next) ∧ Ext S S' ∧ cell x = true ∧ (S' = S ∨ noId x = false) := by
  rcases ha with ⟨h1, rfl, _, _⟩ | ⟨id, n, cs, rfl, rfl, _, h4, h5, h6⟩
  · obtain rfl | ⟨n, cs, rfl, hn, hl, hi⟩ := h
    · exact ⟨.nils, S, [], app_nilnil, .inl ⟨rfl, rfl, rfl, fun _ => rfl⟩, fun j hj => (by cases hj), Ext.refl S, rfl, .inl rfl⟩
    · by_cases h0 : n = 0
      · subst h0
        exact ⟨.nils, S, [], app_nil0 hl, .inl ⟨rfl, rfl, rfl, fun _ => rfl⟩, fun j hj => (by cases hj), Ext.refl S, rfl, .inl rfl⟩
      · refine ⟨.hs S.next 0 n e, S.alloc cs, [S.next], app_nil h0 hl (room hn hby) (room1 hn), .inr ⟨S.next, n, cs, rfl, ?_, rfl, alloc_blk S cs, hl, ints_plain hi⟩, fun j hj => ?_, Ext.alloc S cs, rfl, .inr rfl⟩
        · cases n with
          | zero => exact absurd rfl h0
          | succ n => rfl
        · rw [List.mem_singleton] at hj
          rw [alloc_next]; omega
  · obtain h' | ⟨n', cs', h', hn, hl, hi⟩ := h
    · cases h'
    · cases h'
      by_cases h0 : n = 0
      · subst h0
        exact ⟨.nils, S, [], app_nilh0 h4, .inl ⟨rfl, rfl, rfl, fun _ => rfl⟩, fun j hj => (by cases hj), Ext.refl S, rfl, .inl rfl⟩
      · refine ⟨.hs S.next 0 n e, S.alloc cs, [S.next], app_nilh h4 h5 h0 (room hn hby) (room1 hn), .inr ⟨S.next, n, cs, rfl, ?_, rfl, alloc_blk S cs, hl, h6⟩, fun j hj => ?_, Ext.alloc S cs, rfl, .inr rfl⟩
        · cases n with
          | zero => exact absurd rfl h0
          | succ n => rfl
        · rw [List.mem_singleton] at hj
          rw [alloc_next]; omega
theorem copyInts1_c {w : Bool} {B : CallF} (hB : Silent B) (k : Nat) {S : Heap} {a r : AV} {ids0 : List Nat} (ha : D1 w 1 S a r ids0) (h : Row 1000 1 r) :
    ∃ x S' ids, Cn B (k + 1) f_spindlekit_CopyInts 1 [a] S = some (x, S') ∧ D1 true 1 S' x (nrm r) ids ∧ (∀ j ∈ ids, S.next ≤ j ∧ j < S'.next) ∧ Ext S S' ∧ cell x = true := by
  rw [c_spindlekit_CopyInts_w1 _ _ _ _ (hB _ _ _ _ (by decide)), T_spindlekit_CopyInts_w1]
  obtain ⟨x, S', ids, h1, h2, h3, h4, h5, h6⟩ := app_copy (by' := 8) ha h (by omega) (by omega)
  refine ⟨x, S', ids, ?_, h2, h3, h4, h5⟩
  rw [h1]
  simp only [bO_s]
  rcases h6 with rfl | h6
  · rw [tr_id]
  · rw [tr_id2 h6]
/-- An element of a row of rows. -/
theorem D2.at {w : Bool} {S : Heap} {a r : AV} {ids : List Nat} (h : D2 w S a r ids) (hr : Rows 1000 r) : ∃ n, n ≤ 1000 ∧ (cut r).length = n ∧ aLen Tryd.prog 27 a = some (.int .i64 (n : Int)) ∧
    ∀ i (hi : i < (cut r).length), ∃ t cs o x idx, aIdx 1 a (i : Int) = some t ∧ (∀ T : Heap, (∀ j ∈ ids, T.blk j = S.blk j) → seeV t T = some (cs, o)) ∧ cs[o]? = some x ∧ D1 w 1 S x (cut r)[i] idx ∧ ∀ j ∈ idx, j ∈ ids := by
  rcases h with ⟨h1, rfl, h3, h8⟩ | ⟨id, n, cs, cs', ids', rfl, rfl, rfl, h4, h5, h6, h7⟩
  · obtain ⟨n, q1, q2, q3, q4⟩ := len27 hr
    refine ⟨n, q1, q2, q3, fun i hi => ⟨_, _, _, (cut r)[i], [], q4 i (by omega), fun T _ => rfl, ?_, .inl ⟨(hr.mem _ (List.getElem_mem hi)).plain, rfl, rfl, fun hw => (by rw [h8 hw] at hi; cases hi)⟩, fun j hj => (by cases hj)⟩⟩
    rw [List.getElem?_drop, Nat.add_zero, List.getElem?_eq_getElem hi]
  · have hl : ∀ {l r : List AV} {ids : List Nat}, OwnL (D1 w 1 S) l r ids → r.length = l.length ∧ ∀ i (hi : i < l.length) (hi' : i < r.length), ∃ idx, D1 w 1 S l[i] r[i] idx ∧ ∀ j ∈ idx, j ∈ ids := by
      intro l
      induction l with
      | nil =>
        rintro r ids ⟨rfl, _⟩
        exact ⟨rfl, fun i hi => (by cases hi)⟩
      | cons a l ih =>
        rintro r ids ⟨a', l', i1, i2, rfl, rfl, h3, h4, h5⟩
        obtain ⟨e1, e2⟩ := ih h5
        refine ⟨by simp [e1], fun i hi hi' => ?_⟩
        cases i with
        | zero => exact ⟨i1, h4, fun j hj => List.mem_append_left _ hj⟩
        | succ i =>
          obtain ⟨idx, f1, f2⟩ := e2 i (by simpa using hi) (by simpa using hi')
          exact ⟨idx, f1, fun j hj => List.mem_append_right _ (f2 j hj)⟩
    obtain ⟨e1, e2⟩ := hl h7
    obtain ⟨m, q1, q2, _, _⟩ := len27 hr
    have hcl : (cut (.is n cs')).length = cs.length := e1
    refine ⟨n, by omega, by omega, by kernel_rfl, fun i hi => ?_⟩
    have hi1 : i < cs.length := by omega
    obtain ⟨idx, f1, f2⟩ := e2 i hi1 (by rw [e1]; exact hi1)
    refine ⟨.ptr id (0 + i * 1), cs, 0 + i * 1, cs[i], idx, ?_, fun T hT => ?_, ?_, f1, fun j hj => List.mem_cons_of_mem _ (f2 j hj)⟩
    · simp only [aIdx, Int.toNat_natCast]
      rw [if_pos ⟨by omega, by omega, trivial⟩]
    · rw [seeV_p, hT id List.mem_cons_self, h4]
    · rw [Nat.zero_add, Nat.mul_one, List.getElem?_eq_getElem hi1]
end Go.Ab.tNearU
