/- Rows of macroblocks whose blocks stand in the heap. -/
import Derived.Test.YtbmcdphiolidkaaDoorID3
set_option maxRecDepth 100000
set_option linter.unusedSimpArgs false
set_option linter.unusedVariables false
set_option linter.unusedSectionVars false
namespace Go.Ab.tNearU
open Go Go.Proofs

def DL (w : Bool) (S : Heap) : List M → List M → List Nat → Prop
  | [], r, ids => r = [] ∧ ids = []
  | d :: l, r, ids => ∃ m l' i1 i2, r = m :: l' ∧ ids = i1 ++ i2 ∧ (∀ j ∈ i1, j ∉ i2) ∧ DM w S d m i1 ∧ DL w S l l' i2
theorem DL.keep {w : Bool} : ∀ {S T : Heap} {ds ms : List M} {ids : List Nat}, DL w S ds ms ids → (∀ j ∈ ids, T.blk j = S.blk j) → DL w T ds ms ids
  | S, T, [], ms, ids, h, _ => h
  | S, T, d :: ds, ms, ids, ⟨m, l', i1, i2, h1, h2, h3, h4, h5⟩, hk => ⟨m, l', i1, i2, h1, h2, h3, h4.keep fun j hj => hk j (by rw [h2]; exact List.mem_append_left _ hj), DL.keep h5 fun j hj => hk j (by rw [h2]; exact List.mem_append_right _ hj)⟩
theorem DL.app {w : Bool} : ∀ {S : Heap} {d1 m1 : List M} {i1 : List Nat} {d2 m2 : List M} {i2 : List Nat}, DL w S d1 m1 i1 → DL w S d2 m2 i2 → (∀ j ∈ i1, j ∉ i2) → DL w S (d1 ++ d2) (m1 ++ m2) (i1 ++ i2)
  | S, [], m1, i1, d2, m2, i2, ⟨h1, h2⟩, h, _ => by subst h1 h2; exact h
  | S, d :: l, m1, i1, d2, m2, i2, ⟨m, l', j1, j2, h1, h2, h3, h4, h5⟩, h, hd => by
    subst h1 h2
    refine ⟨m, l' ++ m2, j1, j2 ++ i2, rfl, by rw [List.append_assoc], fun j hj hj' => ?_, h4, DL.app h5 h fun j hj => hd j (List.mem_append_right _ hj)⟩
    rcases List.mem_append.1 hj' with h | h
    · exact h3 j hj h
    · exact hd j (List.mem_append_left _ hj) h
theorem DL.len {w : Bool} : ∀ {S : Heap} {ds ms : List M} {ids : List Nat}, DL w S ds ms ids → ds.length = ms.length
  | S, [], ms, ids, ⟨h1, _⟩ => by subst h1; rfl
  | S, d :: ds, ms, ids, ⟨m, l', i1, i2, h1, h2, h3, h4, h5⟩ => by subst h1; simp [DL.len h5]
theorem DL.pre {w : Bool} : ∀ {S : Heap} {ds ms : List M} {ids : List Nat}, DL w S ds ms ids → Pre ms → Pre ds
  | S, [], ms, ids, _, _ => fun m hm => by cases hm
  | S, d :: ds, ms, ids, ⟨m, l', i1, i2, h1, h2, h3, h4, h5⟩, hp => fun x hx => by
    subst h1
    rcases List.mem_cons.1 hx with rfl | hx
    · rw [h4.pre]; exact hp m List.mem_cons_self
    · exact DL.pre h5 (fun y hy => hp y (List.mem_cons_of_mem _ hy)) x hx
theorem DL.at {w : Bool} : ∀ {S : Heap} {ds ms : List M} {ids : List Nat}, DL w S ds ms ids → ∀ i (hi : i < ds.length) (hi' : i < ms.length), ∃ idx, DM w S ds[i] ms[i] idx ∧ ∀ j ∈ idx, j ∈ ids
  | S, [], ms, ids, _, i, hi, _ => by cases hi
  | S, d :: ds, ms, ids, ⟨m, l', i1, i2, h1, h2, h3, h4, h5⟩, i, hi, hi' => by
    subst h1 h2
    cases i with
    | zero => exact ⟨i1, h4, fun j hj => List.mem_append_left _ hj⟩
    | succ i =>
      obtain ⟨idx, f1, f2⟩ := DL.at h5 i (by simpa using hi) (by simpa using hi')
      exact ⟨idx, f1, fun j hj => List.mem_append_right _ (f2 j hj)⟩
/-- A row of macroblocks, frozen or in the heap. -/
def DMs (w : Bool) (S : Heap) (a : AV) (ds ms : List M) (ids : List Nat) : Prop :=
  (a = .nils ∧ ms = [] ∧ ds = [] ∧ ids = []) ∨ (a = .is ms.length (flat ms) ∧ ds = ms ∧ ids = [] ∧ w = false) ∨ ∃ q ids', a = .hs q 0 ms.length 29 ∧ ids = q :: ids' ∧ S.blk q = some (flat ds) ∧ q ∉ ids' ∧ DL w S ds ms ids'
theorem DM.cell {w : Bool} {S : Heap} {d m : M} {ids : List Nat} (h : DM w S d m ids) (hg : Good 1000 m) : d.cells.all cell = true := by
  obtain ⟨i1, i2, _, _, h3, h4⟩ := h.own
  exact cells_cell (by rw [h.r]; exact hg.r.cell) (h3.cellR hg.v) (h4.cellR hg.b)
theorem own1_2 {S : Heap} {a r : AV} {ids : List Nat} (h : Own 1 S a r ids) : Own 2 S a r ids := by
  rcases h with h | ⟨id, n, es, cs, cs', ids', h1, h2, h3, h4, h5, h6, h7⟩
  · exact .inl h
  · exact .inr ⟨id, n, es, cs, cs', ids', h1, h2, h3, h4, h5, h6, h7.mono fun _ _ _ _ h => .inl h⟩
theorem DM.ownL {w : Bool} {S : Heap} {d m : M} {ids : List Nat} (h : DM w S d m ids) (hg : Good 1000 m) : OwnL (Own 2 S) d.cells m.cells ids := by
  obtain ⟨i1, i2, rfl, h2, h3, h4⟩ := h.own
  have e1 : OwnL (Own 2 S) (d.pre.map (AV.int .u8)) (m.pre.map (AV.int .u8)) [] := by
    rw [h.pre]
    exact ownL_plain (List.all_eq_true.2 fun c hc => by obtain ⟨i, _, rfl⟩ := List.mem_map.1 hc; rfl)
  have no : ∀ {l : List Nat}, ∀ j ∈ ([] : List Nat), j ∉ l := fun j hj => by cases hj
  unfold M.cells
  refine ownL_app (i1 := []) e1 ⟨m.r, [m.v, .int .u8 m.cb, .int .i64 m.qp, m.b, .str m.s], [], i1 ++ i2, rfl, rfl, no, ?_, ?_⟩ no
  · rw [h.r]; exact .inl ⟨hg.r.plain, rfl, rfl⟩
  refine ⟨m.v, [.int .u8 m.cb, .int .i64 m.qp, m.b, .str m.s], i1, i2, rfl, rfl, h2, own1_2 h3.own, ?_⟩
  refine ⟨.int .u8 m.cb, [.int .i64 m.qp, m.b, .str m.s], [], i2, rfl, rfl, no, .inl ⟨rfl, by rw [h.cb], rfl⟩, ?_⟩
  refine ⟨.int .i64 m.qp, [m.b, .str m.s], [], i2, rfl, rfl, no, .inl ⟨rfl, by rw [h.qp], rfl⟩, ?_⟩
  refine ⟨m.b, [.str m.s], i2, [], rfl, (List.append_nil i2).symm, fun j _ hj => (by cases hj), h4.own, ?_⟩
  exact ⟨.str m.s, [], [], [], rfl, rfl, no, .inl ⟨rfl, by rw [h.s], rfl⟩, rfl, rfl⟩
theorem DL.ownL {w : Bool} : ∀ {S : Heap} {ds ms : List M} {ids : List Nat}, DL w S ds ms ids → (∀ m ∈ ms, Good 1000 m) → OwnL (Own 2 S) (flat ds) (flat ms) ids
  | S, [], ms, ids, ⟨h1, h2⟩, _ => by subst h1 h2; exact ⟨rfl, rfl⟩
  | S, d :: ds, ms, ids, ⟨m, l', i1, i2, h1, h2, h3, h4, h5⟩, hg => by
    subst h1 h2
    show OwnL (Own 2 S) (List.flatMap M.cells (d :: ds)) (List.flatMap M.cells (m :: l')) (i1 ++ i2)
    rw [List.flatMap_cons, List.flatMap_cons]
    exact ownL_app (h4.ownL (hg m List.mem_cons_self)) (DL.ownL h5 fun x hx => hg x (List.mem_cons_of_mem _ hx)) h3
/-- Freezing such a row. -/
theorem DMs.fz {w : Bool} {S : Heap} {a : AV} {ds ms : List M} {ids : List Nat} (h : DMs w S a ds ms ids) (hg : ∀ m ∈ ms, Good 1000 m) :
    ∃ a', fz 40 a S = some (a', kill S ids) ∧ (a' = .nils ∧ ms = [] ∨ a' = .is ms.length (flat ms)) := by
  rcases h with ⟨rfl, h1, _, rfl⟩ | ⟨rfl, _, rfl, _⟩ | ⟨q, ids', rfl, rfl, h3, h4, h5⟩
  · exact ⟨.nils, by rw [kill_nil]; rfl, .inl ⟨rfl, h1⟩⟩
  · exact ⟨_, by rw [kill_nil]; rfl, .inr rfl⟩
  · have hl := h5.len
    have hp := h5.pre (Pre.of hg)
    have : Own 3 S (.hs q 0 ms.length 29) (.is ms.length (flat ms)) (q :: ids') := .inr ⟨q, ms.length, 29, flat ds, flat ms, ids', rfl, rfl, rfl, h3, by rw [flat_len hp, hl], h4, h5.ownL hg⟩
    exact ⟨_, own_fz 3 (k := 36) this fun j _ => rfl, .inr rfl⟩
end Go.Ab.tNearU
