/- Rows of macroblocks in the heap whose blocks are replaced by others. -/
import Derived.Test.YtcnenkckcemhdaaCnsF2
set_option maxRecDepth 100000
set_option linter.unusedSimpArgs false
set_option linter.unusedVariables false
set_option linter.unusedSectionVars false
namespace Go.Ab.tNearU
open Go Go.Proofs

/-- A macroblock whose rows are deep values of any kind. -/
structure DZ (S : Heap) (d m : M) (ids : List Nat) : Prop where
  pre : d.pre = m.pre
  cb : d.cb = m.cb
  qp : d.qp = m.qp
  s : d.s = m.s
  r : d.r = m.r
  own : ∃ i1 i2, ids = i1 ++ i2 ∧ (∀ j ∈ i1, j ∉ i2) ∧ Own 2 S d.v m.v i1 ∧ Own 2 S d.b m.b i2
theorem DM.z {w : Bool} {S : Heap} {d m : M} {ids : List Nat} (h : DM w S d m ids) : DZ S d m ids := by
  obtain ⟨i1, i2, h1, h2, h3, h4⟩ := h.own
  exact ⟨h.pre, h.cb, h.qp, h.s, h.r, i1, i2, h1, h2, own1_2 h3.own, h4.own⟩
theorem DZ.keep {S T : Heap} {d m : M} {ids : List Nat} (h : DZ S d m ids) (hk : ∀ j ∈ ids, T.blk j = S.blk j) : DZ T d m ids := by
  obtain ⟨i1, i2, rfl, h2, h3, h4⟩ := h.own
  exact ⟨h.pre, h.cb, h.qp, h.s, h.r, i1, i2, rfl, h2, h3.keep fun j hj => hk j (List.mem_append_left _ hj), h4.keep fun j hj => hk j (List.mem_append_right _ hj)⟩
theorem DZ.ownL {S : Heap} {d m : M} {ids : List Nat} (h : DZ S d m ids) (hg : Good 1000 m) : OwnL (Own 2 S) d.cells m.cells ids := by
  obtain ⟨i1, i2, rfl, h2, h3, h4⟩ := h.own
  have e1 : OwnL (Own 2 S) (d.pre.map (AV.int .u8)) (m.pre.map (AV.int .u8)) [] := by
    rw [h.pre]
    exact ownL_plain (List.all_eq_true.2 fun c hc => by obtain ⟨i, _, rfl⟩ := List.mem_map.1 hc; rfl)
  have no : ∀ {l : List Nat}, ∀ j ∈ ([] : List Nat), j ∉ l := fun j hj => by cases hj
  unfold M.cells
  refine ownL_app (i1 := []) e1 ⟨m.r, [m.v, .int .u8 m.cb, .int .i64 m.qp, m.b, .str m.s], [], i1 ++ i2, rfl, rfl, no, ?_, ?_⟩ no
  · rw [h.r]; exact .inl ⟨hg.r.plain, rfl, rfl⟩
  refine ⟨m.v, [.int .u8 m.cb, .int .i64 m.qp, m.b, .str m.s], i1, i2, rfl, rfl, h2, h3, ?_⟩
  refine ⟨.int .u8 m.cb, [.int .i64 m.qp, m.b, .str m.s], [], i2, rfl, rfl, no, .inl ⟨rfl, by rw [h.cb], rfl⟩, ?_⟩
  refine ⟨.int .i64 m.qp, [m.b, .str m.s], [], i2, rfl, rfl, no, .inl ⟨rfl, by rw [h.qp], rfl⟩, ?_⟩
  refine ⟨m.b, [.str m.s], i2, [], rfl, (List.append_nil i2).symm, fun j _ hj => (by cases hj), h4, ?_⟩
  exact ⟨.str m.s, [], [], [], rfl, rfl, no, .inl ⟨rfl, by rw [h.s], rfl⟩, rfl, rfl⟩
theorem ownL_put {P : AV → AV → List Nat → Prop} {x x' : AV} (hx : P x x' []) : ∀ {l r : List AV} {ids : List Nat}, OwnL P l r ids → ∀ i, i < l.length → ∃ ids2, OwnL P (l.set i x) (r.set i x') ids2 ∧ ∀ j ∈ ids2, j ∈ ids
  | [], r, ids, _, i, hi => by cases hi
  | a :: l, r, ids, ⟨a', l', i1, i2, h1, h2, h3, h4, h5⟩, i, hi => by
    subst h1 h2
    cases i with
    | zero => exact ⟨i2, ⟨x', l', [], i2, rfl, rfl, fun j hj => (by cases hj), hx, h5⟩, fun j hj => List.mem_append_right _ hj⟩
    | succ i =>
      obtain ⟨i3, f1, f2⟩ := ownL_put hx h5 i (by simpa using hi)
      refine ⟨i1 ++ i3, ⟨a', l'.set i x', i1, i3, rfl, rfl, fun j hj hj' => h3 j hj (f2 j hj'), h4, f1⟩, fun j hj => ?_⟩
      rcases List.mem_append.1 hj with h | h
      · exact List.mem_append_left _ h
      · exact List.mem_append_right _ (f2 j h)
theorem ownL_at {P : AV → AV → List Nat → Prop} : ∀ {l r : List AV} {ids : List Nat}, OwnL P l r ids → ∀ i (h1 : i < l.length) (h2 : i < r.length), ∃ ix, P l[i] r[i] ix
  | [], r, ids, _, i, hi, _ => by cases hi
  | a :: l, r, ids, ⟨a', l', i1, i2, h1, h2, h3, h4, h5⟩, i, hi, hi' => by
    subst h1
    cases i with
    | zero => exact ⟨i1, h4⟩
    | succ i => exact ownL_at h5 i (by simpa using hi) (by simpa using hi')
theorem DZ.put {T : Heap} {d m : M} {ids : List Nat} (h : DZ T d m ids) {qb n : Nat} (hb : d.b = .hs qb 0 n 1) :
    ∃ outs rs, m.b = .is n rs ∧ T.blk qb = some outs ∧ outs.length = n ∧ rs.length = n ∧ (∀ j (h1 : j < outs.length) (h2 : j < rs.length), ∃ ix, Own 1 T outs[j] rs[j] ix) ∧ qb ∈ ids ∧
      ∀ (j : Nat) (x : AV), j < n → plain1 x = true → ∃ ids2, DZ (T.set qb (some (outs.set j x))) d { m with b := .is n (rs.set j x) } ids2 ∧ ∀ j ∈ ids2, j ∈ ids := by
  obtain ⟨i1, i2, rfl, h2, h3, h4⟩ := h.own
  rcases h4 with ⟨h5, _⟩ | ⟨id, n', es, outs, rs, ids', e1, e2, e3, e4, e5, e6, e7⟩
  · rw [hb] at h5; cases h5
  · rw [hb] at e1
    cases e1
    have hl := ownL_len e7
    refine ⟨outs, rs, e2, e4, by omega, by omega, ownL_at e7, List.mem_append_right _ (by rw [e3]; exact List.mem_cons_self), fun j x hj hx => ?_⟩
    have hk : ∀ j, j ≠ qb → (T.set qb (some (outs.set j x))).blk j = T.blk j := fun j hj => set_other _ _ hj
    obtain ⟨i3, f1, f2⟩ := ownL_put (P := Own 1 (T.set qb (some (outs.set j x)))) (x := x) (x' := x) (.inl ⟨hx, rfl, rfl⟩)
      (e7.mono (Q := Own 1 (T.set qb (some (outs.set j x)))) fun a a' ix hix ha => ha.keep fun j' hj' => set_other _ _ fun he => e6 (by rw [← he]; exact hix j' hj')) j (by omega)
    refine ⟨i1 ++ (qb :: i3), ⟨h.pre, h.cb, h.qp, h.s, h.r, i1, qb :: i3, rfl, fun j' hj' hj2 => h2 j' hj' ?_, h3.keep fun j' hj' => set_other _ _ fun he => h2 j' hj' (by rw [he, e3]; exact List.mem_cons_self), .inr ⟨qb, n, 1, outs.set j x, rs.set j x, i3, hb, rfl, rfl, set_blk _ _ _, by rw [List.length_set]; exact e5, fun hq => e6 (f2 _ hq), f1⟩⟩, fun j' hj' => ?_⟩
    · rw [e3]
      rcases List.mem_cons.1 hj2 with rfl | hj2
      · exact List.mem_cons_self
      · exact List.mem_cons_of_mem _ (f2 _ hj2)
    · rcases List.mem_append.1 hj' with hj' | hj'
      · exact List.mem_append_left _ hj'
      · refine List.mem_append_right _ ?_
        rw [e3]
        rcases List.mem_cons.1 hj' with rfl | hj'
        · exact List.mem_cons_self
        · exact List.mem_cons_of_mem _ (f2 _ hj')
def ZL (S : Heap) : List M → List M → List Nat → Prop
  | [], r, ids => r = [] ∧ ids = []
  | d :: l, r, ids => ∃ m l' i1 i2, r = m :: l' ∧ ids = i1 ++ i2 ∧ (∀ j ∈ i1, j ∉ i2) ∧ DZ S d m i1 ∧ ZL S l l' i2
theorem DL.zl {w : Bool} : ∀ {S : Heap} {ds ms : List M} {ids : List Nat}, DL w S ds ms ids → ZL S ds ms ids
  | S, [], ms, ids, h => h
  | S, d :: ds, ms, ids, ⟨m, l', i1, i2, h1, h2, h3, h4, h5⟩ => ⟨m, l', i1, i2, h1, h2, h3, h4.z, DL.zl h5⟩
theorem ZL.keep : ∀ {S T : Heap} {ds ms : List M} {ids : List Nat}, ZL S ds ms ids → (∀ j ∈ ids, T.blk j = S.blk j) → ZL T ds ms ids
  | S, T, [], ms, ids, h, _ => h
  | S, T, d :: ds, ms, ids, ⟨m, l', i1, i2, h1, h2, h3, h4, h5⟩, hk => ⟨m, l', i1, i2, h1, h2, h3, h4.keep fun j hj => hk j (by rw [h2]; exact List.mem_append_left _ hj), ZL.keep h5 fun j hj => hk j (by rw [h2]; exact List.mem_append_right _ hj)⟩
theorem ZL.len : ∀ {S : Heap} {ds ms : List M} {ids : List Nat}, ZL S ds ms ids → ds.length = ms.length
  | S, [], ms, ids, ⟨h1, _⟩ => by subst h1; rfl
  | S, d :: ds, ms, ids, ⟨m, l', i1, i2, h1, h2, h3, h4, h5⟩ => by subst h1; simp [ZL.len h5]
theorem ZL.ownL : ∀ {S : Heap} {ds ms : List M} {ids : List Nat}, ZL S ds ms ids → (∀ m ∈ ms, Good 1000 m) → OwnL (Own 2 S) (flat ds) (flat ms) ids
  | S, [], ms, ids, ⟨h1, h2⟩, _ => by subst h1 h2; exact ⟨rfl, rfl⟩
  | S, d :: ds, ms, ids, ⟨m, l', i1, i2, h1, h2, h3, h4, h5⟩, hg => by
    subst h1 h2
    show OwnL (Own 2 S) (List.flatMap M.cells (d :: ds)) (List.flatMap M.cells (m :: l')) (i1 ++ i2)
    rw [List.flatMap_cons, List.flatMap_cons]
    exact ownL_app (h4.ownL (hg m List.mem_cons_self)) (ZL.ownL h5 fun x hx => hg x (List.mem_cons_of_mem _ hx)) h3
theorem zL_upd {S : Heap} : ∀ {ds ms : List M} {ids : List Nat}, ZL S ds ms ids → ∀ i (hi : i < ds.length) (hi' : i < ms.length),
    ∃ idx, DZ S ds[i] ms[i] idx ∧ (∀ j ∈ idx, j ∈ ids) ∧ ∀ (T : Heap) (m' : M) (idx2 : List Nat), (∀ j ∈ idx2, j ∈ idx) → (∀ j ∈ ids, j ∉ idx → T.blk j = S.blk j) → DZ T ds[i] m' idx2 → ∃ ids2, ZL T ds (ms.set i m') ids2 ∧ ∀ j ∈ ids2, j ∈ ids
  | [], ms, ids, _, i, hi, _ => by cases hi
  | d :: ds, ms, ids, ⟨m, l', i1, i2, h1, h2, h3, h4, h5⟩, i, hi, hi' => by
    subst h1 h2
    cases i with
    | zero =>
      refine ⟨i1, h4, fun j hj => List.mem_append_left _ hj, fun T m' ix2 hs hk hm => ⟨ix2 ++ i2, ⟨m', l', ix2, i2, rfl, rfl, fun j hj hj' => h3 j (hs j hj) hj', hm, ?_⟩, fun j hj => ?_⟩⟩
      · exact h5.keep fun j hj => hk j (List.mem_append_right _ hj) (fun hj' => h3 j hj' hj)
      · rcases List.mem_append.1 hj with h | h
        · exact List.mem_append_left _ (hs j h)
        · exact List.mem_append_right _ h
    | succ i =>
      obtain ⟨idx, f1, f2, f3⟩ := zL_upd h5 i (by simpa using hi) (by simpa using hi')
      refine ⟨idx, f1, fun j hj => List.mem_append_right _ (f2 j hj), fun T m' ix2 hs hk hm => ?_⟩
      obtain ⟨i3, g1, g2⟩ := f3 T m' ix2 hs (fun j hj hj' => hk j (List.mem_append_right _ hj) hj') hm
      refine ⟨i1 ++ i3, ⟨m, l'.set i m', i1, i3, rfl, rfl, fun j hj hj' => h3 j hj (g2 j hj'), h4.keep fun j hj => hk j (List.mem_append_left _ hj) (fun hj' => h3 j hj (f2 j hj')), g1⟩, fun j hj => ?_⟩
      rcases List.mem_append.1 hj with h | h
      · exact List.mem_append_left _ h
      · exact List.mem_append_right _ (g2 j h)
/-- A row of such macroblocks in the heap, and what it is when frozen. -/
def ZSt (T : Heap) (q : Nat) (ds ms : List M) : Prop := ∃ ids', T.blk q = some (flat ds) ∧ q ∉ ids' ∧ ZL T ds ms ids'
theorem ZSt.fz {T : Heap} {q : Nat} {ds ms : List M} (h : ZSt T q ds ms) (hg : ∀ m ∈ ms, Good 1000 m) (hp : Pre ds) : ∃ T', fz 40 (.hs q 0 ms.length 29) T = some (.is ms.length (flat ms), T') := by
  obtain ⟨ids', h1, h2, h3⟩ := h
  have hl := h3.len
  have : Own 3 T (.hs q 0 ms.length 29) (.is ms.length (flat ms)) (q :: ids') := .inr ⟨q, ms.length, 29, flat ds, flat ms, ids', rfl, rfl, rfl, h1, by rw [flat_len hp, hl], h2, h3.ownL hg⟩
  exact ⟨_, own_fz 3 (k := 36) this fun j _ => rfl⟩
theorem ZSt.put {T : Heap} {q : Nat} {ds ms : List M} (h : ZSt T q ds ms) {i : Nat} (hi : i < ds.length) (hi' : i < ms.length) {qb n : Nat} (hb : ds[i].b = .hs qb 0 n 1) :
    ∃ outs rs, ms[i].b = .is n rs ∧ T.blk qb = some outs ∧ outs.length = n ∧ rs.length = n ∧ (∀ j (h1 : j < outs.length) (h2 : j < rs.length), ∃ ix, Own 1 T outs[j] rs[j] ix) ∧
      ∀ (j : Nat) (x : AV), j < n → plain1 x = true → ZSt (T.set qb (some (outs.set j x))) q ds (ms.set i { ms[i] with b := .is n (rs.set j x) }) := by
  obtain ⟨ids', h1, h2, h3⟩ := h
  obtain ⟨idx, f1, f2, f3⟩ := zL_upd h3 i hi hi'
  obtain ⟨outs, rs, e1, e2, e3, e4, e5, e6, e7⟩ := f1.put hb
  refine ⟨outs, rs, e1, e2, e3, e4, e5, fun j x hj hx => ?_⟩
  obtain ⟨ix2, g1, g2⟩ := e7 j x hj hx
  obtain ⟨ids2, k1, k2⟩ := f3 _ _ ix2 g2 (fun j' _ hj' => set_other _ _ fun he => hj' (by rw [he]; exact e6)) g1
  exact ⟨ids2, by rw [set_other _ _ fun he => h2 (by rw [he]; exact f2 _ e6)]; exact h1, fun hq => h2 (k2 _ hq), k1⟩
theorem D1.weak {e : Nat} {S : Heap} {a r : AV} {ids : List Nat} (h : D1 true e S a r ids) : D1 false e S a r ids := by
  rcases h with ⟨h1, h2, h3, _⟩ | h
  · exact .inl ⟨h1, h2, h3, fun h => by cases h⟩
  · exact .inr h
theorem D2.weak {S : Heap} {a r : AV} {ids : List Nat} (h : D2 true S a r ids) : D2 false S a r ids := by
  rcases h with ⟨h1, h2, h3, _⟩ | ⟨id, n, cs, cs', ids', h1, h2, h3, h4, h5, h6, h7⟩
  · exact .inl ⟨h1, h2, h3, fun h => by cases h⟩
  · exact .inr ⟨id, n, cs, cs', ids', h1, h2, h3, h4, h5, h6, h7.mono fun _ _ _ _ h => h.weak⟩
theorem DM.weak {S : Heap} {d m : M} {ids : List Nat} (h : DM true S d m ids) : DM false S d m ids := by
  obtain ⟨i1, i2, h1, h2, h3, h4⟩ := h.own
  exact ⟨h.pre, h.cb, h.qp, h.s, h.r, i1, i2, h1, h2, h3.weak, h4.weak⟩
theorem DL.weak : ∀ {S : Heap} {ds ms : List M} {ids : List Nat}, DL true S ds ms ids → DL false S ds ms ids
  | S, [], ms, ids, h => h
  | S, d :: ds, ms, ids, ⟨m, l', i1, i2, h1, h2, h3, h4, h5⟩ => ⟨m, l', i1, i2, h1, h2, h3, h4.weak, DL.weak h5⟩
theorem app_plain {T : Heap} {x : AV} {ds ms : List M} {m : M} {ids : List Nat} (h : SoM T x ds ms ids) (hg : Good 1000 m) (hp : Pre ds) (hl : ∀ j ∈ ids, j < T.next) (hn : ms.length < 1000) :
    ∃ z T' ids', aAppend 29 128 x (.is 1 m.cells) T = some (z, T') ∧ DMs false T' z (ds ++ [m]) (ms ++ [m]) ids' ∧ (∀ j ∈ ids', j < T'.next) := by
  have l29 := M.len hg.pre
  have hc := hg.cell
  have f1 : flat [m] = m.cells := by unfold flat; rw [List.flatMap_cons, List.flatMap_nil, List.append_nil]
  have one : ∀ {U : Heap}, DL false U [m] [m] [] := ⟨m, [], [], [], rfl, rfl, fun j hj => (by cases hj), DM.self hg, rfl, rfl⟩
  rcases h with ⟨rfl, rfl, rfl, rfl⟩ | ⟨h0, q, ids', rfl, rfl, h3, h5, h6⟩
  · refine ⟨.hs T.next 0 1 29, T.alloc m.cells, [T.next], app_nil (n := 1) (by omega) (by rw [l29]) (room (by omega) (by omega)) (room1 (by omega)), ?_, fun j hj => ?_⟩
    · refine .inr (.inr ⟨T.next, [], rfl, rfl, ?_, List.not_mem_nil, one⟩)
      rw [List.nil_append, f1]; exact alloc_blk T _
    · rw [List.mem_singleton] at hj; rw [alloc_next]; omega
  · have hql := hl q List.mem_cons_self
    have hlen := h6.len
    have hfl := flat_len hp
    have hk : ∀ j, j ≠ q → j < T.next → ((T.set q none).alloc (flat ds ++ m.cells)).blk j = T.blk j := fun j h1 h2 => by
      rw [alloc_other _ _ (show j ≠ (T.set q none).next from Nat.ne_of_lt h2), set_other _ _ h1]
    refine ⟨.hs T.next 0 (ms.length + 1) 29, (T.set q none).alloc (flat ds ++ m.cells), T.next :: (ids' ++ []), app_hs (n := 1) h3 (by omega) (by rw [l29]) (by omega) (room (by omega) (by omega)) (room1 (by omega)) hc, ?_, fun j hj => ?_⟩
    · have d1 := (h6.weak).keep (T := (T.set q none).alloc (flat ds ++ m.cells)) fun j hj => hk j (fun h => by subst h; exact h5 hj) (hl j (List.mem_cons_of_mem _ hj))
      refine .inr (.inr ⟨T.next, ids' ++ [], by simp, rfl, by rw [flat_app, f1]; exact alloc_blk (T.set q none) _, fun h => ?_, d1.app one fun j _ hj => by cases hj⟩)
      rw [List.append_nil] at h
      have := hl _ (List.mem_cons_of_mem _ h); omega
    · have hnx : ((T.set q none).alloc (flat ds ++ m.cells)).next = T.next + 1 := rfl
      rw [List.append_nil] at hj
      rcases List.mem_cons.1 hj with rfl | hj
      · omega
      · have := hl j (List.mem_cons_of_mem _ hj); omega
end Go.Ab.tNearU
