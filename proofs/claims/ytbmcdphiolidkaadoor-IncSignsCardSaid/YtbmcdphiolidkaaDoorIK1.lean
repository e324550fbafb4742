/- Writes into macroblocks in the heap. -/
import Derived.Test.YtbmcdphiolidkaaDoorIJ5
set_option maxRecDepth 100000
set_option linter.unusedSimpArgs false
set_option linter.unusedVariables false
set_option linter.unusedSectionVars false
namespace Go.Ab.tNearU
open Go Go.Proofs

theorem cut_nB {N : Nat} {a : AV} (h : Rows N a) : cut (nrmB a) = (cut a).map nrm := by
  by_cases h0 : (cut a).length = 0
  · rw [nrmB_cut0 h h0, List.eq_nil_of_length_eq_zero h0]; rfl
  · rw [nrmB_cut h rfl h0]; rfl
theorem nz_map {m : M} (hg : Good 1000 m) {e : Cd} {r : AV} (h : m.row e = some r) : nz (nrm r) = nz r := nz_nrm' (row_good hg h)
structure Le (m m' : M) : Prop where
  kind : m.kind = m'.kind
  row : ∀ c, (m.row c = none ∧ m'.row c = none) ∨ ∃ r r', m.row c = some r ∧ m'.row c = some r' ∧ nz r ≤ nz r'
theorem Le.refl (m : M) : Le m m := ⟨rfl, fun c => by
  cases h : m.row c with
  | none => exact .inl ⟨rfl, rfl⟩
  | some r => exact .inr ⟨r, r, rfl, rfl, Nat.le_refl _⟩⟩
theorem Le.coef {m m' : M} (h : Le m m') (d : Cd) : nz (coefA m d) ≤ nz (coefA m' d) := by
  unfold coefA
  rcases h.row d with ⟨h1, h2⟩ | ⟨r, r', h1, h2, h3⟩
  · rw [h1, h2]
    simp only
    split
    · rcases h.row (alt d) with ⟨h3, h4⟩ | ⟨r, r', h3, h4, h5⟩
      · rw [h3, h4]; exact Nat.le_refl _
      · rw [h3, h4]; exact h5
    · exact Nat.le_refl _
  · rw [h1, h2]; exact h3
theorem Le.tot {m m' : M} (h : Le m m') (d : Cd) : tot m d ≤ tot m' d := by
  unfold Go.Ab.tNearU.tot
  rw [h.kind]
  split
  · exact Nat.le_refl _
  · split
    · exact Nat.le_refl _
    · exact h.coef d
theorem row_norm {m : M} (hg : Good 1000 m) (c : Cd) : m.norm.row c = (m.row c).map nrm := by
  unfold M.row
  show (ixF m.bls c).bind (fun i => (cut (nrmB m.b))[i]?) = _
  rw [cut_nB hg.b]
  cases ixF m.bls c with
  | none => rfl
  | some i => show ((cut m.b).map nrm)[i]? = ((cut m.b)[i]?).map nrm; rw [List.getElem?_map]
theorem Le.norm {m m' : M} (h : Le m m') (hg : Good 1000 m') : Le m m'.norm := ⟨h.kind, fun c => by
  rw [row_norm hg]
  rcases h.row c with ⟨h1, h2⟩ | ⟨r, r', h1, h2, h3⟩
  · exact .inl ⟨h1, by rw [h2]; rfl⟩
  · exact .inr ⟨r, nrm r', h1, by rw [h2]; rfl, by rw [nz_map hg h2]; exact h3⟩⟩
structure LeL (ms ms' : List M) : Prop where
  len : ms.length = ms'.length
  at' : ∀ i (h : i < ms.length) (h' : i < ms'.length), Le ms[i] ms'[i]
theorem fa_le {fi a : Int} {ms ms' : List M} (h : LeL ms ms') : Le (fa fi ms a).1 (fa fi ms' a).1 ∧ (fa fi ms a).2 = (fa fi ms' a).2 := by
  unfold fa
  by_cases hc : fi ≤ a ∧ a < fi + ms.length
  · have hc' : fi ≤ a ∧ a < fi + ms'.length := by rw [← h.len]; exact hc
    rw [dif_pos hc, dif_pos hc']
    exact ⟨h.at' _ _ _, rfl⟩
  · have hc' : ¬ (fi ≤ a ∧ a < fi + ms'.length) := by rw [← h.len]; exact hc
    rw [dif_neg hc, dif_neg hc']
    exact ⟨Le.refl _, rfl⟩
theorem lf_le {fi w : Int} {ms ms' : List M} (h : LeL ms ms') : Le (lf fi w ms).1 (lf fi w ms').1 ∧ (lf fi w ms).2 = (lf fi w ms').2 := by
  unfold lf
  rw [← h.len]
  split
  · exact ⟨Le.refl _, rfl⟩
  · exact fa_le h
theorem ownL_upd {P : AV → AV → List Nat → Prop} : ∀ {l r : List AV} {ids : List Nat}, OwnL P l r ids → ∀ i (hi : i < l.length) (hi' : i < r.length),
    ∃ idx, P l[i] r[i] idx ∧ (∀ j ∈ idx, j ∈ ids) ∧ ∀ (Q : AV → AV → List Nat → Prop) (r' : AV), (∀ a a' ix, (∀ j ∈ ix, j ∉ idx) → P a a' ix → Q a a' ix) → Q l[i] r' idx → OwnL Q l (r.set i r') ids
  | [], r, ids, _, i, hi, _ => by cases hi
  | a :: l, r, ids, ⟨a', l', i1, i2, h1, h2, h3, h4, h5⟩, i, hi, hi' => by
    subst h1 h2
    cases i with
    | zero =>
      refine ⟨i1, h4, fun j hj => List.mem_append_left _ hj, fun Q r' hq hr => ⟨r', l', i1, i2, rfl, rfl, h3, hr, ?_⟩⟩
      exact h5.mono fun x x' ix hx hp => hq x x' ix (fun j hj hj' => h3 j hj' (hx j hj)) hp
    | succ i =>
      obtain ⟨idx, f1, f2, f3⟩ := ownL_upd h5 i (by simpa using hi) (by simpa using hi')
      refine ⟨idx, f1, fun j hj => List.mem_append_right _ (f2 j hj), fun Q r' hq hr => ⟨a', l'.set i r', i1, i2, rfl, rfl, h3, hq a a' i1 (fun j hj hj' => h3 j hj (f2 j hj')) h4, f3 Q r' hq hr⟩⟩
theorem ownL_len {P : AV → AV → List Nat → Prop} : ∀ {l r : List AV} {ids : List Nat}, OwnL P l r ids → r.length = l.length
  | [], r, ids, ⟨h, _⟩ => by subst h; rfl
  | a :: l, r, ids, ⟨a', l', i1, i2, h1, h2, h3, h4, h5⟩ => by subst h1; simp [ownL_len h5]
theorem D2.write {T : Heap} {b mb : AV} {ids : List Nat} (h : D2 true T b mb ids) {i : Nat} (hi : i < (cut mb).length) :
    ∃ q m outs ids' x, b = .hs q 0 m 1 ∧ ids = q :: ids' ∧ T.blk q = some outs ∧ outs[i]? = some x ∧ m = (cut mb).length ∧
      ((x = .nils ∧ (cut mb)[i] = .nils) ∨ ∃ id n cs, x = .hs id 0 n 1 ∧ (cut mb)[i] = .is n cs ∧ T.blk id = some cs ∧ cs.length = n ∧ id ∈ ids' ∧
        ∀ cs' : List AV, cs'.length = n → cs'.all plain1 = true → D2 true (T.set id (some cs')) b (.is m ((cut mb).set i (.is n cs'))) ids) := by
  rcases h with ⟨_, rfl, _, h8⟩ | ⟨q, m, outs, rs, ids', rfl, rfl, rfl, h4, h5, h6, h7⟩
  · rw [h8 rfl] at hi; cases hi
  · have hlen := ownL_len h7
    have hcut : cut (.is m rs) = rs := rfl
    have hi1 : i < rs.length := hi
    have hi0 : i < outs.length := by omega
    obtain ⟨idx, f1, f2, f3⟩ := ownL_upd h7 i hi0 hi1
    refine ⟨q, m, outs, ids', outs[i], rfl, rfl, h4, List.getElem?_eq_getElem hi0, by rw [hcut]; omega, ?_⟩
    rcases f1 with ⟨_, g2, _, g4⟩ | ⟨id, n, cs, g1, g2, g3, g4, g5, g6⟩
    · exact .inl ⟨g4 rfl, by show rs[i] = _; rw [g2, g4 rfl]⟩
    · have hid : id ∈ ids' := f2 id (by rw [g3]; exact List.mem_singleton.2 rfl)
      refine .inr ⟨id, n, cs, g1, g2, g4, by omega, hid, fun cs' hl hp => ?_⟩
      have hne : q ≠ id := fun h => h6 (by rw [h]; exact hid)
      refine .inr ⟨q, m, outs, rs.set i (.is n cs'), ids', rfl, rfl, rfl, by rw [set_other _ _ hne]; exact h4, h5, h6, f3 _ _ (fun a a' ix hix hp => hp.keep fun j hj => ?_) ?_⟩
      · exact set_other _ _ (fun h => hix j hj (by rw [g3, h]; exact List.mem_singleton.2 rfl))
      · exact .inr ⟨id, n, cs', g1, rfl, g3, set_blk _ _ _, by omega, hp⟩
theorem dL_upd {w : Bool} {S : Heap} : ∀ {ds ms : List M} {ids : List Nat}, DL w S ds ms ids → ∀ i (hi : i < ds.length) (hi' : i < ms.length),
    ∃ idx, DM w S ds[i] ms[i] idx ∧ (∀ j ∈ idx, j ∈ ids) ∧ ∀ (T : Heap) (m' : M), (∀ j ∈ ids, j ∉ idx → T.blk j = S.blk j) → DM w T ds[i] m' idx → DL w T ds (ms.set i m') ids
  | [], ms, ids, _, i, hi, _ => by cases hi
  | d :: ds, ms, ids, ⟨m, l', i1, i2, h1, h2, h3, h4, h5⟩, i, hi, hi' => by
    subst h1 h2
    cases i with
    | zero =>
      refine ⟨i1, h4, fun j hj => List.mem_append_left _ hj, fun T m' hk hm => ⟨m', l', i1, i2, rfl, rfl, h3, hm, ?_⟩⟩
      exact h5.keep fun j hj => hk j (List.mem_append_right _ hj) (fun hj' => h3 j hj' hj)
    | succ i =>
      obtain ⟨idx, f1, f2, f3⟩ := dL_upd h5 i (by simpa using hi) (by simpa using hi')
      refine ⟨idx, f1, fun j hj => List.mem_append_right _ (f2 j hj), fun T m' hk hm => ⟨m, l'.set i m', i1, i2, rfl, rfl, h3, ?_, ?_⟩⟩
      · exact h4.keep fun j hj => hk j (List.mem_append_left _ hj) (fun hj' => h3 j hj (f2 j hj'))
      · exact f3 T m' (fun j hj hj' => hk j (List.mem_append_right _ hj) hj') hm
def RelB (ρ : Nat → Nat → Prop) (b b' : AV) : Prop := (cut b').length = (cut b).length ∧ ∀ i (h : i < (cut b).length) (h' : i < (cut b').length), ρ (nz (cut b)[i]) (nz (cut b')[i])
theorem RelB.refl {ρ : Nat → Nat → Prop} (hr : ∀ n, ρ n n) (b : AV) : RelB ρ b b := ⟨rfl, fun _ _ _ => hr _⟩
theorem RelB.trans {ρ : Nat → Nat → Prop} (ht : ∀ {a b c}, ρ a b → ρ b c → ρ a c) {x y z : AV} (h1 : RelB ρ x y) (h2 : RelB ρ y z) : RelB ρ x z :=
  ⟨h2.1.trans h1.1, fun i h h' => ht (h1.2 i h (by rw [h1.1]; exact h)) (h2.2 i _ h')⟩
theorem relB_set {ρ : Nat → Nat → Prop} (hr : ∀ n, ρ n n) {mb : AV} (hR : Rows 1000 mb) {i n : Nat} {cs cs' : List AV} (hi : i < (cut mb).length) (h : (cut mb)[i] = .is n cs) (hl : cs'.length = cs.length) (hI : ints cs') (hρ : ρ (nzL cs) (nzL cs')) :
    Rows 1000 (.is (cut mb).length ((cut mb).set i (.is n cs'))) ∧ RelB ρ mb (.is (cut mb).length ((cut mb).set i (.is n cs'))) := by
  have hRl := hR.rl
  refine ⟨.inr ⟨_, _, rfl, by omega, by rw [List.length_set], fun c hc => ?_⟩, by show ((cut mb).set i _).length = _; rw [List.length_set], fun j h1 h2 => ?_⟩
  · rcases List.mem_or_eq_of_mem_set hc with hc | rfl
    · exact hR.mem c hc
    · have := hR.mem _ (List.getElem_mem hi)
      rw [h] at this
      obtain h0 | ⟨n', cs0, h0, h1, h2, h3⟩ := this
      · cases h0
      · cases h0
        exact .inr ⟨n, cs', rfl, h1, by omega, hI⟩
  · have h2' : j < ((cut mb).set i (AV.is n cs')).length := h2
    show ρ (nz (cut mb)[j]) (nz (((cut mb).set i (AV.is n cs'))[j]'h2'))
    by_cases hj : i = j
    · subst hj
      rw [List.getElem_set_self, h]; exact hρ
    · rw [List.getElem_set_ne hj]; exact hr _
theorem RelB.row {ρ : Nat → Nat → Prop} {m : M} {b' : AV} (h : RelB ρ m.b b') (c : Cd) : (m.row c = none ∧ ({ m with b := b' } : M).row c = none) ∨ ∃ r r', m.row c = some r ∧ ({ m with b := b' } : M).row c = some r' ∧ ρ (nz r) (nz r') := by
  unfold M.row
  show ((ixF m.bls c).bind _ = none ∧ (ixF m.bls c).bind (fun i => (cut b')[i]?) = none) ∨ ∃ r r', _ = some r ∧ (ixF m.bls c).bind (fun i => (cut b')[i]?) = some r' ∧ _
  cases ixF m.bls c with
  | none => exact .inl ⟨rfl, rfl⟩
  | some i =>
    show ((cut m.b)[i]? = none ∧ (cut b')[i]? = none) ∨ ∃ r r', (cut m.b)[i]? = some r ∧ (cut b')[i]? = some r' ∧ _
    by_cases hi : i < (cut m.b).length
    · have hi' : i < (cut b').length := by rw [h.1]; exact hi
      exact .inr ⟨_, _, List.getElem?_eq_getElem hi, List.getElem?_eq_getElem hi', h.2 i hi hi'⟩
    · exact .inl ⟨List.getElem?_eq_none (by omega), List.getElem?_eq_none (by rw [h.1]; omega)⟩
theorem RelB.le {m : M} {b' : AV} (h : RelB (· ≤ ·) m.b b') : Le m { m with b := b' } := ⟨rfl, h.row⟩
theorem isNz_int (v : Int) : isNz (.int .i64 v) = decide (v ≠ 0) := by
  unfold isNz
  by_cases h : v = 0 <;> simp [h]
theorem nzL_set (l : List AV) {k : Nat} (h : k < l.length) (a : AV) : nzL (l.set k a) + (if isNz l[k] = true then 1 else 0) = nzL l + (if isNz a = true then 1 else 0) := by
  unfold nzL
  induction l generalizing k with
  | nil => cases h
  | cons x l ih =>
    cases k with
    | zero =>
      simp only [List.set_cons_zero, List.getElem_cons_zero, List.filter_cons]
      by_cases h1 : isNz x = true <;> by_cases h2 : isNz a = true <;> simp [h1, h2] <;> omega
    | succ k =>
      have := ih (k := k) (by simpa using h)
      simp only [List.set_cons_succ, List.getElem_cons_succ, List.filter_cons]
      by_cases h1 : isNz x = true <;> simp [h1] <;> omega
theorem ints_set {cs : List AV} (h : ints cs) (k : Nat) (v : Int) : ints (cs.set k (.int .i64 v)) := fun c hc => by
  rcases List.mem_or_eq_of_mem_set hc with hc | rfl
  · exact h c hc
  · exact ⟨v, rfl⟩
theorem dm_len {T : Heap} {d m : M} {ids : List Nat} (h : DM true T d m ids) (hg : Good 1000 m) : aLen Tryd.prog 27 d.b = some (.int .i64 ((cut m.b).length : Int)) := by
  obtain ⟨i1, i2, rfl, h2, h3, h4⟩ := h.own
  obtain ⟨n, hn, hl, hL, hI⟩ := h4.at hg.b
  rw [hL, hl]
theorem DM.writeB {T : Heap} {d m : M} {ids : List Nat} (h : DM true T d m ids) {j : Nat} (hj : j < (cut m.b).length) :
    ∃ qb outs y, d.b = .hs qb 0 (cut m.b).length 1 ∧ T.blk qb = some outs ∧ outs[j]? = some y ∧
      ((y = .nils ∧ (cut m.b)[j] = .nils) ∨ ∃ id n cs, y = .hs id 0 n 1 ∧ (cut m.b)[j] = .is n cs ∧ T.blk id = some cs ∧ cs.length = n ∧ id ∈ ids ∧
        ∀ cs' : List AV, cs'.length = n → cs'.all plain1 = true → DM true (T.set id (some cs')) d { m with b := .is (cut m.b).length ((cut m.b).set j (.is n cs')) } ids) := by
  obtain ⟨i1, i2, rfl, h2, h3, h4⟩ := h.own
  obtain ⟨q, n0, outs, ids', y, e1, e2, e3, e4, rfl, e6⟩ := h4.write hj
  refine ⟨q, outs, y, e1, e3, e4, ?_⟩
  rcases e6 with e6 | ⟨id, n, cs, f1, f2, f3, f4, f5, f6⟩
  · exact .inl e6
  · have hid : id ∈ i2 := by rw [e2]; exact List.mem_cons_of_mem _ f5
    refine .inr ⟨id, n, cs, f1, f2, f3, f4, List.mem_append_right _ hid, fun cs' hl hp => ⟨h.pre, h.cb, h.qp, h.s, h.r, i1, i2, rfl, h2, h3.keep fun j hj => ?_, f6 cs' hl hp⟩⟩
    exact set_other _ _ (fun he => h2 j hj (by rw [he]; exact hid))
theorem SoM.upd {T : Heap} {x : AV} {ds ms : List M} {ids : List Nat} (h : SoM T x ds ms ids) {i : Nat} (hi : i < ms.length) :
    ∃ (q : Nat) (hi' : i < ds.length) (idx : List Nat), x = .hs q 0 ms.length 29 ∧ T.blk q = some (flat ds) ∧ DM true T ds[i] ms[i] idx ∧ (∀ j ∈ idx, j ∈ ids) ∧
      ∀ (T' : Heap) (m' : M), (∀ j, j ∉ idx → T'.blk j = T.blk j) → DM true T' ds[i] m' idx → SoM T' x ds (ms.set i m') ids := by
  rcases h with ⟨rfl, _⟩ | ⟨h0, q, ids', rfl, rfl, h3, h4, h5⟩
  · cases hi
  · have hl := h5.len
    have hi' : i < ds.length := by omega
    obtain ⟨idx, f1, f2, f3⟩ := dL_upd h5 i hi' hi
    refine ⟨q, hi', idx, rfl, h3, f1, fun j hj => List.mem_cons_of_mem _ (f2 j hj), fun T' m' hk hm => .inr ⟨?_, q, ids', by rw [List.length_set], rfl, ?_, h4, f3 T' m' (fun j _ hj => hk j hj) hm⟩⟩
    · intro h; apply h0; have := congrArg List.length h; rw [List.length_set] at this; exact List.eq_nil_of_length_eq_zero this
    · rw [hk q fun hq => h4 (f2 q hq)]; exact h3
theorem SoM.rd {T : Heap} {x : AV} {ds ms : List M} {ids : List Nat} (h : SoM T x ds ms ids) (hg : ∀ m ∈ ms, Good 1000 m) :
    ∃ x', fz 40 x T = some (x', kill T ids) ∧ ∀ S, Rd S x' ms := by
  obtain ⟨x', h1, h2⟩ := h.dms.fz hg
  refine ⟨x', h1, fun S => ?_⟩
  rcases h2 with ⟨h2, h3⟩ | h2
  · exact .inl ⟨h2, h3⟩
  · exact .inr (.inl h2)
theorem tr_or (S S' : Heap) (v : AV) : ctlW.tr S v S' = (v, S') ∨ (ctlW.tr S v S' = (v, S) ∧ ∀ i, i < S.next → S'.blk i = S.blk i) := by
  simp only [ctlW, trim]
  split
  · rename_i h; exact .inr ⟨rfl, h.2.2⟩
  · exact .inl rfl
theorem putV_row {T : Heap} {id k : Nat} {cs : List AV} {v : AV} (hb : T.blk id = some cs) (hk : k < cs.length) : putV (.ptr id k) [v] T = some (T.set id (some (cs.set k v))) := by
  simp only [putV, hb, List.length_cons, List.length_nil, setCells]
  rw [if_pos (by omega)]
theorem set_set (T : Heap) (i : Nat) (a b : Option (List AV)) : (T.set i a).set i b = T.set i b := by
  refine heap_ext (funext fun j => ?_) rfl rfl
  by_cases h : j = i <;> simp [Heap.set, h]
theorem set_same {T : Heap} {i : Nat} {a : Option (List AV)} (h : T.blk i = a) : T.set i a = T := by
  refine heap_ext (funext fun j => ?_) rfl rfl
  by_cases hj : j = i
  · subst hj; rw [set_blk, h]
  · rw [set_other _ _ hj]
theorem aIdx_row {id n k : Nat} (h : k < n) : aIdx 1 (.hs id 0 n 1) (k : Int) = some (.ptr id k) := by
  simp only [aIdx, Int.toNat_natCast]
  rw [if_pos ⟨by omega, by omega, trivial⟩, Nat.mul_one, Nat.zero_add]
theorem LeL.norm {ms ms' : List M} (h : LeL ms ms') (hg : ∀ m ∈ ms', Good 1000 m) : LeL ms (ms'.map M.norm) := ⟨by rw [List.length_map]; exact h.len, fun i h1 h2 => by
  rw [List.getElem_map]
  exact (h.at' i h1 (by rw [List.length_map] at h2; exact h2)).norm (hg _ (List.getElem_mem _))⟩
theorem LeL.refl (ms : List M) : LeL ms ms := ⟨rfl, fun _ _ _ => Le.refl _⟩
theorem LeL.tot2 {m m' : M} (h1 : Le m m') (h2 : Le m' m) (c : Cd) : tot m c = tot m' c := Nat.le_antisymm (h1.tot c) (h2.tot c)
theorem Le.normL {m m' : M} (h : Le m m') (hg : Good 1000 m) : Le m.norm m' := ⟨h.kind, fun c => by
  rw [row_norm hg]
  rcases h.row c with ⟨h1, h2⟩ | ⟨r, r', h1, h2, h3⟩
  · exact .inl ⟨by rw [h1]; rfl, h2⟩
  · exact .inr ⟨nrm r, r', by rw [h1]; rfl, h2, by rw [nz_map hg h1]; exact h3⟩⟩
theorem DM.fz {w : Bool} {S : Heap} {d m : M} {ids : List Nat} (h : DM w S d m ids) (hg : Good 1000 m) : fz 40 (.agg d.cells) S = some (.agg m.cells, kill S ids) := by
  have e := ownL_fz (d := 2) (k := 36) (fun hx hy => own_fz 2 hx hy) (h.ownL hg) (T := S) fun _ _ => rfl
  rw [show (40 : Nat) = 39 + 1 from rfl, Go.Ab.fz]
  simp only [e]
end Go.Ab.tNearU
