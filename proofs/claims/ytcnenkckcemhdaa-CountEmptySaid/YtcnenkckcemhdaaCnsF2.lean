/- A write into a macroblock of a row in the heap. -/
import Derived.Test.YtcnenkckcemhdaaCnsF1
set_option maxRecDepth 100000
set_option linter.unusedSimpArgs false
set_option linter.unusedVariables false
set_option linter.unusedSectionVars false
namespace Go.Ab.tNearU
open Go Go.Proofs

/-- A macroblock of a row in the heap, and its rows. -/
theorem dm_len {T : Heap} {d m : M} {ids : List Nat} (h : DM true T d m ids) (hg : Good 1000 m) : aLen Try.prog 27 d.b = some (.int .i64 ((cut m.b).length : Int)) := by
  obtain ⟨i1, i2, rfl, h2, h3, h4⟩ := h.own
  obtain ⟨n, hn, hl, hL, hI⟩ := h4.at hg.b
  rw [hL, hl]
theorem bO_ex {α β : Type} {o : Option α} {f : α → Option β} (W : Option β → Prop) (Q : α → Prop) (h : ∃ y, o = some y ∧ Q y) (hq : ∀ y, Q y → W (f y)) : W (bO o f) := by
  obtain ⟨y, rfl, hy⟩ := h; exact hq y hy
theorem DM.writeB {T : Heap} {d m : M} {ids : List Nat} (h : DM true T d m ids) {j : Nat} (hj : j < (cut m.b).length) :
    ∃ qb outs y, d.b = .hs qb 0 (cut m.b).length 1 ∧ T.blk qb = some outs ∧ outs[j]? = some y ∧
      ((y = .nils ∧ (cut m.b)[j] = .nils) ∨ ∃ id n cs, y = .hs id 0 n 1 ∧ (cut m.b)[j] = .is n cs ∧ T.blk id = some cs ∧ cs.length = n ∧ id ∈ ids ∧
        ∀ cs' : List AV, cs'.length = n → cs'.all plain1 = true → DM true (T.set id (some cs')) d { m with b := .is (cut m.b).length ((cut m.b).set j (.is n cs')) } ids) := by
  obtain ⟨i1, i2, rfl, h2, h3, h4⟩ := h.own
  obtain ⟨q, n0, outs, ids', y, e1, e2, e3, e4, rfl, e6⟩ := h4.write hj
  refine ⟨q, outs, y, e1, e3, e4, ?_⟩
  rcases e6 with e6 | ⟨id, n, cs, f1, f2, f3, f4, f5, f6⟩
  · exact .inl e6
  · have hid : id ∈ i2 := by rw [e2]; exact List.mem_cons_of_mem _ f5
    refine .inr ⟨id, n, cs, f1, f2, f3, f4, List.mem_append_right _ hid, fun cs' hl hp => ⟨h.pre, h.cb, h.qp, h.s, h.r, i1, i2, rfl, h2, h3.keep fun j hj => ?_, f6 cs' hl hp⟩⟩
    exact set_other _ _ (fun he => h2 j hj (by rw [he]; exact hid))
theorem SoM.upd {T : Heap} {x : AV} {ds ms : List M} {ids : List Nat} (h : SoM T x ds ms ids) {i : Nat} (hi : i < ms.length) :
    ∃ (q : Nat) (hi' : i < ds.length) (idx : List Nat), x = .hs q 0 ms.length 29 ∧ T.blk q = some (flat ds) ∧ DM true T ds[i] ms[i] idx ∧ (∀ j ∈ idx, j ∈ ids) ∧
      ∀ (T' : Heap) (m' : M), (∀ j, j ∉ idx → T'.blk j = T.blk j) → DM true T' ds[i] m' idx → SoM T' x ds (ms.set i m') ids := by
  rcases h with ⟨rfl, _⟩ | ⟨h0, q, ids', rfl, rfl, h3, h4, h5⟩
  · cases hi
  · have hl := h5.len
    have hi' : i < ds.length := by omega
    obtain ⟨idx, f1, f2, f3⟩ := dL_upd h5 i hi' hi
    refine ⟨q, hi', idx, rfl, h3, f1, fun j hj => List.mem_cons_of_mem _ (f2 j hj), fun T' m' hk hm => .inr ⟨?_, q, ids', by rw [List.length_set], rfl, ?_, h4, f3 T' m' (fun j _ hj => hk j hj) hm⟩⟩
    · intro h; apply h0; have := congrArg List.length h; rw [List.length_set] at this; exact List.eq_nil_of_length_eq_zero this
    · rw [hk q fun hq => h4 (f2 q hq)]; exact h3
theorem DMs.arg {a : AV} {ms : List M} (ha : ∀ S, Rd S a ms) (S : Heap) : DMs false S a ms ms [] := by
  rcases arg_cases ha with ⟨h1, h2⟩ | h
  · exact .inl ⟨h1, h2, h2, rfl⟩
  · exact .inr (.inl ⟨h, rfl, rfl, rfl⟩)
theorem SoM.rd {T : Heap} {x : AV} {ds ms : List M} {ids : List Nat} (h : SoM T x ds ms ids) (hg : ∀ m ∈ ms, Good 1000 m) :
    ∃ x', fz 40 x T = some (x', kill T ids) ∧ ∀ S, Rd S x' ms := by
  obtain ⟨x', h1, h2⟩ := h.dms.fz hg
  refine ⟨x', h1, fun S => ?_⟩
  rcases h2 with ⟨h2, h3⟩ | h2
  · exact .inl ⟨h2, h3⟩
  · exact .inr (.inl h2)
theorem rem_nat {a n : Nat} (h : n ≠ 0) : aInt .rem .i64 (a : Int) (n : Int) = some (.int .i64 ((a % n : Nat) : Int)) := by
  rw [rem64 _ _ (by omega)]
  rw [Int.tmod_eq_emod_of_nonneg (by omega)]
  rfl
theorem tr_or (S S' : Heap) (v : AV) : ctlW.tr S v S' = (v, S') ∨ (ctlW.tr S v S' = (v, S) ∧ ∀ i, i < S.next → S'.blk i = S.blk i) := by
  simp only [ctlW, trim]
  split
  · rename_i h; exact .inr ⟨rfl, h.2.2⟩
  · exact .inl rfl
theorem putV_row {T : Heap} {id k : Nat} {cs : List AV} {v : AV} (hb : T.blk id = some cs) (hk : k < cs.length) : putV (.ptr id k) [v] T = some (T.set id (some (cs.set k v))) := by
  simp only [putV, hb, List.length_cons, List.length_nil, setCells]
  rw [if_pos (by omega)]
theorem set_set (T : Heap) (i : Nat) (a b : Option (List AV)) : (T.set i a).set i b = T.set i b := by
  refine heap_ext (funext fun j => ?_) rfl rfl
  by_cases h : j = i <;> simp [Heap.set, h]
theorem set_same {T : Heap} {i : Nat} {a : Option (List AV)} (h : T.blk i = a) : T.set i a = T := by
  refine heap_ext (funext fun j => ?_) rfl rfl
  by_cases hj : j = i
  · subst hj; rw [set_blk, h]
  · rw [set_other _ _ hj]
theorem aIdx_row {id n k : Nat} (h : k < n) : aIdx 1 (.hs id 0 n 1) (k : Int) = some (.ptr id k) := by
  simp only [aIdx, Int.toNat_natCast]
  rw [if_pos ⟨by omega, by omega, trivial⟩, Nat.mul_one, Nat.zero_add]
end Go.Ab.tNearU
