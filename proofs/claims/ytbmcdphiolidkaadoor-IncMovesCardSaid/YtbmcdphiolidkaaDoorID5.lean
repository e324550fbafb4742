/- Copies that are written afterwards: a row of macroblocks. -/
import Derived.Test.YtbmcdphiolidkaaDoorID4
set_option maxRecDepth 100000
set_option linter.unusedSimpArgs false
set_option linter.unusedVariables false
set_option linter.unusedSectionVars false
namespace Go.Ab.tNearU
open Go Go.Proofs

theorem DM.self {S : Heap} {m : M} (hg : Good 1000 m) : DM false S m m [] := ⟨rfl, rfl, rfl, rfl, rfl, [], [], rfl, fun j hj => (by cases hj), .inl ⟨hg.v.plain, rfl, rfl, fun h => (by cases h)⟩, .inl ⟨hg.b.plain, rfl, rfl, fun h => (by cases h)⟩⟩
theorem DMs.len {w : Bool} {S : Heap} {a : AV} {ds ms : List M} {ids : List Nat} (h : DMs w S a ds ms ids) : aLen Tryd.prog 22 a = some (.int .i64 (ms.length : Int)) := by
  rcases h with ⟨rfl, rfl, _, _⟩ | ⟨rfl, _, _⟩ | ⟨q, ids', rfl, _⟩ <;> kernel_rfl
theorem DMs.at {w : Bool} {S : Heap} {a : AV} {ds ms : List M} {ids : List Nat} (h : DMs w S a ds ms ids) (hg : ∀ m ∈ ms, Good 1000 m) {i : Nat} (hi : i < ms.length) :
    ∃ t cs o d idx, aIdx 29 a (i : Int) = some t ∧ (∀ T : Heap, (∀ j ∈ ids, T.blk j = S.blk j) → seeV t T = some (cs, o)) ∧ o + 29 ≤ cs.length ∧ List.take 29 (List.drop o cs) = d.cells ∧ DM w S d ms[i] idx ∧ ∀ j ∈ idx, j ∈ ids := by
  rcases h with ⟨_, rfl, _, _⟩ | ⟨rfl, rfl, rfl, rfl⟩ | ⟨q, ids', rfl, rfl, h3, h4, h5⟩
  · cases hi
  · obtain ⟨r1, r2, r3⟩ := ix_is (Pre.of hg) hi
    exact ⟨_, _, 0, ds[i], [], r1, fun T _ => rfl, by omega, by rw [List.drop_zero]; exact r3, DM.self (hg _ (List.getElem_mem hi)), fun j hj => (by cases hj)⟩
  · have hl := h5.len
    have hp := h5.pre (Pre.of hg)
    have hid : i < ds.length := by omega
    obtain ⟨idx, f1, f2⟩ := h5.at i hid hi
    have hfl := flat_len hp
    refine ⟨.ptr q (0 + i * 29), flat ds, 0 + i * 29, ds[i], idx, ?_, fun T hT => ?_, by omega, by rw [Nat.zero_add]; exact flat_at hp hid, f1, fun j hj => List.mem_cons_of_mem _ (f2 j hj)⟩
    · simp only [aIdx, Int.toNat_natCast]
      rw [if_pos ⟨by omega, by omega, trivial⟩]
    · rw [seeV_p, hT q List.mem_cons_self, h3]
/-- The row that a loop has made so far. -/
def SoM (T : Heap) (x : AV) (ds ms : List M) (ids : List Nat) : Prop :=
  (ms = [] ∧ ds = [] ∧ x = .nils ∧ ids = []) ∨ (ms ≠ [] ∧ ∃ q ids', x = .hs q 0 ms.length 29 ∧ ids = q :: ids' ∧ T.blk q = some (flat ds) ∧ q ∉ ids' ∧ DL true T ds ms ids')
theorem SoM.keep {S T : Heap} {x : AV} {ds ms : List M} {ids : List Nat} (h : SoM S x ds ms ids) (hk : ∀ j ∈ ids, T.blk j = S.blk j) : SoM T x ds ms ids := by
  rcases h with h | ⟨h0, q, ids', h1, h2, h3, h4, h5⟩
  · exact .inl h
  · exact .inr ⟨h0, q, ids', h1, h2, by rw [hk q (by rw [h2]; exact List.mem_cons_self), h3], h4, h5.keep fun j hj => hk j (by rw [h2]; exact List.mem_cons_of_mem _ hj)⟩
theorem soM_add {T : Heap} {x : AV} {ds ms : List M} {d m : M} {ids iy : List Nat} (h : SoM T x ds ms ids) (hy : DM true T d m iy) (hg : Good 1000 m) (hp : Pre ds) (hd : ∀ j ∈ ids, j ∉ iy) (hl : ∀ j ∈ ids, j < T.next) (hly : ∀ j ∈ iy, j < T.next) (hn : ms.length < 1000) :
    ∃ z T' ids', aAppend 29 128 x (.is 1 d.cells) T = some (z, T') ∧ SoM T' z (ds ++ [d]) (ms ++ [m]) ids' ∧ (∀ j ∈ ids', (j ∈ ids ∨ j ∈ iy ∨ j = T.next) ∧ j < T'.next) ∧ T'.next = T.next + 1 ∧ T'.cx = T.cx ∧ (∀ j, j < T.next → j ∉ ids → T'.blk j = T.blk j) := by
  have hpd : d.pre.length = 23 := by rw [hy.pre]; exact hg.pre
  have l29 := M.len hpd
  have hc := hy.cell hg
  have one : ∀ {U : Heap}, DM true U d m iy → DL true U [d] [m] iy := fun hU => ⟨m, [], iy, [], rfl, (List.append_nil iy).symm, fun j _ hj => (by cases hj), hU, rfl, rfl⟩
  have f1 : flat [d] = d.cells := by unfold flat; rw [List.flatMap_cons, List.flatMap_nil, List.append_nil]
  rcases h with ⟨rfl, rfl, rfl, rfl⟩ | ⟨h0, q, ids', rfl, rfl, h3, h5, h6⟩
  · refine ⟨.hs T.next 0 1 29, T.alloc d.cells, T.next :: iy, app_nil (n := 1) (by omega) (by rw [l29]) (room (by omega) (by omega)) (room1 (by omega)), ?_, fun j hj => ?_, rfl, rfl, fun j hj _ => alloc_other _ _ (by omega)⟩
    · refine .inr ⟨by simp, T.next, iy, rfl, rfl, by rw [List.nil_append, f1]; exact alloc_blk T _, fun h => by have := hly _ h; omega, one (hy.keep fun j hj => alloc_other _ _ (by have := hly j hj; omega))⟩
    · rcases List.mem_cons.1 hj with rfl | hj
      · exact ⟨.inr (.inr rfl), by rw [alloc_next]; omega⟩
      · exact ⟨.inr (.inl hj), by rw [alloc_next]; have := hly j hj; omega⟩
  · have hql := hl q List.mem_cons_self
    have hlen := h6.len
    have hfl := flat_len hp
    have hk : ∀ j, j ≠ q → j < T.next → ((T.set q none).alloc (flat ds ++ d.cells)).blk j = T.blk j := fun j h1 h2 => by
      rw [alloc_other _ _ (show j ≠ (T.set q none).next from Nat.ne_of_lt h2), set_other _ _ h1]
    have hnx : ((T.set q none).alloc (flat ds ++ d.cells)).next = T.next + 1 := rfl
    refine ⟨.hs T.next 0 (ms.length + 1) 29, (T.set q none).alloc (flat ds ++ d.cells), T.next :: (ids' ++ iy), app_hs (n := 1) h3 (by omega) (by rw [l29]) (by omega) (room (by omega) (by omega)) (room1 (by omega)) hc, ?_, fun j hj => ?_, rfl, rfl, fun j hj hj' => hk j (fun h => hj' (by subst h; exact List.mem_cons_self)) hj⟩
    · have d1 := h6.keep (T := (T.set q none).alloc (flat ds ++ d.cells)) fun j hj => hk j (fun h => by subst h; exact h5 hj) (hl j (List.mem_cons_of_mem _ hj))
      have d2 := one (hy.keep (T := (T.set q none).alloc (flat ds ++ d.cells)) fun j hj => hk j (fun h => by subst h; exact hd _ List.mem_cons_self hj) (hly j hj))
      refine .inr ⟨by simp, T.next, ids' ++ iy, by simp, rfl, by rw [flat_app, f1]; exact alloc_blk (T.set q none) _, fun h => ?_, d1.app d2 fun j hj => hd j (List.mem_cons_of_mem _ hj)⟩
      rcases List.mem_append.1 h with h | h
      · have := hl _ (List.mem_cons_of_mem _ h); omega
      · have := hly _ h; omega
    · rcases List.mem_cons.1 hj with rfl | hj
      · exact ⟨.inr (.inr rfl), by omega⟩
      · rcases List.mem_append.1 hj with hj | hj
        · exact ⟨.inl (List.mem_cons_of_mem _ hj), by have := hl j (List.mem_cons_of_mem _ hj); omega⟩
        · exact ⟨.inr (.inl hj), by have := hly j hj; omega⟩
/-- What such a loop has made is a row in the heap. -/
theorem SoM.dms {T : Heap} {x : AV} {ds ms : List M} {ids : List Nat} (h : SoM T x ds ms ids) : DMs true T x ds ms ids := by
  rcases h with ⟨h1, h2, h3, h4⟩ | ⟨_, q, ids', h1, h2, h3, h4, h5⟩
  · exact .inl ⟨h3, h1, h2, h4⟩
  · exact .inr (.inr ⟨q, ids', h1, h2, h3, h4, h5⟩)
theorem copyMbs1_c {w : Bool} {B : CallF} (hB : Silent B) (k : Nat) {S : Heap} {a : AV} {ds ms : List M} {ids0 : List Nat} (ha : DMs w S a ds ms ids0) (hlt0 : ∀ j ∈ ids0, j < S.next) (hg : ∀ m ∈ ms, Good 1000 m) (hn : ms.length ≤ 1000) :
    ∃ x S' ds' ids, Cn B (k + 4) f_spindlekit_CopyMbs 0 [a] S = some (x, S') ∧ SoM S' x ds' (ms.map M.norm) ids ∧ Pre ds' ∧ (∀ j ∈ ids, S.next ≤ j ∧ j < S'.next) ∧ Ext S S' := by
  rw [c_spindlekit_CopyMbs _ _ _ _ (hB _ _ _ _ (by decide)), T_spindlekit_CopyMbs]
  have hL := ha.len
  have h29 : (29 : Nat) ≤ 29 := by omega
  refine loop_ex (fun (o : Option (AV × Heap)) => ∃ x S' ds' ids, o = some (x, S') ∧ SoM S' x ds' (ms.map M.norm) ids ∧ Pre ds' ∧ (∀ j ∈ ids, S.next ≤ j ∧ j < S'.next) ∧ Ext S S')
    (fun i s => ∃ x T ds' ids, s = ([a, x, .int .i64 (i : Int)], T) ∧ Ext S T ∧ (∀ j ∈ ids, S.next ≤ j ∧ j < T.next) ∧ SoM T x ds' ((ms.take i).map M.norm) ids ∧ Pre ds')
    (fun y => ∃ x T ds' ids, y = (0, [x], T) ∧ Ext S T ∧ (∀ j ∈ ids, S.next ≤ j ∧ j < T.next) ∧ SoM T x ds' (ms.map M.norm) ids ∧ Pre ds') ms.length
    ⟨.nils, S, [], [], rfl, Ext.refl S, fun j hj => (by cases hj), .inl ⟨rfl, rfl, rfl, rfl⟩, fun m hm => by cases hm⟩ ?_ ?_
  · rintro i s hi ⟨x, T, ds', ids, rfl, hE, hin, hx, hpd⟩
    by_cases hlt : i < ms.length
    · have hlt' : (i : Int) < (ms.length : Int) := by omega
      have hw : IntKind.wrap .i64 ((i : Int) + 1) = ((i + 1 : Nat) : Int) := by rw [wr _ (by omega)]; omega
      obtain ⟨t, cs, o, d, idx, p1, p2, p3, p4, p5, p6⟩ := ha.at hg hlt
      have hkT : ∀ j ∈ ids0, T.blk j = S.blk j := fun j hj => hE.2.2 j (hlt0 j hj)
      have p2' := p2 T hkT
      have p5' := p5.keep (T := T) fun j hj => hkT j (p6 j hj)
      have hE1 := hE.1
      have hgi := hg _ (List.getElem_mem hlt)
      obtain ⟨d', T', iy, q1, q2, q3, q4⟩ := copyMb1_c hB k p5' (fun j hj => by have := hlt0 j (p6 j hj); omega) hgi
      have q41 := q4.1
      have hx' := hx.keep (T := T') fun j hj => q4.2.2 j (hin j hj).2
      have hpd' : d'.pre.length = 23 := by rw [q2.pre]; exact hgi.pre
      obtain ⟨z, U, iz, r1, r2, r3, r4, r5, r6⟩ := soM_add hx' q2 hgi.norm hpd (fun j hj hj' => by have := (hin j hj).2; have := (q3 j hj').1; omega) (fun j hj => by have := (hin j hj).2; omega) (fun j hj => (q3 j hj).2) (by simp; omega)
      have ld := M.len hpd'
      have zd := M.z hpd'
      have htk : ((ms.take (i + 1)).map M.norm) = ((ms.take i).map M.norm) ++ [ms[i].norm] := by
        rw [List.take_add_one, List.getElem?_eq_getElem hlt, Option.toList_some, List.map_append]; rfl
      refine .inr ⟨hlt, ([a, z, .int .i64 ((i + 1 : Nat) : Int)], U), ?_, z, U, ds' ++ [d'], iz, rfl, ⟨by omega, by rw [r5]; exact (hE.trans q4).2.1, fun j hj => ?_⟩, fun j hj => ?_, by rw [htk]; exact r2, fun y hy => ?_⟩
      · simp only [bO_s, gB_t, asBool_b, asInt_i, asAgg_a, asTup_a, asStr_s, asCons_c, nthA_0, nthA_s, aggCells_a, addV_p, seeV_p, seeV_i, same_nil, tr_same, eql4, neq4, decide_true, decide_false, Bool.false_eq_true, if_false, if_true, Bool.not_true, Bool.not_false, Bool.and_true, Bool.true_and, Bool.and_self, List.getElem?_cons_zero, List.getElem?_cons_succ, Nat.zero_add, Nat.add_zero, beq_self_eq_true, bne_self_eq_false, Int.reduceBNe, Int.reduceBEq, Int.reduceLT, Int.reduceGT, Int.reduceLE, Int.reduceGE, Nat.reduceAdd, Nat.reduceMul, Nat.reduceLeDiff, hL, hlt', p1, p2', p3, p4, q1, ld, h29, zd, r1, hw]
      · rw [r6 j (by omega) (fun h => by have := (hin j h).1; omega)]
        exact (hE.trans q4).2.2 j hj
      · obtain ⟨h, h'⟩ := r3 j hj
        refine ⟨?_, h'⟩
        rcases h with h | h | h
        · exact (hin j h).1
        · have := (q3 j h).1; omega
        · omega
      · rcases List.mem_append.1 hy with hy | hy
        · exact hpd y hy
        · rw [List.mem_singleton] at hy; subst hy; exact hpd'
    · have hie : i = ms.length := by omega
      subst hie
      have hlt' : ¬ (ms.length : Int) < (ms.length : Int) := by omega
      rw [List.take_of_length_le (by omega)] at hx
      exact .inl ⟨(0, [x], T), by simp only [bO_s, gB_t, asBool_b, asInt_i, asAgg_a, asTup_a, asStr_s, asCons_c, nthA_0, nthA_s, aggCells_a, addV_p, seeV_p, seeV_i, same_nil, tr_same, eql4, neq4, decide_true, decide_false, Bool.false_eq_true, if_false, if_true, Bool.not_true, Bool.not_false, Bool.and_true, Bool.true_and, Bool.and_self, List.getElem?_cons_zero, List.getElem?_cons_succ, Nat.zero_add, Nat.add_zero, beq_self_eq_true, bne_self_eq_false, Int.reduceBNe, Int.reduceBEq, Int.reduceLT, Int.reduceGT, Int.reduceLE, Int.reduceGE, Nat.reduceAdd, Nat.reduceMul, Nat.reduceLeDiff, hL, hlt'], x, T, ds', ids, rfl, hE, hin, hx, hpd⟩
  · rintro y ⟨x, T, ds', ids, rfl, hE, hin, hx, hpd⟩
    simp only [bO_s, gB_t, asBool_b, asInt_i, asAgg_a, asTup_a, asStr_s, asCons_c, nthA_0, nthA_s, aggCells_a, addV_p, seeV_p, seeV_i, same_nil, tr_same, eql4, neq4, decide_true, decide_false, Bool.false_eq_true, if_false, if_true, Bool.not_true, Bool.not_false, Bool.and_true, Bool.true_and, Bool.and_self, List.getElem?_cons_zero, List.getElem?_cons_succ, Nat.zero_add, Nat.add_zero, beq_self_eq_true, bne_self_eq_false, Int.reduceBNe, Int.reduceBEq, Int.reduceLT, Int.reduceGT, Int.reduceLE, Int.reduceGE, Nat.reduceAdd, Nat.reduceMul, Nat.reduceLeDiff, sel]
    rcases hx with ⟨h1, h2, rfl, rfl⟩ | ⟨h0, q, ids', rfl, rfl, h3, h5, h6⟩
    · rw [tr_S rfl hE]
      exact ⟨.nils, S, ds', [], rfl, .inl ⟨h1, h2, rfl, rfl⟩, hpd, fun j hj => (by cases hj), Ext.refl S⟩
    · rw [tr_id2 rfl]
      exact ⟨_, T, ds', q :: ids', rfl, .inr ⟨h0, q, ids', rfl, rfl, h3, h5, h6⟩, hpd, hin, hE⟩
end Go.Ab.tNearU
