/- Copies that are written afterwards: the rows of a macroblock. -/
import Derived.Test.YtbmcdphiolidkaaDoorID1
set_option maxRecDepth 100000
set_option linter.unusedSimpArgs false
set_option linter.unusedVariables false
set_option linter.unusedSectionVars false
namespace Go.Ab.tNearU
open Go Go.Proofs

/-- The row of rows that a loop has made so far. -/
def Sofar (T : Heap) (x : AV) (rs : List AV) (ids : List Nat) : Prop :=
  (rs = [] ∧ x = .nils ∧ ids = []) ∨ (rs ≠ [] ∧ ∃ q outs ids', x = .hs q 0 rs.length 1 ∧ ids = q :: ids' ∧ T.blk q = some outs ∧ outs.length = rs.length ∧ q ∉ ids' ∧ OwnL (D1 true 1 T) outs rs ids')
theorem Sofar.keep {S T : Heap} {x : AV} {rs : List AV} {ids : List Nat} (h : Sofar S x rs ids) (hk : ∀ j ∈ ids, T.blk j = S.blk j) : Sofar T x rs ids := by
  rcases h with h | ⟨h0, q, outs, ids', h1, h2, h3, h4, h5, h6⟩
  · exact .inl h
  · exact .inr ⟨h0, q, outs, ids', h1, h2, by rw [hk q (by rw [h2]; exact List.mem_cons_self), h3], h4, h5,
      h6.mono fun _ _ i hi hx => hx.keep fun j hj => hk j (by rw [h2]; exact List.mem_cons_of_mem _ (hi j hj))⟩
theorem sofar_add {T : Heap} {x y ry : AV} {rs : List AV} {ids iy : List Nat} (h : Sofar T x rs ids) (hy : D1 true 1 T y ry iy) (hd : ∀ j ∈ ids, j ∉ iy) (hl : ∀ j ∈ ids, j < T.next) (hly : ∀ j ∈ iy, j < T.next) (hc : cell y = true) (hn : rs.length < 1000) :
    ∃ z T' ids', aAppend 1 24 x (.is 1 [y]) T = some (z, T') ∧ Sofar T' z (rs ++ [ry]) ids' ∧ (∀ j ∈ ids', (j ∈ ids ∨ j ∈ iy ∨ j = T.next) ∧ j < T'.next) ∧ T'.next = T.next + 1 ∧ T'.cx = T.cx ∧ (∀ j, j < T.next → j ∉ ids → T'.blk j = T.blk j) ∧ noId z = false := by
  have one : ∀ {U : Heap}, D1 true 1 U y ry iy → OwnL (D1 true 1 U) [y] [ry] iy := fun hU => ⟨ry, [], iy, [], rfl, (List.append_nil iy).symm, fun j _ hj => (by cases hj), hU, rfl, rfl⟩
  rcases h with ⟨rfl, rfl, rfl⟩ | ⟨h0, q, outs, ids', rfl, rfl, h3, h4, h5, h6⟩
  · refine ⟨.hs T.next 0 1 1, T.alloc [y], T.next :: iy, app_nil (n := 1) (by omega) rfl (room (by omega) (by omega)) (room1 (by omega)), ?_, fun j hj => ?_, rfl, rfl, fun j hj _ => alloc_other _ _ (by omega), rfl⟩
    · refine .inr ⟨by simp, T.next, [y], iy, rfl, rfl, alloc_blk T _, rfl, fun h => by have := hly _ h; omega, one (hy.keep fun j hj => alloc_other _ _ (by have := hly j hj; omega))⟩
    · rcases List.mem_cons.1 hj with rfl | hj
      · exact ⟨.inr (.inr rfl), by rw [alloc_next]; omega⟩
      · exact ⟨.inr (.inl hj), by rw [alloc_next]; have := hly j hj; omega⟩
  · have hql := hl q List.mem_cons_self
    refine ⟨.hs T.next 0 (rs.length + 1) 1, (T.set q none).alloc (outs ++ [y]), T.next :: (ids' ++ iy), app_hs (n := 1) h3 (by omega) rfl (by omega) (room (by omega) (by omega)) (room1 (by omega)) (by simp [hc]), ?_, fun j hj => ?_, rfl, rfl, fun j hj hj' => ?_, rfl⟩
    · have hk : ∀ j, j ≠ q → j < T.next → ((T.set q none).alloc (outs ++ [y])).blk j = T.blk j := fun j h1 h2 => by
        rw [alloc_other _ _ (show j ≠ (T.set q none).next from Nat.ne_of_lt h2), set_other _ _ h1]
      refine .inr ⟨by simp, T.next, outs ++ [y], ids' ++ iy, by simp, rfl, alloc_blk (T.set q none) _, by simp [h4], fun h => ?_, ownL_app (h6.mono fun _ _ i hi hx => hx.keep fun j hj => ?_) (one (hy.keep fun j hj => ?_)) fun j hj => hd j (List.mem_cons_of_mem _ hj)⟩
      · rcases List.mem_append.1 h with h | h
        · have := hl _ (List.mem_cons_of_mem _ h); omega
        · have := hly _ h; omega
      · exact hk j (fun h => by subst h; exact hd _ List.mem_cons_self hj) (hly j hj)
      · have hj' := hi j hj
        exact hk j (fun h => by subst h; exact h5 hj') (hl j (List.mem_cons_of_mem _ hj'))
    · have hnx : ((T.set q none).alloc (outs ++ [y])).next = T.next + 1 := rfl
      rcases List.mem_cons.1 hj with rfl | hj
      · exact ⟨.inr (.inr rfl), by omega⟩
      · rcases List.mem_append.1 hj with hj | hj
        · exact ⟨.inl (List.mem_cons_of_mem _ hj), by have := hl j (List.mem_cons_of_mem _ hj); omega⟩
        · exact ⟨.inr (.inl hj), by have := hly j hj; omega⟩
    · rw [alloc_other _ _ (show j ≠ (T.set q none).next from Nat.ne_of_lt hj), set_other _ _ (fun h => hj' (by subst h; exact List.mem_cons_self))]
theorem copyBlocks1_c {w : Bool} {B : CallF} (hB : Silent B) (k : Nat) {S : Heap} {a r : AV} {ids0 : List Nat} (ha : D2 w S a r ids0) (hlt0 : ∀ j ∈ ids0, j < S.next) (hr : Rows 1000 r) :
    ∃ x S' ids, Cn B (k + 2) f_spindlekit_CopyBlocks 1 [a] S = some (x, S') ∧ D2 true S' x (nrmB r) ids ∧ (∀ j ∈ ids, S.next ≤ j ∧ j < S'.next) ∧ Ext S S' ∧ cell x = true := by
  rw [c_spindlekit_CopyBlocks_w1 _ _ _ _ (hB _ _ _ _ (by decide)), T_spindlekit_CopyBlocks_w1]
  obtain ⟨n, hn, hl, hL, hI⟩ := ha.at hr
  refine loop_ex (fun (o : Option (AV × Heap)) => ∃ x S' ids, o = some (x, S') ∧ D2 true S' x (nrmB r) ids ∧ (∀ j ∈ ids, S.next ≤ j ∧ j < S'.next) ∧ Ext S S' ∧ cell x = true)
    (fun i s => ∃ x T ids, s = ([a, x, .int .i64 (i : Int)], T) ∧ Ext S T ∧ (∀ j ∈ ids, S.next ≤ j ∧ j < T.next) ∧ Sofar T x (((cut r).take i).map nrm) ids)
    (fun y => ∃ x T ids, y = (0, [x], T) ∧ Ext S T ∧ (∀ j ∈ ids, S.next ≤ j ∧ j < T.next) ∧ Sofar T x ((cut r).map nrm) ids) n
    ⟨.nils, S, [], rfl, Ext.refl S, fun j hj => (by cases hj), .inl ⟨rfl, rfl, rfl⟩⟩ ?_ ?_
  · rintro i s hi ⟨x, T, ids, rfl, hE, hin, hx⟩
    by_cases hlt : i < n
    · have hlt' : (i : Int) < (n : Int) := by omega
      have hw : IntKind.wrap .i64 ((i : Int) + 1) = ((i + 1 : Nat) : Int) := by rw [wr _ (by omega)]; omega
      have hi1 : i < (cut r).length := by omega
      obtain ⟨t, cs, o, y0, idx, p1, p2, p3, p4, p5⟩ := hI i hi1
      have hkT : ∀ j ∈ ids0, T.blk j = S.blk j := fun j hj => hE.2.2 j (hlt0 j hj)
      have p2' := p2 T hkT
      have p4' := p4.keep (T := T) fun j hj => hkT j (p5 j hj)
      obtain ⟨y, T', iy, q1, q2, q3, q4, q5⟩ := copyInts1_c hB k p4' (hr.mem _ (List.getElem_mem hi1))
      have hx' := hx.keep (T := T') fun j hj => q4.2.2 j (hin j hj).2
      obtain ⟨z, U, iz, r1, r2, r3, r4, r5, r6, r7⟩ := sofar_add hx' q2 (fun j hj hj' => by have := (hin j hj).2; have := (q3 j hj').1; omega) (fun j hj => by have := (hin j hj).2; have := q4.1; omega) (fun j hj => (q3 j hj).2) q5 (by simp; omega)
      have q41 := q4.1
      have hE1 := hE.1
      have htk : (((cut r).take (i + 1)).map nrm) = (((cut r).take i).map nrm) ++ [nrm (cut r)[i]] := by
        rw [List.take_add_one, List.getElem?_eq_getElem hi1, Option.toList_some, List.map_append]; rfl
      refine .inr ⟨hlt, ([a, z, .int .i64 ((i + 1 : Nat) : Int)], U), ?_, z, U, iz, rfl, ⟨by omega, by rw [r5]; exact (hE.trans q4).2.1, fun j hj => ?_⟩, fun j hj => ?_, by rw [htk]; exact r2⟩
      · simp only [bO_s, gB_t, asBool_b, asInt_i, asAgg_a, asTup_a, asStr_s, asCons_c, nthA_0, nthA_s, aggCells_a, addV_p, seeV_p, seeV_i, same_nil, tr_same, eql4, neq4, decide_true, decide_false, Bool.false_eq_true, if_false, if_true, Bool.not_true, Bool.not_false, Bool.and_true, Bool.true_and, Bool.and_self, List.getElem?_cons_zero, List.getElem?_cons_succ, Nat.zero_add, Nat.add_zero, beq_self_eq_true, bne_self_eq_false, Int.reduceBNe, Int.reduceBEq, Int.reduceLT, Int.reduceGT, Int.reduceLE, Int.reduceGE, Nat.reduceAdd, Nat.reduceMul, Nat.reduceLeDiff, hL, hlt', p1, p2', p3, q1, q5, r1, hw]
      · rw [r6 j (by omega) (fun h => by have := (hin j h).1; omega)]
        exact (hE.trans q4).2.2 j hj
      · obtain ⟨h, h'⟩ := r3 j hj
        refine ⟨?_, h'⟩
        rcases h with h | h | h
        · exact (hin j h).1
        · have := (q3 j h).1; omega
        · omega
    · have hie : i = n := by omega
      subst hie
      have hlt' : ¬ (i : Int) < (i : Int) := by omega
      rw [List.take_of_length_le (by omega)] at hx
      exact .inl ⟨(0, [x], T), by simp only [bO_s, gB_t, asBool_b, asInt_i, asAgg_a, asTup_a, asStr_s, asCons_c, nthA_0, nthA_s, aggCells_a, addV_p, seeV_p, seeV_i, same_nil, tr_same, eql4, neq4, decide_true, decide_false, Bool.false_eq_true, if_false, if_true, Bool.not_true, Bool.not_false, Bool.and_true, Bool.true_and, Bool.and_self, List.getElem?_cons_zero, List.getElem?_cons_succ, Nat.zero_add, Nat.add_zero, beq_self_eq_true, bne_self_eq_false, Int.reduceBNe, Int.reduceBEq, Int.reduceLT, Int.reduceGT, Int.reduceLE, Int.reduceGE, Nat.reduceAdd, Nat.reduceMul, Nat.reduceLeDiff, hL, hlt'], x, T, ids, rfl, hE, hin, hx⟩
  · rintro y ⟨x, T, ids, rfl, hE, hin, hx⟩
    simp only [bO_s, gB_t, asBool_b, asInt_i, asAgg_a, asTup_a, asStr_s, asCons_c, nthA_0, nthA_s, aggCells_a, addV_p, seeV_p, seeV_i, same_nil, tr_same, eql4, neq4, decide_true, decide_false, Bool.false_eq_true, if_false, if_true, Bool.not_true, Bool.not_false, Bool.and_true, Bool.true_and, Bool.and_self, List.getElem?_cons_zero, List.getElem?_cons_succ, Nat.zero_add, Nat.add_zero, beq_self_eq_true, bne_self_eq_false, Int.reduceBNe, Int.reduceBEq, Int.reduceLT, Int.reduceGT, Int.reduceLE, Int.reduceGE, Nat.reduceAdd, Nat.reduceMul, Nat.reduceLeDiff, sel]
    rcases hx with ⟨h1, rfl, rfl⟩ | ⟨h0, q, outs, ids', rfl, rfl, h3, h4, h5, h6⟩
    · have h0 : (cut r).length = 0 := by simpa using h1
      rw [tr_S rfl hE]
      exact ⟨.nils, S, [], rfl, .inl ⟨rfl, nrmB_cut0 hr h0, rfl, fun _ => rfl⟩, fun j hj => (by cases hj), Ext.refl S, rfl⟩
    · rw [tr_id2 rfl]
      have h0' : (cut r).length ≠ 0 := by simpa using h0
      have hlm : ((cut r).map nrm).length = (cut r).length := List.length_map _
      refine ⟨_, T, q :: ids', rfl, .inr ⟨q, (cut r).length, outs, (cut r).map nrm, ids', by rw [hlm], nrmB_cut hr rfl h0', rfl, h3, by omega, h5, h6⟩, hin, hE, rfl⟩
end Go.Ab.tNearU
