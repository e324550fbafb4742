/- Copies that are written afterwards: a macroblock. -/
import Derived.Test.YtbmcdphiolidkaaDoorID2
set_option maxRecDepth 100000
set_option linter.unusedSimpArgs false
set_option linter.unusedVariables false
set_option linter.unusedSectionVars false
namespace Go.Ab.tNearU
open Go Go.Proofs

/-- A macroblock whose vectors and blocks may stand in the heap: what it is when frozen, and its blocks. -/
structure DM (w : Bool) (S : Heap) (d m : M) (ids : List Nat) : Prop where
  pre : d.pre = m.pre
  cb : d.cb = m.cb
  qp : d.qp = m.qp
  s : d.s = m.s
  r : d.r = m.r
  own : ∃ i1 i2, ids = i1 ++ i2 ∧ (∀ j ∈ i1, j ∉ i2) ∧ D1 w 2 S d.v m.v i1 ∧ D2 w S d.b m.b i2
theorem DM.keep {w : Bool} {S T : Heap} {d m : M} {ids : List Nat} (h : DM w S d m ids) (hk : ∀ j ∈ ids, T.blk j = S.blk j) : DM w T d m ids := by
  obtain ⟨i1, i2, rfl, h2, h3, h4⟩ := h.own
  exact ⟨h.pre, h.cb, h.qp, h.s, h.r, i1, i2, rfl, h2, h3.keep fun j hj => hk j (List.mem_append_left _ hj), h4.keep fun j hj => hk j (List.mem_append_right _ hj)⟩
theorem D1.cellR {w : Bool} {e N : Nat} {S : Heap} {a r : AV} {ids : List Nat} (h : D1 w e S a r ids) (hr : Row N e r) : cell a = true := by
  rcases h with ⟨_, rfl, _, _⟩ | ⟨id, n, cs, rfl, _⟩
  · exact hr.cell
  · rfl
theorem D2.cellR {w : Bool} {N : Nat} {S : Heap} {a r : AV} {ids : List Nat} (h : D2 w S a r ids) (hr : Rows N r) : cell a = true := by
  rcases h with ⟨_, rfl, _, _⟩ | ⟨id, n, cs, _, _, rfl, _⟩
  · exact hr.cell
  · rfl
theorem cells_cell {d : M} (h1 : cell d.r = true) (h2 : cell d.v = true) (h3 : cell d.b = true) : d.cells.all cell = true := by
  simp only [M.cells, List.all_append, List.all_cons, List.all_nil, h1, h2, h3, Bool.and_true, Bool.true_and, Bool.and_eq_true]
  refine ⟨?_, rfl, rfl, rfl⟩
  rw [List.all_eq_true]
  intro c hc
  obtain ⟨i, _, rfl⟩ := List.mem_map.1 hc
  rfl
theorem noIdL_mem : ∀ {l : List AV} {c : AV}, noIdL l = true → c ∈ l → noId c = true
  | a :: l, c, h, hc => by
    simp only [noIdL, Bool.and_eq_true] at h
    rcases List.mem_cons.1 hc with rfl | hc
    · exact h.1
    · exact noIdL_mem h.2 hc
theorem copyMb1_c {w : Bool} {B : CallF} (hB : Silent B) (k : Nat) {S : Heap} {d m : M} {ids0 : List Nat} (hd : DM w S d m ids0) (hlt0 : ∀ j ∈ ids0, j < S.next) (hg : Good 1000 m) :
    ∃ d' S' ids, Cn B (k + 3) f_spindlekit_CopyMb 1 [.agg d.cells] S = some (.agg d'.cells, S') ∧ DM true S' d' m.norm ids ∧ (∀ j ∈ ids, S.next ≤ j ∧ j < S'.next) ∧ Ext S S' := by
  rw [c_spindlekit_CopyMb_w1 _ _ _ _ (hB _ _ _ _ (by decide)), T_spindlekit_CopyMb_w1]
  obtain ⟨i1, i2, rfl, h2, h3, h4⟩ := hd.own
  have hp : d.pre.length = 23 := by rw [hd.pre]; exact hg.pre
  have l29 := M.len hp
  have h29 : (29 : Nat) ≤ 29 := by omega
  have h24 : (24 : Nat) ≤ 29 := by omega
  have h25 : (25 : Nat) ≤ 29 := by omega
  have h28 : (28 : Nat) ≤ 29 := by omega
  have g23 := M.g23 hp
  have g24 := M.g24 hp
  have g27 := M.g27 hp
  have hr : Row 1000 1 d.r := by rw [hd.r]; exact hg.r
  have e1 := copyInts_c hB (k + 1) hr S
  obtain ⟨y, S1, iy, e2, p1, p2, p3, p4, _⟩ := app_copy (by' := 16) h3 hg.v (by omega) (by omega)
  have h4' := h4.keep (T := S1) fun j hj => p3.2.2 j (hlt0 j (List.mem_append_right _ hj))
  obtain ⟨z, S2, iz, e3, q1, q2, q3, q4⟩ := copyBlocks1_c hB k h4' (fun j hj => by have := hlt0 j (List.mem_append_right _ hj); have := p3.1; omega) hg.b
  have s23 := M.s23 hp (nrm d.r)
  have s24 := M.s24 (m := { d with r := nrm d.r }) hp y
  have s27 := M.s27 (m := { d with r := nrm d.r, v := y }) hp z
  simp only at s24 s27
  have l1 : ({ d with r := nrm d.r } : M).cells.length = 29 := M.len hp
  have l2 : ({ d with r := nrm d.r, v := y } : M).cells.length = 29 := M.len hp
  have l3 : ({ d with r := nrm d.r, v := y, b := z } : M).cells.length = 29 := M.len hp
  have t3 : List.take 29 ({ d with r := nrm d.r, v := y, b := z } : M).cells = ({ d with r := nrm d.r, v := y, b := z } : M).cells := M.t29 hp
  have z3 := M.z (m := { d with r := nrm d.r, v := y, b := z }) hp
  have c3 : ({ d with r := nrm d.r, v := y, b := z } : M).cells.all cell = true := cells_cell hr.nrm.cell p4 q4
  have c0 := hr.nrm.cell
  have hE := p3.trans q3
  have hp1 := p3.1
  have hq1 := q3.1
  by_cases hno : noId (.agg ({ d with r := nrm d.r, v := y, b := z } : M).cells) = true
  · have hy : noId y = true := noIdL_mem (l := ({ d with r := nrm d.r, v := y, b := z } : M).cells) hno (by simp [M.cells])
    have hz : noId z = true := noIdL_mem (l := ({ d with r := nrm d.r, v := y, b := z } : M).cells) hno (by simp [M.cells])
    have p1' : D1 true 2 S y (nrm m.v) [] := by
      rcases p1 with ⟨a1, a2, _, a3⟩ | ⟨id, n, cs, rfl, _⟩
      · exact .inl ⟨a1, a2, rfl, a3⟩
      · cases hy
    have q1' : D2 true S z (nrmB m.b) [] := by
      rcases q1 with ⟨a1, a2, _, a3⟩ | ⟨id, n, cs, _, _, rfl, _⟩
      · exact .inl ⟨a1, a2, rfl, a3⟩
      · cases hz
    refine ⟨{ d with r := nrm d.r, v := y, b := z }, S, [], ?_, ⟨hd.pre, hd.cb, hd.qp, hd.s, by show nrm d.r = nrm m.r; rw [hd.r], [], [], rfl, fun j hj => (by cases hj), p1', q1'⟩, fun j hj => (by cases hj), Ext.refl S⟩
    simp only [bO_s, gB_t, asBool_b, asInt_i, asAgg_a, asTup_a, asStr_s, asCons_c, nthA_0, nthA_s, aggCells_a, addV_p, seeV_p, seeV_i, same_nil, tr_same, eql4, neq4, decide_true, decide_false, Bool.false_eq_true, if_false, if_true, Bool.not_true, Bool.not_false, Bool.and_true, Bool.true_and, Bool.and_self, List.getElem?_cons_zero, List.getElem?_cons_succ, Nat.zero_add, Nat.add_zero, beq_self_eq_true, bne_self_eq_false, Int.reduceBNe, Int.reduceBEq, Int.reduceLT, Int.reduceGT, Int.reduceLE, Int.reduceGE, Nat.reduceAdd, Nat.reduceMul, Nat.reduceLeDiff, l29, g23, g24, g27, e1, e2, e3, c0, p4, q4, List.all_cons, List.all_nil, h24, s23, l1, h25, s24, l2, h28, s27, l3, h29, List.drop_zero, t3, c3, z3]
    rw [tr_S hno hE]
  · refine ⟨{ d with r := nrm d.r, v := y, b := z }, S2, iy ++ iz, ?_, ⟨hd.pre, hd.cb, hd.qp, hd.s, by show nrm d.r = nrm m.r; rw [hd.r], iy, iz, rfl, fun j hj hj' => by have := (p2 j hj).2; have := (q2 j hj').1; omega, p1.keep fun j hj => q3.2.2 j (p2 j hj).2, q1⟩, fun j hj => ?_, hE⟩
    · simp only [bO_s, gB_t, asBool_b, asInt_i, asAgg_a, asTup_a, asStr_s, asCons_c, nthA_0, nthA_s, aggCells_a, addV_p, seeV_p, seeV_i, same_nil, tr_same, eql4, neq4, decide_true, decide_false, Bool.false_eq_true, if_false, if_true, Bool.not_true, Bool.not_false, Bool.and_true, Bool.true_and, Bool.and_self, List.getElem?_cons_zero, List.getElem?_cons_succ, Nat.zero_add, Nat.add_zero, beq_self_eq_true, bne_self_eq_false, Int.reduceBNe, Int.reduceBEq, Int.reduceLT, Int.reduceGT, Int.reduceLE, Int.reduceGE, Nat.reduceAdd, Nat.reduceMul, Nat.reduceLeDiff, l29, g23, g24, g27, e1, e2, e3, c0, p4, q4, List.all_cons, List.all_nil, h24, s23, l1, h25, s24, l2, h28, s27, l3, h29, List.drop_zero, t3, c3, z3]
      rw [tr_id2 (by simpa using hno)]
    · rcases List.mem_append.1 hj with h | h
      · have := p2 j h; omega
      · have := q2 j h; omega
end Go.Ab.tNearU
