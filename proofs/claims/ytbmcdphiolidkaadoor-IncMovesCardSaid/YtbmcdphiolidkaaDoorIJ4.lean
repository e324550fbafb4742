/- Still, and slices of which one macroblock is replaced. -/
import Derived.Test.YtbmcdphiolidkaaDoorIJ3
import Derived.Test.YtbmcdphiolidkaaDoorID5
set_option maxRecDepth 100000
set_option linter.unusedSimpArgs false
set_option linter.unusedVariables false
set_option linter.unusedSectionVars false
namespace Go.Ab.tNearU
open Go Go.Proofs

def Stl (m : M) : Prop := ∀ c ∈ cut m.v, -1099511627776 ≤ intOf (some c) ∧ intOf (some c) ≤ 1099511627776
theorem still_c {B : CallF} (hB : Silent B) (k : Nat) {S : Heap} {a : AV} {ms : List M} (ha : Rd S a ms) (hg : ∀ m ∈ ms, Good 1000 m) (hl : ms.length ≤ 1000) :
    ∃ b, Cn B (k + 1) f_spindlelaw16_Still 0 [a] S = some (.bool b, S) ∧ (b = true → ∀ m ∈ ms, Stl m) := by
  rw [c_spindlelaw16_Still _ _ _ _ (hB _ _ _ _ (by decide)), T_spindlelaw16_Still]
  have hL := ha.len
  refine loop_ex (fun (o : Option (AV × Heap)) => ∃ b, o = some (.bool b, S) ∧ (b = true → ∀ m ∈ ms, Stl m))
    (fun i s => s = ([a, .int .i64 (i : Int)], S) ∧ ∀ j (h : j < ms.length), j < i → Stl ms[j])
    (fun y => (y = (0, [], S) ∧ ∀ m ∈ ms, Stl m) ∨ y = (1, [.bool false], S)) ms.length ⟨rfl, fun j h h' => by omega⟩ ?_ ?_
  · rintro i s hi ⟨rfl, hs⟩
    by_cases hin : i < ms.length
    · have hlt : (i : Int) < (ms.length : Int) := by omega
      have hw : IntKind.wrap .i64 ((i : Int) + 1) = ((i + 1 : Nat) : Int) := by rw [wr _ (by omega)]; omega
      obtain ⟨t, r1, rf⟩ := ha.field (Pre.of hg) hin
      have hg1 := hg _ (List.getElem_mem hin)
      obtain ⟨t24, c24, o24, a24, b24, d24⟩ := rf 24 (by omega)
      rw [M.g24 hg1.pre] at d24
      have l2 := rl26 hg1.v
      have hvl : rl ms[i].v ≤ 1000 := by
        obtain h | ⟨n, cs, h, h1, _⟩ := hg1.v
        · rw [h]; exact Nat.zero_le _
        · rw [h]; exact h1
      simp only [bO_s, gB_t, asBool_b, asInt_i, asAgg_a, asTup_a, asStr_s, asCons_c, nthA_0, nthA_s, aggCells_a, addV_p, seeV_p, seeV_i, same_nil, tr_same, eql4, neq4, decide_true, decide_false, Bool.false_eq_true, if_false, if_true, Bool.not_true, Bool.not_false, Bool.and_true, Bool.true_and, Bool.and_self, List.getElem?_cons_zero, List.getElem?_cons_succ, Nat.zero_add, Nat.add_zero, beq_self_eq_true, bne_self_eq_false, Int.reduceBNe, Int.reduceBEq, Int.reduceLT, Int.reduceGT, Int.reduceLE, Int.reduceGE, Nat.reduceAdd, Nat.reduceMul, Nat.reduceLeDiff, hL, hlt]
      refine loop_ex (fun (o : Option (LSt ⊕ (Nat × LSt))) => (∃ x, o = some (.inr x) ∧ ((x = (0, [], S) ∧ ∀ m ∈ ms, Stl m) ∨ x = (1, [.bool false], S))) ∨ (i < ms.length ∧ ∃ s', o = some (.inl s') ∧ s' = ([a, .int .i64 ((i + 1 : Nat) : Int)], S) ∧ ∀ j (h : j < ms.length), j < i + 1 → Stl ms[j]))
        (fun j s => s = ([a, .int .i64 (i : Int), .int .i64 (j : Int)], S) ∧ ∀ u (h : u < (cut ms[i].v).length), u < j * 2 → -1099511627776 ≤ intOf (some (cut ms[i].v)[u]) ∧ intOf (some (cut ms[i].v)[u]) ≤ 1099511627776)
        (fun y => (y = (0, [a, .int .i64 (i : Int)], S) ∧ Stl ms[i]) ∨ y = (1, [.bool false], S)) (rl ms[i].v) ⟨rfl, fun u h h' => by omega⟩ ?_ ?_
      · rintro j s hj ⟨rfl, hu⟩
        by_cases hjn : j < rl ms[i].v
        · have hltj : (j : Int) < (rl ms[i].v : Int) := by omega
          have hwj : IntKind.wrap .i64 ((j : Int) + 1) = ((j + 1 : Nat) : Int) := by rw [wr _ (by omega)]; omega
          obtain ⟨x1, x2, x3⟩ := ix26 hg1.v hjn
          obtain ⟨z0, hz0⟩ := x3 _ (List.getElem_mem (show j * 2 < (cut ms[i].v).length by omega))
          obtain ⟨z1, hz1⟩ := x3 _ (List.getElem_mem x2)
          have hd : List.take 2 ((cut ms[i].v).drop (j * 2)) = [.int .i64 z0, .int .i64 z1] := by
            rw [List.drop_eq_getElem_cons (show j * 2 < (cut ms[i].v).length by omega), List.drop_eq_getElem_cons x2, hz0, hz1]; rfl
          have hd2 : 2 ≤ ((cut ms[i].v).drop (j * 2)).length := by rw [List.length_drop]; omega
          have lz : ([.int .i64 z0, .int .i64 z1] : List AV).length = 2 := rfl
          have cz : ([.int .i64 z0, .int .i64 z1] : List AV).all cell = true := rfl
          have sz : setCells [.int .i64 0, .int .i64 0] 0 ([.int .i64 z0, .int .i64 z1] : List AV) = [.int .i64 z0, .int .i64 z1] := rfl
          have h22 : (2 : Nat) ≤ 2 := by omega
          by_cases q1 : z0 < -1099511627776
          · exact .inl ⟨_, by simp only [bO_s, gB_t, asBool_b, asInt_i, asAgg_a, asTup_a, asStr_s, asCons_c, nthA_0, nthA_s, aggCells_a, addV_p, seeV_p, seeV_i, same_nil, tr_same, eql4, neq4, decide_true, decide_false, Bool.false_eq_true, if_false, if_true, Bool.not_true, Bool.not_false, Bool.and_true, Bool.true_and, Bool.and_self, List.getElem?_cons_zero, List.getElem?_cons_succ, Nat.zero_add, Nat.add_zero, beq_self_eq_true, bne_self_eq_false, Int.reduceBNe, Int.reduceBEq, Int.reduceLT, Int.reduceGT, Int.reduceLE, Int.reduceGE, Nat.reduceAdd, Nat.reduceMul, Nat.reduceLeDiff, r1, a24, b24, d24, l2, hltj, x1, List.drop_zero, hd2, hd, lz, cz, sz, h22, q1], .inr rfl⟩
          by_cases q2 : z0 > 1099511627776
          · exact .inl ⟨_, by simp only [bO_s, gB_t, asBool_b, asInt_i, asAgg_a, asTup_a, asStr_s, asCons_c, nthA_0, nthA_s, aggCells_a, addV_p, seeV_p, seeV_i, same_nil, tr_same, eql4, neq4, decide_true, decide_false, Bool.false_eq_true, if_false, if_true, Bool.not_true, Bool.not_false, Bool.and_true, Bool.true_and, Bool.and_self, List.getElem?_cons_zero, List.getElem?_cons_succ, Nat.zero_add, Nat.add_zero, beq_self_eq_true, bne_self_eq_false, Int.reduceBNe, Int.reduceBEq, Int.reduceLT, Int.reduceGT, Int.reduceLE, Int.reduceGE, Nat.reduceAdd, Nat.reduceMul, Nat.reduceLeDiff, r1, a24, b24, d24, l2, hltj, x1, List.drop_zero, hd2, hd, lz, cz, sz, h22, q1, q2], .inr rfl⟩
          by_cases q3 : z1 < -1099511627776
          · exact .inl ⟨_, by simp only [bO_s, gB_t, asBool_b, asInt_i, asAgg_a, asTup_a, asStr_s, asCons_c, nthA_0, nthA_s, aggCells_a, addV_p, seeV_p, seeV_i, same_nil, tr_same, eql4, neq4, decide_true, decide_false, Bool.false_eq_true, if_false, if_true, Bool.not_true, Bool.not_false, Bool.and_true, Bool.true_and, Bool.and_self, List.getElem?_cons_zero, List.getElem?_cons_succ, Nat.zero_add, Nat.add_zero, beq_self_eq_true, bne_self_eq_false, Int.reduceBNe, Int.reduceBEq, Int.reduceLT, Int.reduceGT, Int.reduceLE, Int.reduceGE, Nat.reduceAdd, Nat.reduceMul, Nat.reduceLeDiff, r1, a24, b24, d24, l2, hltj, x1, List.drop_zero, hd2, hd, lz, cz, sz, h22, q1, q2, q3], .inr rfl⟩
          by_cases q4 : z1 > 1099511627776
          · exact .inl ⟨_, by simp only [bO_s, gB_t, asBool_b, asInt_i, asAgg_a, asTup_a, asStr_s, asCons_c, nthA_0, nthA_s, aggCells_a, addV_p, seeV_p, seeV_i, same_nil, tr_same, eql4, neq4, decide_true, decide_false, Bool.false_eq_true, if_false, if_true, Bool.not_true, Bool.not_false, Bool.and_true, Bool.true_and, Bool.and_self, List.getElem?_cons_zero, List.getElem?_cons_succ, Nat.zero_add, Nat.add_zero, beq_self_eq_true, bne_self_eq_false, Int.reduceBNe, Int.reduceBEq, Int.reduceLT, Int.reduceGT, Int.reduceLE, Int.reduceGE, Nat.reduceAdd, Nat.reduceMul, Nat.reduceLeDiff, r1, a24, b24, d24, l2, hltj, x1, List.drop_zero, hd2, hd, lz, cz, sz, h22, q1, q2, q3, q4], .inr rfl⟩
          refine .inr ⟨hjn, _, by simp only [bO_s, gB_t, asBool_b, asInt_i, asAgg_a, asTup_a, asStr_s, asCons_c, nthA_0, nthA_s, aggCells_a, addV_p, seeV_p, seeV_i, same_nil, tr_same, eql4, neq4, decide_true, decide_false, Bool.false_eq_true, if_false, if_true, Bool.not_true, Bool.not_false, Bool.and_true, Bool.true_and, Bool.and_self, List.getElem?_cons_zero, List.getElem?_cons_succ, Nat.zero_add, Nat.add_zero, beq_self_eq_true, bne_self_eq_false, Int.reduceBNe, Int.reduceBEq, Int.reduceLT, Int.reduceGT, Int.reduceLE, Int.reduceGE, Nat.reduceAdd, Nat.reduceMul, Nat.reduceLeDiff, r1, a24, b24, d24, l2, hltj, x1, List.drop_zero, hd2, hd, lz, cz, sz, h22, q1, q2, q3, q4, hwj], rfl, fun u h h' => ?_⟩
          by_cases hu0 : u < j * 2
          · exact hu u h hu0
          · have : u = j * 2 ∨ u = j * 2 + 1 := by omega
            rcases this with rfl | rfl
            · rw [hz0]; exact ⟨by show -1099511627776 ≤ z0; omega, by show z0 ≤ _; omega⟩
            · rw [hz1]; exact ⟨by show -1099511627776 ≤ z1; omega, by show z1 ≤ _; omega⟩
        · have hltj : ¬ (j : Int) < (rl ms[i].v : Int) := by omega
          refine .inl ⟨_, by simp only [bO_s, gB_t, asBool_b, asInt_i, asAgg_a, asTup_a, asStr_s, asCons_c, nthA_0, nthA_s, aggCells_a, addV_p, seeV_p, seeV_i, same_nil, tr_same, eql4, neq4, decide_true, decide_false, Bool.false_eq_true, if_false, if_true, Bool.not_true, Bool.not_false, Bool.and_true, Bool.true_and, Bool.and_self, List.getElem?_cons_zero, List.getElem?_cons_succ, Nat.zero_add, Nat.add_zero, beq_self_eq_true, bne_self_eq_false, Int.reduceBNe, Int.reduceBEq, Int.reduceLT, Int.reduceGT, Int.reduceLE, Int.reduceGE, Nat.reduceAdd, Nat.reduceMul, Nat.reduceLeDiff, r1, a24, b24, d24, l2, hltj], .inl ⟨rfl, fun c hc => ?_⟩⟩
          obtain ⟨u, hu1, rfl⟩ := List.getElem_of_mem hc
          refine hu u hu1 ?_
          obtain ⟨n, hn, hcl, hL26, _⟩ := len26 hg1.v (by omega)
          rw [l2] at hL26
          have : (rl ms[i].v : Int) = (n : Int) := by simpa using hL26
          omega
      · rintro y (⟨rfl, hst⟩ | rfl)
        · refine .inr ⟨hin, _, by simp only [bO_s, gB_t, asBool_b, asInt_i, asAgg_a, asTup_a, asStr_s, asCons_c, nthA_0, nthA_s, aggCells_a, addV_p, seeV_p, seeV_i, same_nil, tr_same, eql4, neq4, decide_true, decide_false, Bool.false_eq_true, if_false, if_true, Bool.not_true, Bool.not_false, Bool.and_true, Bool.true_and, Bool.and_self, List.getElem?_cons_zero, List.getElem?_cons_succ, Nat.zero_add, Nat.add_zero, beq_self_eq_true, bne_self_eq_false, Int.reduceBNe, Int.reduceBEq, Int.reduceLT, Int.reduceGT, Int.reduceLE, Int.reduceGE, Nat.reduceAdd, Nat.reduceMul, Nat.reduceLeDiff, sel, hw], rfl, fun j h hj => ?_⟩
          by_cases hji : j = i
          · subst hji; exact hst
          · exact hs j h (by omega)
        · exact .inl ⟨_, by simp only [bO_s, gB_t, asBool_b, asInt_i, asAgg_a, asTup_a, asStr_s, asCons_c, nthA_0, nthA_s, aggCells_a, addV_p, seeV_p, seeV_i, same_nil, tr_same, eql4, neq4, decide_true, decide_false, Bool.false_eq_true, if_false, if_true, Bool.not_true, Bool.not_false, Bool.and_true, Bool.true_and, Bool.and_self, List.getElem?_cons_zero, List.getElem?_cons_succ, Nat.zero_add, Nat.add_zero, beq_self_eq_true, bne_self_eq_false, Int.reduceBNe, Int.reduceBEq, Int.reduceLT, Int.reduceGT, Int.reduceLE, Int.reduceGE, Nat.reduceAdd, Nat.reduceMul, Nat.reduceLeDiff, sel], .inr rfl⟩
    · have hlt : ¬ (i : Int) < (ms.length : Int) := by omega
      refine .inl ⟨_, by simp only [bO_s, gB_t, asBool_b, asInt_i, asAgg_a, asTup_a, asStr_s, asCons_c, nthA_0, nthA_s, aggCells_a, addV_p, seeV_p, seeV_i, same_nil, tr_same, eql4, neq4, decide_true, decide_false, Bool.false_eq_true, if_false, if_true, Bool.not_true, Bool.not_false, Bool.and_true, Bool.true_and, Bool.and_self, List.getElem?_cons_zero, List.getElem?_cons_succ, Nat.zero_add, Nat.add_zero, beq_self_eq_true, bne_self_eq_false, Int.reduceBNe, Int.reduceBEq, Int.reduceLT, Int.reduceGT, Int.reduceLE, Int.reduceGE, Nat.reduceAdd, Nat.reduceMul, Nat.reduceLeDiff, hL, hlt], .inl ⟨rfl, fun m hm => ?_⟩⟩
      obtain ⟨j, hj, rfl⟩ := List.getElem_of_mem hm
      exact hs j hj (by omega)
  · rintro y (⟨rfl, hst⟩ | rfl)
    · exact ⟨true, by simp only [bO_s, gB_t, asBool_b, asInt_i, asAgg_a, asTup_a, asStr_s, asCons_c, nthA_0, nthA_s, aggCells_a, addV_p, seeV_p, seeV_i, same_nil, tr_same, eql4, neq4, decide_true, decide_false, Bool.false_eq_true, if_false, if_true, Bool.not_true, Bool.not_false, Bool.and_true, Bool.true_and, Bool.and_self, List.getElem?_cons_zero, List.getElem?_cons_succ, Nat.zero_add, Nat.add_zero, beq_self_eq_true, bne_self_eq_false, Int.reduceBNe, Int.reduceBEq, Int.reduceLT, Int.reduceGT, Int.reduceLE, Int.reduceGE, Nat.reduceAdd, Nat.reduceMul, Nat.reduceLeDiff, sel], fun _ => hst⟩
    · exact ⟨false, by simp only [bO_s, gB_t, asBool_b, asInt_i, asAgg_a, asTup_a, asStr_s, asCons_c, nthA_0, nthA_s, aggCells_a, addV_p, seeV_p, seeV_i, same_nil, tr_same, eql4, neq4, decide_true, decide_false, Bool.false_eq_true, if_false, if_true, Bool.not_true, Bool.not_false, Bool.and_true, Bool.true_and, Bool.and_self, List.getElem?_cons_zero, List.getElem?_cons_succ, Nat.zero_add, Nat.add_zero, beq_self_eq_true, bne_self_eq_false, Int.reduceBNe, Int.reduceBEq, Int.reduceLT, Int.reduceGT, Int.reduceLE, Int.reduceGE, Nat.reduceAdd, Nat.reduceMul, Nat.reduceLeDiff, sel], fun h => by cases h⟩
theorem D1.weak {e : Nat} {S : Heap} {a r : AV} {ids : List Nat} (h : D1 true e S a r ids) : D1 false e S a r ids := by
  rcases h with ⟨h1, h2, h3, _⟩ | h
  · exact .inl ⟨h1, h2, h3, fun h => by cases h⟩
  · exact .inr h
theorem D2.weak {S : Heap} {a r : AV} {ids : List Nat} (h : D2 true S a r ids) : D2 false S a r ids := by
  rcases h with ⟨h1, h2, h3, _⟩ | ⟨id, n, cs, cs', ids', h1, h2, h3, h4, h5, h6, h7⟩
  · exact .inl ⟨h1, h2, h3, fun h => by cases h⟩
  · exact .inr ⟨id, n, cs, cs', ids', h1, h2, h3, h4, h5, h6, h7.mono fun _ _ _ _ h => h.weak⟩
theorem DM.weak {S : Heap} {d m : M} {ids : List Nat} (h : DM true S d m ids) : DM false S d m ids := by
  obtain ⟨i1, i2, h1, h2, h3, h4⟩ := h.own
  exact ⟨h.pre, h.cb, h.qp, h.s, h.r, i1, i2, h1, h2, h3.weak, h4.weak⟩
theorem DL.weak : ∀ {S : Heap} {ds ms : List M} {ids : List Nat}, DL true S ds ms ids → DL false S ds ms ids
  | S, [], ms, ids, h => h
  | S, d :: ds, ms, ids, ⟨m, l', i1, i2, h1, h2, h3, h4, h5⟩ => ⟨m, l', i1, i2, h1, h2, h3, h4.weak, DL.weak h5⟩
theorem dL_put {S : Heap} {x : M} (hx : DM false S x x []) : ∀ {ds ms : List M} {ids : List Nat}, DL false S ds ms ids → ∀ i, i < ds.length → ∃ ids2, DL false S (ds.set i x) (ms.set i x) ids2 ∧ ∀ j ∈ ids2, j ∈ ids
  | [], ms, ids, _, i, hi => by cases hi
  | d :: ds, ms, ids, ⟨m, l', i1, i2, h1, h2, h3, h4, h5⟩, i, hi => by
    subst h1 h2
    cases i with
    | zero => exact ⟨i2, ⟨x, l', [], i2, rfl, rfl, fun j hj => (by cases hj), hx, h5⟩, fun j hj => List.mem_append_right _ hj⟩
    | succ i =>
      obtain ⟨i3, f1, f2⟩ := dL_put hx h5 i (by simpa using hi)
      refine ⟨i1 ++ i3, ⟨m, l'.set i x, i1, i3, rfl, rfl, fun j hj hj' => h3 j hj (f2 j hj'), h4, f1⟩, fun j hj => ?_⟩
      rcases List.mem_append.1 hj with h | h
      · exact List.mem_append_left _ h
      · exact List.mem_append_right _ (f2 j h)
theorem DMs.arg {a : AV} {ms : List M} (ha : ∀ S, Rd S a ms) (S : Heap) : DMs false S a ms ms [] := by
  rcases arg_cases ha with ⟨h1, h2⟩ | h
  · exact .inl ⟨h1, h2, h2, rfl⟩
  · exact .inr (.inl ⟨h, rfl, rfl, rfl⟩)
theorem fa_set {fi : Int} {ms : List M} {i : Nat} {x : M} {a : Int} (h : a - fi ≠ (i : Int)) : fa fi (ms.set i x) a = fa fi ms a := by
  unfold fa
  by_cases h1 : fi ≤ a ∧ a < fi + ms.length
  · rw [dif_pos h1, dif_pos (by rw [List.length_set]; exact h1), List.getElem_set_ne (by omega)]
  · rw [dif_neg h1, dif_neg (by rw [List.length_set]; exact h1)]
theorem Obj.ext {S T : Heap} {p q : Nat} {fi w : Int} {ms : List M} (h : Obj S p q fi w ms) (hE : Ext S T) : Obj T p q fi w ms := h.keep hE.1 (hE.2.2 _ h.lp) fun h0 => hE.2.2 _ (h.lq h0)
theorem Ext.kill {S T : Heap} (h : Ext S T) {ids : List Nat} (hi : ∀ j ∈ ids, S.next ≤ j) : Ext S (Go.Ab.tNearU.kill T ids) := ⟨h.1, h.2.1, fun j hj => by
  rw [kill_out (fun hm => by have := hi j hm; omega)]
  exact h.2.2 j hj⟩
theorem awake_is : isB (C1 f_spindlelaw16_awake 0 [] S0) (.bool true) = true := by kernel_rfl
theorem awake_c {B : CallF} (hB : Known B) (k : Nat) (S : Heap) : Cn B k f_spindlelaw16_awake 0 [] S = some (.bool true, S) := known_sel hB rfl rfl rfl (isB_of awake_is) k S
theorem lawBlocks_c {B : CallF} (hB : Known B) (k : Nat) {m : M} (hg : Good 1000 m) (hb : Byt m) (S : Heap) : Cn B (k + 1) f_spindlelaw15_Blocks 0 [.agg m.cells] S = some (blA m.bls, S) := by
  rw [c_spindlelaw15_Blocks _ _ _ _ (hB.no _ _ _ _ (by decide)), T_spindlelaw15_Blocks]
  have l29 := M.len hg.pre
  have t29 : List.take 29 (List.drop 0 m.cells) = m.cells := by rw [List.drop_zero]; exact M.t29 hg.pre
  have h29 : (29 : Nat) ≤ 29 := by omega
  have e1 := (blocks_c hB k hg hb S).1
  have hf : fz 40 (blA m.bls) S = some (blA m.bls, S) := by
    cases m.bls with
    | nil => rfl
    | cons c l => rfl
  simp only [bO_s, gB_t, asBool_b, asInt_i, asAgg_a, asTup_a, asStr_s, asCons_c, nthA_0, nthA_s, aggCells_a, addV_p, seeV_p, seeV_i, same_nil, tr_same, eql4, neq4, decide_true, decide_false, Bool.false_eq_true, if_false, if_true, Bool.not_true, Bool.not_false, Bool.and_true, Bool.true_and, Bool.and_self, List.getElem?_cons_zero, List.getElem?_cons_succ, Nat.zero_add, Nat.add_zero, beq_self_eq_true, bne_self_eq_false, Int.reduceBNe, Int.reduceBEq, Int.reduceLT, Int.reduceGT, Int.reduceLE, Int.reduceGE, Nat.reduceAdd, Nat.reduceMul, Nat.reduceLeDiff, l29, t29, h29, e1, hf]
theorem Arg.byt {m : M} (h : Arg m) (hp : m.pre.length = 23) : Byt m := ⟨by
  obtain ⟨p, hp'⟩ := pre23 hp
  have := h.pre (p 0) (by rw [hp']; exact List.mem_cons_self)
  rw [hp']
  exact this, h.cb⟩
theorem rd_one (m : M) (S : Heap) : Rd S (.is 1 m.cells) [m] := .inr (.inl (by show AV.is 1 m.cells = .is 1 (flat [m]); unfold flat; rw [List.flatMap_cons, List.flatMap_nil, List.append_nil]))
theorem flat2 (x m : M) : flat [x, m] = x.cells ++ m.cells := by unfold flat; rw [List.flatMap_cons, List.flatMap_cons, List.flatMap_nil, List.append_nil]
theorem arg5 {a : AV} (h : argOk Tryd.prog maxLen 16 5 a) : ∃ n : Nat, a = .int .u8 (n : Int) ∧ n ≤ 255 := by
  unfold argOk at h
  rw [Tryd.underlying5] at h
  obtain ⟨n, h1, h2, h3⟩ := av5 h
  exact ⟨n.toNat, by rw [Int.toNat_of_nonneg h2]; simpa using h1, by omega⟩
/-- append of a list to a new row of macroblocks. -/
theorem app_two {a : AV} {ms l2 : List M} (ha : ∀ S, Rd S a ms) (hg : ∀ m ∈ ms, Good 1000 m) (hl : ms.length ≤ 1000) (hg2 : ∀ m ∈ l2, Good 1000 m) (h2 : l2.length ≤ 10) (T : Heap) :
    ∃ z U, aAppend 29 128 (.hs T.next 0 l2.length 29) a (T.alloc (flat l2)) = some (z, U) ∧ Rd U z (l2 ++ ms) ∧ Ext T U := by
  have hf2 := flat_len (Pre.of hg2)
  have hfl := flat_len (Pre.of hg)
  have hcells : (flat ms).all cell = true := flat_all fun m hm => (hg m hm).cell
  rcases arg_cases ha with ⟨rfl, h0⟩ | rfl
  · refine ⟨.hs T.next 0 l2.length 29, T.alloc (flat l2), rfl, .inr (.inr ⟨T.next, by rw [h0, List.append_nil], ?_, Nat.lt_succ_self _⟩), Ext.alloc T _⟩
    rw [h0, List.append_nil]; exact alloc_blk T _
  · by_cases h0 : ms.length = 0
    · have hnil := List.eq_nil_of_length_eq_zero h0
      subst hnil
      refine ⟨.hs T.next 0 l2.length 29, T.alloc (flat l2), app_hs0 rfl, .inr (.inr ⟨T.next, by rw [List.append_nil], ?_, Nat.lt_succ_self _⟩), Ext.alloc T _⟩
      rw [List.append_nil]; exact alloc_blk T _
    · refine ⟨_, _, app_hs (n := ms.length) (alloc_blk T _) hf2 hfl h0 (room2 (by omega) (by omega)) (room3 (by omega)) hcells, .inr (.inr ⟨(T.alloc (flat l2)).next, by rw [List.length_append], ?_, Nat.lt_succ_self _⟩), ((Ext.alloc T _).set (Nat.le_refl _) none).trans (Ext.alloc _ _)⟩
      rw [flat_app]; exact alloc_blk ((T.alloc (flat l2)).set T.next none) _
end Go.Ab.tNearU
