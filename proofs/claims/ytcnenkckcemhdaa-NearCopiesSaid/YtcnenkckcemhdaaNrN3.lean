/- NearCopies: the law. -/
import Derived.Test.YtcnenkckcemhdaaNrN2
set_option maxRecDepth 100000
set_option linter.unusedSimpArgs false
set_option linter.unusedVariables false
set_option linter.unusedSectionVars false
namespace Go.Ab.tNearU
open Go Go.Proofs

theorem copyMbs_c {B : CallF} (hB : Silent B) (k : Nat) {S : Heap} {a : AV} {ms : List M} (ha : Rd S a ms) (hg : ∀ m ∈ ms, Good 1000 m) (hn : ms.length ≤ 1000) (h0 : ms ≠ []) :
    ∃ T q, Cn B (k + 4) f_spindlekit_CopyMbs 0 [a] S = some (.hs q 0 ms.length 29, T) ∧ T.blk q = some (flat (ms.map M.norm)) ∧ q < T.next ∧ Ext S T ∧ S.next ≤ q := by
  rw [c_spindlekit_CopyMbs _ _ _ _ (hB _ _ _ _ (by decide)), T_spindlekit_CopyMbs]
  refine loop_ex (fun (o : Option (AV × Heap)) => ∃ T q, o = some (.hs q 0 ms.length 29, T) ∧ T.blk q = some (flat (ms.map M.norm)) ∧ q < T.next ∧ Ext S T ∧ S.next ≤ q)
    (fun i s => ∃ T q, s = ([a, if i = 0 then .nils else .hs q 0 i 29, .int .i64 (i : Int)], T) ∧ (i ≠ 0 → T.blk q = some (flat ((ms.take i).map M.norm)) ∧ q < T.next ∧ S.next ≤ q) ∧ Ext S T)
    (fun y => ∃ T q, y = (0, [.hs q 0 ms.length 29], T) ∧ T.blk q = some (flat (ms.map M.norm)) ∧ q < T.next ∧ Ext S T ∧ S.next ≤ q) ms.length
    ⟨S, 0, rfl, fun h => absurd rfl h, Ext.refl _⟩ ?_ ?_
  · rintro i s hi ⟨T, q, rfl, hq, hT⟩
    have ha' := ha.ext hT
    by_cases hin : i < ms.length
    · have hlt : (i : Int) < ms.length := by omega
      have hw : IntKind.wrap .i64 ((i : Int) + 1) = ((i + 1 : Nat) : Int) := by rw [wr _ (by omega)]; omega
      obtain ⟨t, cs, o, r1, r2, r3, r4⟩ := ha'.at (Pre.of hg) hin
      have hg1 := hg _ (List.getElem_mem hin)
      have hc := copyMb_c hB k hg1 T
      have hl : ((ms.take i).map M.norm).length = i := by rw [List.length_map, List.length_take]; omega
      have htk : (ms.take (i + 1)).map M.norm = (ms.take i).map M.norm ++ [ms[i].norm] := by rw [List.take_add_one, List.getElem?_eq_getElem hin, Option.toList_some, List.map_append]; rfl
      have hfl : flat ((ms.take (i + 1)).map M.norm) = flat ((ms.take i).map M.norm) ++ ms[i].norm.cells := by rw [htk]; simp [flat]
      have happ : ∃ T', aAppend 29 128 (if i = 0 then .nils else .hs q 0 i 29) (.is 1 ms[i].norm.cells) T = some (.hs T.next 0 (i + 1) 29, T') ∧ T'.blk T.next = some (flat ((ms.take (i + 1)).map M.norm)) ∧ T.next < T'.next ∧ Ext S T' := by
        by_cases h0 : i = 0
        · subst h0
          rw [if_pos rfl]
          refine ⟨_, app_nil (n := 1) (by omega) (by rw [M.len hg1.norm.pre]) (room2 (by omega) (by omega)) (room3 (by omega)), ?_, Nat.lt_succ_self _, hT.trans (Ext.alloc T _)⟩
          rw [alloc_blk, hfl]; rfl
        · rw [if_neg h0]
          obtain ⟨hb, hqt, hqs⟩ := hq h0
          have hfll : (flat ((ms.take i).map M.norm)).length = i * 29 := by
            have := flat_len (ms := (ms.take i).map M.norm) (fun x hx => by
              obtain ⟨y, hy, rfl⟩ := List.mem_map.1 hx
              exact (hg y (List.mem_of_mem_take hy)).norm.pre)
            rw [hl] at this; exact this
          refine ⟨_, app_hs (n := 1) hb hfll (by rw [M.len hg1.norm.pre]) (by omega) (room2 (by omega) (by omega)) (room3 (by omega)) hg1.norm.cell, ?_, Nat.lt_succ_self _, ?_⟩
          · rw [hfl]; exact alloc_blk (T.set q none) _
          · exact (hT.set hqs none).trans (Ext.alloc _ _)
      obtain ⟨T', e1, e2, e3, e4⟩ := happ
      refine .inr ⟨hin, ([a, .hs T.next 0 (i + 1) 29, .int .i64 ((i + 1 : Nat) : Int)], T'), ?_, T', T.next, by rw [if_neg (by omega)], fun _ => ⟨e2, e3, hT.1⟩, e4⟩
      simp only [nthA_0, nthA_s, asInt_i, ha'.len, bO_s, hlt, decide_true, if_true, r1, r2, r3, r4, gB_t, hc, asAgg_a, ← zM_cells, M.len hg1.norm.pre, M.z0 hg1.norm.pre, beq_self_eq_true, Nat.zero_add, Nat.le_refl, e1, hw]
    · have hie : i = ms.length := by omega
      subst hie
      have hlt : ¬ (ms.length : Int) < ms.length := by omega
      have hne : ms.length ≠ 0 := fun h => h0 (List.length_eq_zero_iff.1 h)
      obtain ⟨hb, hqt, hqs⟩ := hq hne
      rw [List.take_length] at hb
      refine .inl ⟨(0, [.hs q 0 ms.length 29], T), ?_, T, q, rfl, hb, hqt, hT, hqs⟩
      simp only [nthA_0, nthA_s, asInt_i, ha'.len, bO_s, hlt, decide_false, Bool.false_eq_true, if_false, if_neg hne]
  · rintro x ⟨T, q, rfl, hb, hqt, hT, hqs⟩
    refine ⟨T, q, ?_, hb, hqt, hT, hqs⟩
    simp only [sel, nthA_0]
    rw [tr_id2 rfl]
theorem Obj.ext2 {S T : Heap} {p q : Nat} {fi w : Int} {ms : List M} (h : Obj S p q fi w ms) (hT : Ext S T) : Obj T p q fi w ms :=
  ⟨(hT.2.2 _ h.lp).trans h.blk, fun h0 => (hT.2.2 _ (h.lq h0)).trans (h.cells h0), h.ne, Nat.lt_of_lt_of_le h.lp hT.1, fun h0 => Nat.lt_of_lt_of_le (h.lq h0) hT.1, h.good, h.hf, h.hw, h.hm⟩
section
variable {S : Heap} {p q : Nat} {fi w : Int} {ms : List M} (h : Obj S p q fi w ms) {m : M} (hg : Good 1000 m) (hm : fi + ms.length < 8160)
include h
theorem addG_blk : (addH S p q fi w ms m).blk p = some [.int .i64 fi, .int .i64 w, .hs S.next 0 (ms.length + 1) 29] ∧ (addH S p q fi w ms m).blk S.next = some (flat (ms ++ [m])) := by
  have hlp := h.lp
  have e : flat (ms ++ [m]) = flat ms ++ m.cells := by simp [flat]
  unfold addH
  split
  · rename_i h0; subst h0
    exact ⟨set_blk _ _ _, by rw [set_other _ _ (by omega), alloc_blk]; simp [flat]⟩
  · rename_i h0
    exact ⟨set_blk _ _ _, by rw [set_other _ _ (by omega), show S.next = (S.set q none).next from rfl, alloc_blk, e]⟩
theorem addG_ne : (addH S p q fi w ms m).blk p ≠ S.blk p := by
  rw [h.blk, (addG_blk h).1]
  by_cases h0 : ms = []
  · simp [h0]
  · have := h.lq h0
    simp [h0]
include hg hm
theorem addG_steps : ∃ T, aAppend 29 128 (if ms = [] then .nils else .hs q 0 ms.length 29) (.is 1 m.cells) S = some (.hs S.next 0 (ms.length + 1) 29, T) ∧ putV (.ptr p 2) [.hs S.next 0 (ms.length + 1) 29] T = some (addH S p q fi w ms m) := by
  have hlp := h.lp
  have hf := h.hf
  have hl := flat_len (Pre.of fun m hm => (h.good m hm).1)
  by_cases h0 : ms = []
  · subst h0
    rw [if_pos rfl]
    refine ⟨_, app_nil (n := 1) (by omega) (by rw [M.len hg.pre]) (room2 (by omega) (by omega)) (room3 (by omega)), ?_⟩
    have hb : (S.alloc m.cells).blk p = some [.int .i64 fi, .int .i64 w, .nils] := by rw [alloc_other _ _ (by omega), h.blk, if_pos rfl]
    simp only [putV, hb, List.length_nil, List.length_cons, addH, if_true]
    rfl
  · rw [if_neg h0]
    have hlq := h.lq h0
    refine ⟨_, app_hs (n := 1) (h.cells h0) hl (by rw [M.len hg.pre]) (by omega) (room2 (by omega) (by omega)) (room3 (by omega)) hg.cell, ?_⟩
    have hb : ((S.set q none).alloc (flat ms ++ m.cells)).blk p = some [.int .i64 fi, .int .i64 w, .hs q 0 ms.length 29] := by
      rw [alloc_other _ _ (by rw [set_next]; omega), set_other _ _ (Ne.symm (h.ne h0)), h.blk, if_neg h0]
    simp only [putV, hb, List.length_nil, List.length_cons, addH, if_neg h0]
    rfl
theorem addG_c {B : CallF} (hB : Silent B) (k : Nat) : Cn B (k + 3) f_near_Near_Add 0 [.ptr p 0, .agg m.cells] S = some (.int .i64 0, addH S p q fi w ms m) := by
  rw [c_near_Near_Add _ _ _ _ _ (hB _ _ _ _ (by decide)), T_near_Near_Add]
  have hn := next_c hB (k + 1) h
  have h1 : ¬ (fi + ms.length ≥ 8160) := by omega
  have hc := mbCopy_c hB k hg S
  obtain ⟨T, e1, e2⟩ := addG_steps h hg hm
  simp only [asAgg_a, ← zM_cells, M.len hg.pre, beq_self_eq_true, gB_t, eql_ptr, bO_s, asBool_b, Bool.false_eq_true, if_false, hn, asInt_i, h1, decide_false, addV_p, seeV_p, h.blk, Nat.zero_add, List.getElem?_cons_zero, List.getElem?_cons_succ, same_nil, same_see, List.drop_zero, M.t29 hg.pre, hc, Nat.le_refl, decide_true, M.z0 hg.pre, e1, show cell (.hs S.next 0 (ms.length + 1) 29) = true from rfl, List.all_cons, List.all_nil, Bool.and_true, e2]
  rw [tr_ne p h.lp (addG_ne h)]
end
/-- What CopyMbs gives, whatever there is. -/
theorem copyMbsR_c {B : CallF} (hB : Silent B) (k : Nat) {S : Heap} {a : AV} {ms : List M} (ha : ∀ S, Rd S a ms) (hg : ∀ m ∈ ms, Good 1000 m) (hn : ms.length ≤ 1000) :
    ∃ x T, Cn B (k + 4) f_spindlekit_CopyMbs 0 [a] S = some (x, T) ∧ Ext S T ∧ ((ms = [] ∧ x = .nils) ∨ (ms ≠ [] ∧ ∃ q, x = .hs q 0 ms.length 29 ∧ T.blk q = some (flat (ms.map M.norm)) ∧ q < T.next ∧ S.next ≤ q)) := by
  by_cases h0 : ms = []
  · refine ⟨.nils, S, ?_, Ext.refl S, .inl ⟨h0, rfl⟩⟩
    rw [c_spindlekit_CopyMbs _ _ _ _ (hB _ _ _ _ (by decide)), T_spindlekit_CopyMbs, bloop]
    have hl := (ha S).len
    rw [h0] at hl
    have hlt : ¬ ((0 : Int) < (([] : List M).length : Int)) := by simp
    simp only [nthA_0, nthA_s, asInt_i, hl, bO_s, hlt, decide_false, Bool.false_eq_true, if_false, sel]
    rw [tr_id]
  · obtain ⟨T, q, e, e1, e2, e3, e4⟩ := copyMbs_c hB k (ha S) hg hn h0
    exact ⟨_, T, e, e3, .inr ⟨h0, q, rfl, e1, e2, e4⟩⟩
set_option maxHeartbeats 2000000 in
theorem copies_law (k : Nat) {a : AV} {ms : List M} (ha : ∀ S, Rd S a ms) (hl : ms.length ≤ maxLen) (hA : ∀ m ∈ ms, Arg m) {m : M} (hm : Arg m) (fi w : Int) :
    ∃ S', Cn Bk (k + 7) f_spindlelaw14_NearCopies 0 [.int .i64 fi, .int .i64 w, a, .agg m.cells] S0 = some (.bool true, S') := by
  have hB := Bk_silent
  rw [c_spindlelaw14_NearCopies _ _ _ _ _ _ _ (hB _ _ _ _ (by decide)), T_spindlelaw14_NearCopies]
  have hmp := hm.good.pre
  have l29 := M.len hmp
  have t29 : List.take 29 m.cells = m.cells := M.t29 hmp
  have h29 : (29 : Nat) ≤ 29 := by omega
  have z29 := M.z hmp
  obtain ⟨b1, f1, f1'⟩ := few_c hB (k + 5) (ha S0) (fun m hm => (hA m hm).good) hl 30
  have hone : Rd S0 (.is 1 m.cells) [m] := .inr (.inl (by simp [flat]))
  obtain ⟨b2, f2, f2'⟩ := few_c hB (k + 5) hone (fun x hx => by rw [List.mem_singleton.1 hx]; exact hm.good) (by rw [maxLen_is]; simp) 1
  have hlen : ∀ S, aLen Try.prog 22 a = some (.int .i64 ms.length) := fun S => (ha S).len
  have e9 : ∀ T, Cn Bk (k + 6) f_spindlelaw14_awake 0 [] T = some (.bool true, T) := fun T => awake_c (k + 6) T
  cases b1 with
  | false =>
    simp only [bO_s, gB_t, asBool_b, asInt_i, asAgg_a, asTup_a, asStr_s, asCons_c, nthA_0, nthA_s, aggCells_a, addV_p, seeV_p, seeV_i, same_nil, tr_same, eql4, neq4, decide_true, decide_false, Bool.false_eq_true, if_false, if_true, Bool.not_true, Bool.not_false, Bool.and_true, Bool.true_and, Bool.and_self, List.getElem?_cons_zero, List.getElem?_cons_succ, Nat.zero_add, Nat.add_zero, beq_self_eq_true, bne_self_eq_false, Int.reduceBNe, Int.reduceBEq, Int.reduceLT, Int.reduceGT, Int.reduceLE, Int.reduceGE, Nat.reduceAdd, Nat.reduceMul, Nat.reduceLeDiff, l29, f1]
    first | exact ⟨_, rfl⟩ | exact some_tr _ _ _
  | true =>
    cases b2 with
    | false =>
      simp only [bO_s, gB_t, asBool_b, asInt_i, asAgg_a, asTup_a, asStr_s, asCons_c, nthA_0, nthA_s, aggCells_a, addV_p, seeV_p, seeV_i, same_nil, tr_same, eql4, neq4, decide_true, decide_false, Bool.false_eq_true, if_false, if_true, Bool.not_true, Bool.not_false, Bool.and_true, Bool.true_and, Bool.and_self, List.getElem?_cons_zero, List.getElem?_cons_succ, Nat.zero_add, Nat.add_zero, beq_self_eq_true, bne_self_eq_false, Int.reduceBNe, Int.reduceBEq, Int.reduceLT, Int.reduceGT, Int.reduceLE, Int.reduceGE, Nat.reduceAdd, Nat.reduceMul, Nat.reduceLeDiff, l29, f1, List.drop_zero, t29, h29, z29, f2]
      first | exact ⟨_, rfl⟩ | exact some_tr _ _ _
    | true =>
      obtain ⟨hn30, hg60⟩ := f1' rfl
      have hgm : Good 1000 m := ((f2' rfl).2 m (by simp)).mono (by omega)
      have hg : ∀ m ∈ ms, Good 1000 m := fun m hm => (hg60 m hm).mono (by omega)
      have hns : (ms.map M.norm).length = ms.length := List.length_map ..
      have hgn : ∀ x ∈ ms.map M.norm, Good 1000 x := fun x hx => by
        obtain ⟨y, hy, rfl⟩ := List.mem_map.1 hx
        exact (hg y hy).norm
      simp only [bO_s, gB_t, asBool_b, asInt_i, asAgg_a, asTup_a, asStr_s, asCons_c, nthA_0, nthA_s, aggCells_a, addV_p, seeV_p, seeV_i, same_nil, tr_same, eql4, neq4, decide_true, decide_false, Bool.false_eq_true, if_false, if_true, Bool.not_true, Bool.not_false, Bool.and_true, Bool.true_and, Bool.and_self, List.getElem?_cons_zero, List.getElem?_cons_succ, Nat.zero_add, Nat.add_zero, beq_self_eq_true, bne_self_eq_false, Int.reduceBNe, Int.reduceBEq, Int.reduceLT, Int.reduceGT, Int.reduceLE, Int.reduceGE, Nat.reduceAdd, Nat.reduceMul, Nat.reduceLeDiff, l29, f1, List.drop_zero, t29, h29, z29, f2]
      rcases made_c hB (k + 2) (ha S0) hg (by omega) (fi := fi) (w := w) with ⟨⟨hf, hw2, hmx⟩, T, q, c1, hO, hE, hq0⟩ | ⟨hno, c1⟩
      · have c2 := copy_c hB (k + 2) hO
        rw [hns] at c2
        obtain ⟨T1, hT1⟩ : ∃ T1, T1 = T.alloc [.int .i64 fi, .int .i64 w, .is ms.length (flat (ms.map M.norm))] := ⟨_, rfl⟩
        rw [← hT1] at c2
        have hE1 : Ext T T1 := by rw [hT1]; exact Ext.alloc T _
        have hn1 : T1.next = T.next + 1 := by rw [hT1]; rfl
        have hbc : T1.blk T.next = some [.int .i64 fi, .int .i64 w, .is ms.length (flat (ms.map M.norm))] := by rw [hT1]; exact alloc_blk T _
        have hrc : ∀ U, Rd U (.is ms.length (flat (ms.map M.norm))) (ms.map M.norm) := fun U => .inr (.inl (by rw [hns]))
        have hO1 := hO.ext2 hE1
        have d1 := mbsG_c hB (k + 3) hbc (by omega) (hrc T1) hgn (by omega)
        rw [hns] at d1
        have d2 := equalMbs_c hB (k + 2) (hrc T1) (ha T1) hgn hg (by omega) (by omega) (same_simL hg)
        obtain ⟨T2, ds, d3, hG⟩ := mbs1_c hB (k + 3) hO1
        rw [hns] at d3 hG
        have l22 : aLen Try.prog 22 (.hs T1.next 0 ms.length 29) = some (.int .i64 (ms.length : Int)) := by kernel_rfl
        simp only [bO_s, gB_t, asBool_b, asInt_i, asAgg_a, asTup_a, asStr_s, asCons_c, nthA_0, nthA_s, aggCells_a, addV_p, seeV_p, seeV_i, same_nil, tr_same, eql4, neq4, decide_true, decide_false, Bool.false_eq_true, if_false, if_true, Bool.not_true, Bool.not_false, Bool.and_true, Bool.true_and, Bool.and_self, List.getElem?_cons_zero, List.getElem?_cons_succ, Nat.zero_add, Nat.add_zero, beq_self_eq_true, bne_self_eq_false, Int.reduceBNe, Int.reduceBEq, Int.reduceLT, Int.reduceGT, Int.reduceLE, Int.reduceGE, Nat.reduceAdd, Nat.reduceMul, Nat.reduceLeDiff, c1, c2, eql_ptr, d1, d2, d3]
        refine loop_ex (fun (o : Option (AV × Heap)) => ∃ S', o = some (.bool true, S'))
          (fun i s => ∃ T' ds', s = ([.int .i64 fi, a, .agg m.cells, .ptr S0.next 0, .ptr T.next 0, .hs T1.next 0 ms.length 29, .int .i64 (i : Int)], T') ∧ GR T1 T' T1.next T1.next ms.length ds')
          (fun z => ∃ T' ds', z = (0, [.int .i64 fi, a, .agg m.cells, .ptr S0.next 0, .ptr T.next 0], T') ∧ GR T1 T' T1.next T1.next ms.length ds') ms.length
          ⟨T2, ds, rfl, hG⟩ ?_ ?_
        · rintro i s hi ⟨T', ds', rfl, hG'⟩
          by_cases hin : i < ms.length
          · have hlt : (i : Int) < (ms.length : Int) := by omega
            have hw : IntKind.wrap .i64 ((i : Int) + 1) = ((i + 1 : Nat) : Int) := by rw [wr _ (by omega)]; omega
            have hix : aIdx 29 (.hs T1.next 0 ms.length 29) (i : Int) = some (.ptr T1.next (i * 29)) := by simp [aIdx, hin]
            have hdl := hG'.len
            have hid : i < ds'.length := by omega
            have hdp := hG'.pre _ (List.getElem_mem hid)
            have g26 : (flat ds')[i * 29 + 26]? = some (.int .i64 ds'[i].qp) := by rw [flat_get' hG'.pre hid (by omega)]; exact M.g26 hdp
            obtain ⟨T3, ds3, p1, hG3⟩ := hG'.qp hin (IntKind.wrap .i64 (ds'[i].qp + 1))
            refine .inr ⟨hin, ?_⟩
            simp only [bO_s, gB_t, asBool_b, asInt_i, asAgg_a, asTup_a, asStr_s, asCons_c, nthA_0, nthA_s, aggCells_a, addV_p, seeV_p, seeV_i, same_nil, tr_same, eql4, neq4, decide_true, decide_false, Bool.false_eq_true, if_false, if_true, Bool.not_true, Bool.not_false, Bool.and_true, Bool.true_and, Bool.and_self, List.getElem?_cons_zero, List.getElem?_cons_succ, Nat.zero_add, Nat.add_zero, beq_self_eq_true, bne_self_eq_false, Int.reduceBNe, Int.reduceBEq, Int.reduceLT, Int.reduceGT, Int.reduceLE, Int.reduceGE, Nat.reduceAdd, Nat.reduceMul, Nat.reduceLeDiff, l22, hlt, hix, hG'.cells, g26, p1]
            have hd3l := hG3.len
            have hid3 : i < ds3.length := by omega
            have hp3 := hG3.pre _ (List.getElem_mem hid3)
            have hr3 := hG3.row _ (List.getElem_mem hid3)
            have g23 : (flat ds3)[i * 29 + 23]? = some ds3[i].r := by rw [flat_get' hG3.pre hid3 (by omega)]; exact M.g23 hp3
            have hfin : ∀ U, GR T1 U T1.next T1.next ms.length ds3 → ∃ s', some (Sum.inl ([.int .i64 fi, a, .agg m.cells, .ptr S0.next 0, .ptr T.next 0, .hs T1.next 0 ms.length 29, .int .i64 ((i + 1 : Nat) : Int)], U)) = some (Sum.inl s' : LSt ⊕ (Nat × LSt)) ∧ ∃ T' ds', s' = ([.int .i64 fi, a, .agg m.cells, .ptr S0.next 0, .ptr T.next 0, .hs T1.next 0 ms.length 29, .int .i64 ((i + 1 : Nat) : Int)], T') ∧ GR T1 T' T1.next T1.next ms.length ds' := fun U hU => ⟨_, rfl, U, ds3, rfl, hU⟩
            rcases hr3 with hr3 | ⟨id, n, cs, hr3, b1, b2, b3, b4, b5, b6⟩
            · have l25 : aLen Try.prog 25 .nils = some (.int .i64 0) := by kernel_rfl
              have n0 : ¬ ((0 : Int) < 0) := by omega
              rw [hr3] at g23
              rw [bloop]
              simp only [bO_s, gB_t, asBool_b, asInt_i, asAgg_a, asTup_a, asStr_s, asCons_c, nthA_0, nthA_s, aggCells_a, addV_p, seeV_p, seeV_i, same_nil, tr_same, eql4, neq4, decide_true, decide_false, Bool.false_eq_true, if_false, if_true, Bool.not_true, Bool.not_false, Bool.and_true, Bool.true_and, Bool.and_self, List.getElem?_cons_zero, List.getElem?_cons_succ, Nat.zero_add, Nat.add_zero, beq_self_eq_true, bne_self_eq_false, Int.reduceBNe, Int.reduceBEq, Int.reduceLT, Int.reduceGT, Int.reduceLE, Int.reduceGE, Nat.reduceAdd, Nat.reduceMul, Nat.reduceLeDiff, hix, hG3.cells, g23, l25, n0, sel, hw]
              exact hfin T3 hG3
            · have l25 : aLen Try.prog 25 (.hs id 0 n 1) = some (.int .i64 (n : Int)) := by kernel_rfl
              rw [hr3] at g23
              refine loop_ex (fun (o : Option (LSt ⊕ (Nat × LSt))) => ∃ s', o = some (.inl s') ∧ ∃ T' ds', s' = ([.int .i64 fi, a, .agg m.cells, .ptr S0.next 0, .ptr T.next 0, .hs T1.next 0 ms.length 29, .int .i64 ((i + 1 : Nat) : Int)], T') ∧ GR T1 T' T1.next T1.next ms.length ds')
                (fun kk s => ∃ U cs', s = ([.int .i64 fi, a, .agg m.cells, .ptr S0.next 0, .ptr T.next 0, .hs T1.next 0 ms.length 29, .int .i64 (i : Int), .int .i64 (kk : Int)], U) ∧ GR T1 U T1.next T1.next ms.length ds3 ∧ U.blk id = some cs' ∧ cs'.length = n ∧ ints cs')
                (fun z => ∃ U, z = (0, [.int .i64 fi, a, .agg m.cells, .ptr S0.next 0, .ptr T.next 0, .hs T1.next 0 ms.length 29, .int .i64 (i : Int)], U) ∧ GR T1 U T1.next T1.next ms.length ds3) n
                ⟨T3, cs, rfl, hG3, b3, b4, b6⟩ ?_ ?_
              · rintro kk s hk ⟨U, cs', rfl, hU, u1, u2, u3⟩
                by_cases hkn : kk < n
                · have hltk : (kk : Int) < (n : Int) := by omega
                  have hwk : IntKind.wrap .i64 ((kk : Int) + 1) = ((kk + 1 : Nat) : Int) := by rw [wr _ (by omega)]; omega
                  have ik : aIdx 1 (.hs id 0 n 1) (kk : Int) = some (.ptr id kk) := by simp [aIdx, hkn]
                  have o1 : kk < cs'.length := by omega
                  obtain ⟨z, hz⟩ := u3 _ (List.getElem_mem o1)
                  have gz : cs'[kk]? = some (.int .i64 z) := by rw [List.getElem?_eq_getElem o1, hz]
                  have pt : putV (.ptr id kk) [.int .i64 (IntKind.wrap .i64 (z + 1))] U = some (U.set id (some (cs'.set kk (.int .i64 (IntKind.wrap .i64 (z + 1)))))) := by
                    simp only [putV, u1, List.length_cons, List.length_nil, setCells]
                    rw [if_pos (by omega)]
                  refine .inr ⟨hkn, ([.int .i64 fi, a, .agg m.cells, .ptr S0.next 0, .ptr T.next 0, .hs T1.next 0 ms.length 29, .int .i64 (i : Int), .int .i64 ((kk + 1 : Nat) : Int)], U.set id (some (cs'.set kk (.int .i64 (IntKind.wrap .i64 (z + 1)))))), ?_, _, _, rfl, hU.set b1 u1 u3 _, set_blk _ _ _, by rw [List.length_set]; exact u2, fun c hc => ?_⟩
                  · simp only [bO_s, gB_t, asBool_b, asInt_i, asAgg_a, asTup_a, asStr_s, asCons_c, nthA_0, nthA_s, aggCells_a, addV_p, seeV_p, seeV_i, same_nil, tr_same, eql4, neq4, decide_true, decide_false, Bool.false_eq_true, if_false, if_true, Bool.not_true, Bool.not_false, Bool.and_true, Bool.true_and, Bool.and_self, List.getElem?_cons_zero, List.getElem?_cons_succ, Nat.zero_add, Nat.add_zero, beq_self_eq_true, bne_self_eq_false, Int.reduceBNe, Int.reduceBEq, Int.reduceLT, Int.reduceGT, Int.reduceLE, Int.reduceGE, Nat.reduceAdd, Nat.reduceMul, Nat.reduceLeDiff, hix, hU.cells, g23, l25, hltk, ik, u1, gz, pt, hwk]
                  · rcases List.mem_or_eq_of_mem_set hc with hc | rfl
                    · exact u3 c hc
                    · exact ⟨_, rfl⟩
                · have hltk : ¬ (kk : Int) < (n : Int) := by omega
                  exact .inl ⟨_, by simp only [bO_s, gB_t, asBool_b, asInt_i, asAgg_a, asTup_a, asStr_s, asCons_c, nthA_0, nthA_s, aggCells_a, addV_p, seeV_p, seeV_i, same_nil, tr_same, eql4, neq4, decide_true, decide_false, Bool.false_eq_true, if_false, if_true, Bool.not_true, Bool.not_false, Bool.and_true, Bool.true_and, Bool.and_self, List.getElem?_cons_zero, List.getElem?_cons_succ, Nat.zero_add, Nat.add_zero, beq_self_eq_true, bne_self_eq_false, Int.reduceBNe, Int.reduceBEq, Int.reduceLT, Int.reduceGT, Int.reduceLE, Int.reduceGE, Nat.reduceAdd, Nat.reduceMul, Nat.reduceLeDiff, hix, hU.cells, g23, l25, hltk], U, rfl, hU⟩
              · rintro z ⟨U, rfl, hU⟩
                simp only [bO_s, gB_t, asBool_b, asInt_i, asAgg_a, asTup_a, asStr_s, asCons_c, nthA_0, nthA_s, aggCells_a, addV_p, seeV_p, seeV_i, same_nil, tr_same, eql4, neq4, decide_true, decide_false, Bool.false_eq_true, if_false, if_true, Bool.not_true, Bool.not_false, Bool.and_true, Bool.true_and, Bool.and_self, List.getElem?_cons_zero, List.getElem?_cons_succ, Nat.zero_add, Nat.add_zero, beq_self_eq_true, bne_self_eq_false, Int.reduceBNe, Int.reduceBEq, Int.reduceLT, Int.reduceGT, Int.reduceLE, Int.reduceGE, Nat.reduceAdd, Nat.reduceMul, Nat.reduceLeDiff, sel, hw]
                exact hfin U hU
          · have hlt : ¬ (i : Int) < (ms.length : Int) := by omega
            exact .inl ⟨_, by simp only [bO_s, gB_t, asBool_b, asInt_i, asAgg_a, asTup_a, asStr_s, asCons_c, nthA_0, nthA_s, aggCells_a, addV_p, seeV_p, seeV_i, same_nil, tr_same, eql4, neq4, decide_true, decide_false, Bool.false_eq_true, if_false, if_true, Bool.not_true, Bool.not_false, Bool.and_true, Bool.true_and, Bool.and_self, List.getElem?_cons_zero, List.getElem?_cons_succ, Nat.zero_add, Nat.add_zero, beq_self_eq_true, bne_self_eq_false, Int.reduceBNe, Int.reduceBEq, Int.reduceLT, Int.reduceGT, Int.reduceLE, Int.reduceGE, Nat.reduceAdd, Nat.reduceMul, Nat.reduceLeDiff, l22, hlt], T', ds', rfl, hG'⟩
        · rintro z ⟨T3, ds3, rfl, hG3⟩
          have hE3 : Ext T1 T3 := ⟨hG3.next, hG3.cx, hG3.old⟩
          have hO3 := hO1.ext2 hE3
          have hlp := hO.lp
          have hwf : IntKind.wrap .i64 (fi + (ms.length : Int)) = fi + (ms.length : Int) := wr _ (by omega)
          have ne0 : ((fi + (ms.length : Int)) != (fi + (ms.length : Int))) = false := by simp
          by_cases hmax : fi + ((ms.map M.norm).length : Int) < 8160
          · have k1 := addG_c hO3 hgm hmax hB (k + 3)
            obtain ⟨kb1, kb2⟩ := addG_blk hO3 (m := m)
            have hE3n := hE3.1
            have hbU : (addH T3 S0.next q fi w (ms.map M.norm) m).blk T.next = some [.int .i64 fi, .int .i64 w, .is ms.length (flat (ms.map M.norm))] := by
              rw [addH_other hO3 (by omega) (by omega) (fun h0 => by have := hO.lq h0; omega), hG3.old _ (by omega)]; exact hbc
            have hUn : (addH T3 S0.next q fi w (ms.map M.norm) m).next = T3.next + 1 := addH_next hO3
            obtain ⟨U, hU⟩ : ∃ U, U = addH T3 S0.next q fi w (ms.map M.norm) m := ⟨_, rfl⟩
            rw [← hU] at k1 kb1 kb2 hbU hUn
            have d4 := mbsG_c hB (k + 3) hbU (by omega) (hrc U) hgn (by omega)
            rw [hns] at d4
            have d5 := equalMbs_c hB (k + 2) (hrc U) (ha U) hgn hg (by omega) (by omega) (same_simL hg)
            have d6 := nextG_c hB (k + 5) hbU (hrc U) (by omega)
            rw [hns] at d6
            obtain ⟨x, V, d7, hEV, hx⟩ := copyMbsR_c hB (k + 2) ha hg (by omega) (S := U)
            have hEVn := hEV.1
            have hgw : ∀ y ∈ ms.map M.norm ++ [m], Good 1000 y := fun y hy => by
              rcases List.mem_append.1 hy with hy | hy
              · exact hgn y hy
              · rw [List.mem_singleton] at hy; subst hy; exact hgm
            have hlw : (ms.map M.norm ++ [m]).length = ms.length + 1 := by rw [List.length_append, hns]; rfl
            obtain ⟨z, V2, d8, hEV2, hrz⟩ : ∃ z V2, aAppend 29 128 x (.is 1 m.cells) V = some (z, V2) ∧ Ext U V2 ∧ Rd V2 z (ms.map M.norm ++ [m]) := by
              rcases hx with ⟨h0, rfl⟩ | ⟨h0, q2, rfl, x1, x2, x3⟩
              · refine ⟨_, _, app_nil (n := 1) (by omega) (by rw [l29]) (room2 (by omega) (by omega)) (room3 (by omega)), hEV.trans (Ext.alloc V _), .inr (.inr ⟨V.next, by rw [hlw, h0]; rfl, ?_, Nat.lt_succ_self _⟩)⟩
                rw [alloc_blk, h0]; simp [flat]
              · have hfl := flat_len (Pre.of hgn)
                rw [hns] at hfl
                refine ⟨_, _, app_hs (n := 1) x1 hfl (by rw [l29]) (by omega) (room2 (by omega) (by omega)) (room3 (by omega)) hgm.cell, (hEV.set x3 none).trans (Ext.alloc _ _), .inr (.inr ⟨V.next, by rw [hlw], ?_, Nat.lt_succ_self _⟩)⟩
                rw [show V.next = (V.set q2 none).next from rfl, alloc_blk]; simp [flat]
            have hbn : V2.blk S0.next = some [.int .i64 fi, .int .i64 w, .hs T3.next 0 (ms.length + 1) 29] := by
              rw [hEV2.2.2 _ (by omega), kb1, hns]
            have hrn : Rd V2 (.hs T3.next 0 (ms.length + 1) 29) (ms.map M.norm ++ [m]) := .inr (.inr ⟨T3.next, by rw [hlw], by rw [hEV2.2.2 _ (by omega)]; exact kb2, by have := hEV2.1; omega⟩)
            have d9 := mbsG_c hB (k + 3) hbn (by have := hEV2.1; omega) hrn hgw (by omega)
            rw [hlw] at d9
            have hri : Rd V2 (.is (ms.length + 1) (flat (ms.map M.norm ++ [m]))) (ms.map M.norm ++ [m]) := .inr (.inl (by rw [hlw]))
            have d10 := equalMbs_c hB (k + 2) hri hrz hgw hgw rfl (by omega) (fun i h1 h2 => Sim.refl _)
            simp only [bO_s, gB_t, asBool_b, asInt_i, asAgg_a, asTup_a, asStr_s, asCons_c, nthA_0, nthA_s, aggCells_a, addV_p, seeV_p, seeV_i, same_nil, tr_same, eql4, neq4, decide_true, decide_false, Bool.false_eq_true, if_false, if_true, Bool.not_true, Bool.not_false, Bool.and_true, Bool.true_and, Bool.and_self, List.getElem?_cons_zero, List.getElem?_cons_succ, Nat.zero_add, Nat.add_zero, beq_self_eq_true, bne_self_eq_false, Int.reduceBNe, Int.reduceBEq, Int.reduceLT, Int.reduceGT, Int.reduceLE, Int.reduceGE, Nat.reduceAdd, Nat.reduceMul, Nat.reduceLeDiff, sel, l29, h29, List.drop_zero, t29, k1, d4, d5, d6, hlen U, hwf, ne0, d7, z29, d8, d9, d10, e9]
            first | exact ⟨_, rfl⟩ | exact some_tr _ _ _
          · have k1 := addLong_c hO3 hgm hmax hB (k + 3)
            have hbU : T3.blk T.next = some [.int .i64 fi, .int .i64 w, .is ms.length (flat (ms.map M.norm))] := by
              rw [hG3.old _ (by omega)]; exact hbc
            have hE3n := hE3.1
            have d4 := mbsG_c hB (k + 3) hbU (by omega) (hrc T3) hgn (by omega)
            rw [hns] at d4
            have d5 := equalMbs_c hB (k + 2) (hrc T3) (ha T3) hgn hg (by omega) (by omega) (same_simL hg)
            have d6 := nextG_c hB (k + 5) hbU (hrc T3) (by omega)
            rw [hns] at d6
            obtain ⟨x, V, d7, hEV, hx⟩ := copyMbsR_c hB (k + 2) ha hg (by omega) (S := T3)
            have hOV := hO3.ext2 hEV
            have d9 := mbs_c hB (k + 3) hOV
            rw [hns] at d9
            have hrx : Rd V x (ms.map M.norm) := by
              rcases hx with ⟨h0, rfl⟩ | ⟨h0, q2, rfl, x1, x2, x3⟩
              · exact .inl ⟨rfl, by rw [h0]; rfl⟩
              · exact .inr (.inr ⟨q2, by rw [hns], x1, x2⟩)
            have d10 := equalMbs_c hB (k + 2) (hrc V) hrx hgn hgn rfl (by omega) (fun i h1 h2 => Sim.refl _)
            have n6 : ((6 : Int) == 0) = false := rfl
            simp only [bO_s, gB_t, asBool_b, asInt_i, asAgg_a, asTup_a, asStr_s, asCons_c, nthA_0, nthA_s, aggCells_a, addV_p, seeV_p, seeV_i, same_nil, tr_same, eql4, neq4, decide_true, decide_false, Bool.false_eq_true, if_false, if_true, Bool.not_true, Bool.not_false, Bool.and_true, Bool.true_and, Bool.and_self, List.getElem?_cons_zero, List.getElem?_cons_succ, Nat.zero_add, Nat.add_zero, beq_self_eq_true, bne_self_eq_false, Int.reduceBNe, Int.reduceBEq, Int.reduceLT, Int.reduceGT, Int.reduceLE, Int.reduceGE, Nat.reduceAdd, Nat.reduceMul, Nat.reduceLeDiff, sel, l29, h29, List.drop_zero, t29, k1, d4, d5, d6, hlen T3, hwf, ne0, d7, n6, d9, d10, e9]
            first | exact ⟨_, rfl⟩ | exact some_tr _ _ _
      · simp only [bO_s, gB_t, asBool_b, asInt_i, asAgg_a, asTup_a, asStr_s, asCons_c, nthA_0, nthA_s, aggCells_a, addV_p, seeV_p, seeV_i, same_nil, tr_same, eql4, neq4, decide_true, decide_false, Bool.false_eq_true, if_false, if_true, Bool.not_true, Bool.not_false, Bool.and_true, Bool.true_and, Bool.and_self, List.getElem?_cons_zero, List.getElem?_cons_succ, Nat.zero_add, Nat.add_zero, beq_self_eq_true, bne_self_eq_false, Int.reduceBNe, Int.reduceBEq, Int.reduceLT, Int.reduceGT, Int.reduceLE, Int.reduceGE, Nat.reduceAdd, Nat.reduceMul, Nat.reduceLeDiff, c1, eql_nilp, e9]
        first | exact ⟨_, rfl⟩ | exact some_tr _ _ _
theorem nearCopies_law (xs : List AV) (h : argsOk Try.prog maxLen 16 Try.f7.params.toList xs) : ∃ (C : CallF) (S' : Heap), NOk Try.prog (fun _ => none) C ∧ C 7 0 xs S0 = some (.bool true, S') := by
  rw [Try.params7] at h
  obtain ⟨a, r, rfl, h1, b, r2, rfl, h2, c, r3, rfl, h3, d, r4, rfl, h4, rfl⟩ := h
  obtain ⟨fi, rfl, hfi⟩ := arg3 h1
  obtain ⟨w, rfl, hw⟩ := arg3 h2
  obtain ⟨ms, hRd, hl, hA⟩ := arg22 h3
  obtain ⟨m, rfl, hm⟩ := arg29 h4
  obtain ⟨S', hS⟩ := copies_law 0 hRd hl hA hm fi w
  exact ⟨Cn Bk 7, S', Cn_ok 7, hS⟩
end Go.Ab.tNearU
