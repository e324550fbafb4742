/- Two slices side by side: spindlelaw15.Both. -/
import Derived.Test.YtbmcdphiolidkaaDoorIW1
set_option maxRecDepth 100000
set_option linter.unusedSimpArgs false
set_option linter.unusedVariables false
set_option linter.unusedSectionVars false
namespace Go.Ab.tNearU
open Go Go.Proofs

theorem both_c {B : CallF} (hB : Silent B) (k : Nat) {S : Heap} {a : AV} {ms : List M} (ha : ∀ S, Rd S a ms) (hg : ∀ m ∈ ms, Good 1000 m) (hn : ms.length ≤ 1000) {fi w : Int} :
    (madeOk fi w ms.length ∧ ∃ T q q', Cn B (k + 6) f_spindlelaw15_Both 0 [.int .i64 fi, .int .i64 w, a] S = some (.tup [.ptr S.next 0, .ptr (S.next + 1) 0], T) ∧ Two T S.next q (S.next + 1) q' fi w (ms.map M.norm) ∧ Ext S T) ∨
    (¬ madeOk fi w ms.length ∧ Cn B (k + 6) f_spindlelaw15_Both 0 [.int .i64 fi, .int .i64 w, a] S = some (.tup [.nilp, .nilp], S)) := by
  rw [c_spindlelaw15_Both _ _ _ _ _ _ (hB _ _ _ _ (by decide)), T_spindlelaw15_Both]
  have hlen : ∀ S : Heap, aLen Tryd.prog 22 a = some (.int .i64 ms.length) := fun S => (ha S).len
  by_cases hv : (0 ≤ fi ∧ fi < 8160) ∧ 1 ≤ w ∧ w ≤ 128
  · obtain ⟨S1, hS1⟩ : ∃ S1, S1 = S.alloc [.int .i64 fi, .int .i64 w, .nils] := ⟨_, rfl⟩
    obtain ⟨S2, hS2⟩ : ∃ S2, S2 = S1.alloc [.int .i64 fi, .int .i64 w, .nils] := ⟨_, rfl⟩
    have n1 := new_ok hB (k + 4) hv.1 hv.2 S
    have n2 := new14_ok hB (k + 4) hv.1 hv.2 S1
    rw [← hS1] at n1
    rw [← hS2] at n2
    obtain ⟨p, hp⟩ : ∃ p, p = S.next := ⟨_, rfl⟩
    have p2 : S1.next = p + 1 := by rw [hS1, hp]; rfl
    rw [← hp] at n1 ⊢
    rw [p2] at n2
    have O1 : Obj S1 p (p + 5) fi w [] := by have := new_obj hv.1 hv.2 S (p + 5); rw [← hS1, ← hp] at this; exact this
    have O2 : Obj S2 (p + 1) (p + 6) fi w [] := by have := new_obj hv.1 hv.2 S1 (p + 6); rw [← hS2, p2] at this; exact this
    have O1' : Obj S2 p (p + 5) fi w [] := O1.keep (by rw [hS2, alloc_next]; omega) (by rw [hS2, alloc_other _ _ (by omega)]) (fun h => absurd rfl h)
    have T0 : Two S2 p (p + 5) (p + 1) (p + 6) fi w [] := ⟨O1', O2, by omega, fun h => absurd rfl h⟩
    have E0 : Ext S S2 := (by rw [hS1]; exact Ext.alloc S _ : Ext S S1).trans (by rw [hS2]; exact Ext.alloc S1 _)
    simp only [bO_s, gB_t, asBool_b, asInt_i, asAgg_a, asTup_a, asStr_s, asCons_c, nthA_0, nthA_s, aggCells_a, addV_p, seeV_p, seeV_i, same_nil, tr_same, eql4, neq4, decide_true, decide_false, Bool.false_eq_true, if_false, if_true, Bool.not_true, Bool.not_false, Bool.and_true, Bool.true_and, Bool.and_self, List.getElem?_cons_zero, List.getElem?_cons_succ, Nat.zero_add, Nat.add_zero, beq_self_eq_true, bne_self_eq_false, Int.reduceBNe, Int.reduceBEq, Int.reduceLT, Int.reduceGT, Int.reduceLE, Int.reduceGE, Nat.reduceAdd, Nat.reduceMul, Nat.reduceLeDiff, n1, n2, eql_ptr, eql_ptr46]
    refine loop_ex (fun (o : Option (AV × Heap)) => (madeOk fi w ms.length ∧ ∃ T q q', o = some (.tup [.ptr p 0, .ptr (p + 1) 0], T) ∧ Two T p q (p + 1) q' fi w (ms.map M.norm) ∧ Ext S T) ∨ (¬ madeOk fi w ms.length ∧ o = some (.tup [.nilp, .nilp], S)))
      (fun i s => ∃ T q q', s = ([a, .ptr p 0, .ptr (p + 1) 0, .int .i64 (i : Int)], T) ∧ Two T p q (p + 1) q' fi w ((ms.take i).map M.norm) ∧ Ext S T ∧ (fi + i ≤ 8160) ∧ p ≤ q ∧ p ≤ q')
      (fun y => (∃ T q q', y = (0, [.ptr p 0, .ptr (p + 1) 0], T) ∧ Two T p q (p + 1) q' fi w (ms.map M.norm) ∧ Ext S T ∧ fi + ms.length ≤ 8160) ∨ (¬ madeOk fi w ms.length ∧ ∃ T, y = (1, [.nilp, .nilp], T) ∧ Ext S T)) ms.length
      ⟨S2, p + 5, p + 6, rfl, by simpa using T0, E0, by omega, by omega, by omega⟩ ?_ ?_
    · rintro i s hi ⟨T, q, q', rfl, hT, hE, hle, hq1, hq2⟩
      by_cases hin : i < ms.length
      · have hlt : (i : Int) < ms.length := by omega
        have hw : IntKind.wrap .i64 ((i : Int) + 1) = ((i + 1 : Nat) : Int) := by rw [wr _ (by omega)]; omega
        rcases arg_cases ha with ⟨_, h0⟩ | hais
        · rw [h0] at hin; exact absurd hin (Nat.not_lt_zero _)
        obtain ⟨r1, r2, r3⟩ := ix_is (Pre.of hg) hin
        have hg1 := hg _ (List.getElem_mem hin)
        have hcp := copyMb_c hB (k + 2) hg1 T
        have hln : ((ms.take i).map M.norm).length = i := by simp; omega
        have hl1 := hlen T
        have l6 : ((6 : Int) != 0) = true := rfl
        by_cases hm' : fi + i < 8160
        · have hm : fi + ((ms.take i).map M.norm).length < 8160 := by rw [hln]; exact hm'
          have gn : Good 1000 ms[i].norm ∧ ms[i].norm.norm = ms[i].norm := ⟨hg1.norm, norm_norm _⟩
          have a1 := add_c hT.a gn hm hB (k + 2)
          obtain ⟨O3, hT2⟩ := hT.add gn hm
          have a2 := add14_c O3 gn hm hB (k + 1) hg1 rfl
          obtain ⟨U, hU⟩ : ∃ U, U = addH T p q fi w ((ms.take i).map M.norm) ms[i].norm := ⟨_, rfl⟩
          have hEU : Ext S U := by
            have := hE.1
            refine ⟨by rw [hU, addH_next hT.a]; omega, by rw [hU, addH_cx hT.a]; exact hE.2.1, fun j hj => ?_⟩
            rw [hU, addH_other hT.a (by omega) (by omega) (fun _ => by omega)]
            exact hE.2.2 j hj
          rw [← hU] at a1 O3 hT2 a2
          have hEV : Ext S (addH U (p + 1) q' fi w ((ms.take i).map M.norm) ms[i].norm) := by
            have := hEU.1
            refine ⟨by rw [addH_next O3]; omega, by rw [addH_cx O3]; exact hEU.2.1, fun j hj => ?_⟩
            rw [addH_other O3 (by omega) (by omega) (fun _ => by omega)]
            exact hEU.2.2 j hj
          have hUn : U.next = T.next + 1 := by rw [hU]; exact addH_next hT.a
          have hEn := hE.1
          have hlp := hT.a.lp
          refine .inr ⟨hin, _, ?_, addH U (p + 1) q' fi w ((ms.take i).map M.norm) ms[i].norm, T.next, U.next, rfl, ?_, hEV, by omega, by omega, by omega⟩
          · simp only [bO_s, gB_t, asBool_b, asInt_i, asAgg_a, asTup_a, asStr_s, asCons_c, nthA_0, nthA_s, aggCells_a, addV_p, seeV_p, seeV_i, same_nil, tr_same, eql4, neq4, decide_true, decide_false, Bool.false_eq_true, if_false, if_true, Bool.not_true, Bool.not_false, Bool.and_true, Bool.true_and, Bool.and_self, List.getElem?_cons_zero, List.getElem?_cons_succ, Nat.zero_add, Nat.add_zero, beq_self_eq_true, bne_self_eq_false, Int.reduceBNe, Int.reduceBEq, Int.reduceLT, Int.reduceGT, Int.reduceLE, Int.reduceGE, Nat.reduceAdd, Nat.reduceMul, Nat.reduceLeDiff, hl1, hlt]
            subst hais
            simp only [bO_s, gB_t, asBool_b, asInt_i, asAgg_a, asTup_a, asStr_s, asCons_c, nthA_0, nthA_s, aggCells_a, addV_p, seeV_p, seeV_i, same_nil, tr_same, eql4, neq4, decide_true, decide_false, Bool.false_eq_true, if_false, if_true, Bool.not_true, Bool.not_false, Bool.and_true, Bool.true_and, Bool.and_self, List.getElem?_cons_zero, List.getElem?_cons_succ, Nat.zero_add, Nat.add_zero, beq_self_eq_true, bne_self_eq_false, Int.reduceBNe, Int.reduceBEq, Int.reduceLT, Int.reduceGT, Int.reduceLE, Int.reduceGE, Nat.reduceAdd, Nat.reduceMul, Nat.reduceLeDiff, r1, r2, List.drop_zero, r3, hcp, a1, a2, hw]
          · rw [List.take_add_one, List.getElem?_eq_getElem hin, Option.toList_some, List.map_append]
            exact hT2
        · have hm : ¬ fi + ((ms.take i).map M.norm).length < 8160 := by rw [hln]; exact hm'
          have a1 := addLong_c hT.a hg1.norm hm hB (k + 2)
          refine .inl ⟨(1, [.nilp, .nilp], T), ?_, .inr ⟨?_, T, rfl, hE⟩⟩
          · simp only [bO_s, gB_t, asBool_b, asInt_i, asAgg_a, asTup_a, asStr_s, asCons_c, nthA_0, nthA_s, aggCells_a, addV_p, seeV_p, seeV_i, same_nil, tr_same, eql4, neq4, decide_true, decide_false, Bool.false_eq_true, if_false, if_true, Bool.not_true, Bool.not_false, Bool.and_true, Bool.true_and, Bool.and_self, List.getElem?_cons_zero, List.getElem?_cons_succ, Nat.zero_add, Nat.add_zero, beq_self_eq_true, bne_self_eq_false, Int.reduceBNe, Int.reduceBEq, Int.reduceLT, Int.reduceGT, Int.reduceLE, Int.reduceGE, Nat.reduceAdd, Nat.reduceMul, Nat.reduceLeDiff, hl1, hlt]
            subst hais
            simp only [bO_s, gB_t, asBool_b, asInt_i, asAgg_a, asTup_a, asStr_s, asCons_c, nthA_0, nthA_s, aggCells_a, addV_p, seeV_p, seeV_i, same_nil, tr_same, eql4, neq4, decide_true, decide_false, Bool.false_eq_true, if_false, if_true, Bool.not_true, Bool.not_false, Bool.and_true, Bool.true_and, Bool.and_self, List.getElem?_cons_zero, List.getElem?_cons_succ, Nat.zero_add, Nat.add_zero, beq_self_eq_true, bne_self_eq_false, Int.reduceBNe, Int.reduceBEq, Int.reduceLT, Int.reduceGT, Int.reduceLE, Int.reduceGE, Nat.reduceAdd, Nat.reduceMul, Nat.reduceLeDiff, r1, r2, List.drop_zero, r3, hcp, a1, l6]
          · rintro ⟨_, _, h3⟩; omega
      · have : i = ms.length := by omega
        subst this
        have hl1 := hlen T
        refine .inl ⟨(0, [.ptr p 0, .ptr (p + 1) 0], T), ?_, .inl ⟨T, q, q', rfl, by simpa using hT, hE, by omega⟩⟩
        simp only [bO_s, gB_t, asBool_b, asInt_i, asAgg_a, asTup_a, asStr_s, asCons_c, nthA_0, nthA_s, aggCells_a, addV_p, seeV_p, seeV_i, same_nil, tr_same, eql4, neq4, decide_true, decide_false, Bool.false_eq_true, if_false, if_true, Bool.not_true, Bool.not_false, Bool.and_true, Bool.true_and, Bool.and_self, List.getElem?_cons_zero, List.getElem?_cons_succ, Nat.zero_add, Nat.add_zero, beq_self_eq_true, bne_self_eq_false, Int.reduceBNe, Int.reduceBEq, Int.reduceLT, Int.reduceGT, Int.reduceLE, Int.reduceGE, Nat.reduceAdd, Nat.reduceMul, Nat.reduceLeDiff, hl1, Int.lt_irrefl]
    · rintro y (⟨T, q, q', rfl, hT, hE, hle⟩ | ⟨hno, T, rfl, hE⟩)
      · refine .inl ⟨⟨hv.1, hv.2, hle⟩, T, q, q', ?_, hT, hE⟩
        simp only [bO_s, gB_t, asBool_b, asInt_i, asAgg_a, asTup_a, asStr_s, asCons_c, nthA_0, nthA_s, aggCells_a, addV_p, seeV_p, seeV_i, same_nil, tr_same, eql4, neq4, decide_true, decide_false, Bool.false_eq_true, if_false, if_true, Bool.not_true, Bool.not_false, Bool.and_true, Bool.true_and, Bool.and_self, List.getElem?_cons_zero, List.getElem?_cons_succ, Nat.zero_add, Nat.add_zero, beq_self_eq_true, bne_self_eq_false, Int.reduceBNe, Int.reduceBEq, Int.reduceLT, Int.reduceGT, Int.reduceLE, Int.reduceGE, Nat.reduceAdd, Nat.reduceMul, Nat.reduceLeDiff, sel]
        rw [tr_id2 rfl]
      · refine .inr ⟨hno, ?_⟩
        simp only [bO_s, gB_t, asBool_b, asInt_i, asAgg_a, asTup_a, asStr_s, asCons_c, nthA_0, nthA_s, aggCells_a, addV_p, seeV_p, seeV_i, same_nil, tr_same, eql4, neq4, decide_true, decide_false, Bool.false_eq_true, if_false, if_true, Bool.not_true, Bool.not_false, Bool.and_true, Bool.true_and, Bool.and_self, List.getElem?_cons_zero, List.getElem?_cons_succ, Nat.zero_add, Nat.add_zero, beq_self_eq_true, bne_self_eq_false, Int.reduceBNe, Int.reduceBEq, Int.reduceLT, Int.reduceGT, Int.reduceLE, Int.reduceGE, Nat.reduceAdd, Nat.reduceMul, Nat.reduceLeDiff, sel]
        rw [tr_S rfl hE]
  · have n1 := new_bad hB (k + 4) hv S
    have n2 := new14_bad hB (k + 4) hv S
    refine .inr ⟨fun h => hv ⟨h.1, h.2.1⟩, ?_⟩
    simp only [bO_s, gB_t, asBool_b, asInt_i, asAgg_a, asTup_a, asStr_s, asCons_c, nthA_0, nthA_s, aggCells_a, addV_p, seeV_p, seeV_i, same_nil, tr_same, eql4, neq4, decide_true, decide_false, Bool.false_eq_true, if_false, if_true, Bool.not_true, Bool.not_false, Bool.and_true, Bool.true_and, Bool.and_self, List.getElem?_cons_zero, List.getElem?_cons_succ, Nat.zero_add, Nat.add_zero, beq_self_eq_true, bne_self_eq_false, Int.reduceBNe, Int.reduceBEq, Int.reduceLT, Int.reduceGT, Int.reduceLE, Int.reduceGE, Nat.reduceAdd, Nat.reduceMul, Nat.reduceLeDiff, n1, n2, eql_nilp]
end Go.Ab.tNearU
