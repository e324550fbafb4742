/- What Block returns of a block that is coded. -/
import Derived.Test.YtbmcdphiolidkaaDoorII5
set_option maxRecDepth 100000
set_option linter.unusedSimpArgs false
set_option linter.unusedVariables false
set_option linter.unusedSectionVars false
namespace Go.Ab.tNearU
open Go Go.Proofs

def blockV (m : M) (nl na : M × Bool) (c : Cd) : Nat := (if bside m nl false c = true then 1 else 0) + (if bside m na true c = true then 2 else 0)
theorem blockV_le {m : M} {nl na : M × Bool} {c : Cd} : blockV m nl na c ≤ 3 := by
  unfold blockV
  split <;> split <;> omega
theorem addB_next {T : Heap} {ps s wt : Nat} {b : Bool} : (addB T ps s wt b).next = T.next := by cases b <;> rfl
theorem addB_cx {T : Heap} {ps s wt : Nat} {b : Bool} : (addB T ps s wt b).cx = T.cx := by cases b <;> rfl
theorem addB_other {T : Heap} {ps s wt j : Nat} {b : Bool} (h : j ≠ ps) : (addB T ps s wt b).blk j = T.blk j := by
  cases b
  · rfl
  · exact set_other _ _ h
theorem addB_at {T : Heap} {ps s wt : Nat} {b : Bool} (h : T.blk ps = some [.int .i64 (s : Int)]) : (addB T ps s wt b).blk ps = some [.int .i64 ((s + if b = true then wt else 0 : Nat) : Int)] := by
  cases b
  · exact h
  · show (T.set ps _).blk ps = _
    rw [set_blk]; rfl
set_option maxHeartbeats 1000000 in
theorem incBlock_c {B : CallF} (hB : Known B) (k : Nat) {T : Heap} {p q : Nat} {fi w : Int} {ms : List M} (h : Obj T p q fi w ms) (hby : ∀ m ∈ ms, Byt m) {m : M} (hg : Good 1000 m) (hb : Byt m) {c : Cd} (hc : c ∈ m.bls) :
    Cn B (k + 6) f_inc_Block 0 [.ptr p 0, .agg m.cells, .agg (cdC c)] T = some (.tup [.int .i64 (blockV m (lf fi w ms) (fa fi ms (fi + ms.length - w)) c : Int), .int .i64 0], T) := by
  rw [c_inc_Block _ _ _ _ _ _ (hB.no _ _ _ _ (by decide)), T_inc_Block]
  have hce : CdEx c := ⟨(mem_bls hc).1, (mem_bls hc).2.1⟩
  have l29 := M.len hg.pre
  have t29 : List.take 29 m.cells = m.cells := M.t29 hg.pre
  have h29 : (29 : Nat) ≤ 29 := by omega
  have h3 : (3 : Nat) ≤ 3 := by omega
  have lc : ∀ d : Cd, (cdC d).length = 3 := fun _ => rfl
  have tc : ∀ d : Cd, List.take 3 (cdC d) = cdC d := fun _ => rfl
  have cc : ∀ d : Cd, (cdC d).all cell = true := fun _ => rfl
  have zc : ∀ d : Cd, setCells [.int .u8 0, .int .u8 0, .int .i64 0] 0 (cdC d) = cdC d := fun _ => rfl
  obtain ⟨S4, hS4⟩ : ∃ S4, S4 = (T.alloc m.cells).alloc (cdC c) := ⟨_, rfl⟩
  have bm : S4.blk T.next = some m.cells := by rw [hS4, alloc_other _ _ (by rw [alloc_next]; omega), alloc_blk]
  have bc : S4.blk (T.next + 1) = some (cdC c) := by rw [hS4]; exact alloc_blk _ _
  have n4 : S4.next = T.next + 2 := by rw [hS4]; rfl
  have E4 : Ext T S4 := by rw [hS4]; exact (Ext.alloc T _).trans (Ext.alloc _ _)
  have e1 := (blocks_c hB (k + 5) hg hb S4).1
  have hlen := blA_len m.bls
  have hb27 : m.bls.length ≤ 27 := bls_len m.kind m.cbp
  have hf : ∀ S, fz 40 (blA m.bls) S = some (blA m.bls, S) := fun S => by
    cases m.bls with
    | nil => rfl
    | cons c l => rfl
  simp only [bO_s, gB_t, asBool_b, asInt_i, asAgg_a, asTup_a, asStr_s, asCons_c, nthA_0, nthA_s, aggCells_a, addV_p, seeV_p, seeV_i, same_nil, tr_same, eql4, neq4, decide_true, decide_false, Bool.false_eq_true, if_false, if_true, Bool.not_true, Bool.not_false, Bool.and_true, Bool.true_and, Bool.and_self, List.getElem?_cons_zero, List.getElem?_cons_succ, Nat.zero_add, Nat.add_zero, beq_self_eq_true, bne_self_eq_false, Int.reduceBNe, Int.reduceBEq, Int.reduceLT, Int.reduceGT, Int.reduceLE, Int.reduceGE, Nat.reduceAdd, Nat.reduceMul, Nat.reduceLeDiff, l29, lc, alloc_next]
  rw [← hS4]
  simp only [bO_s, gB_t, asBool_b, asInt_i, asAgg_a, asTup_a, asStr_s, asCons_c, nthA_0, nthA_s, aggCells_a, addV_p, seeV_p, seeV_i, same_nil, tr_same, eql4, neq4, decide_true, decide_false, Bool.false_eq_true, if_false, if_true, Bool.not_true, Bool.not_false, Bool.and_true, Bool.true_and, Bool.and_self, List.getElem?_cons_zero, List.getElem?_cons_succ, Nat.zero_add, Nat.add_zero, beq_self_eq_true, bne_self_eq_false, Int.reduceBNe, Int.reduceBEq, Int.reduceLT, Int.reduceGT, Int.reduceLE, Int.reduceGE, Nat.reduceAdd, Nat.reduceMul, Nat.reduceLeDiff, eql_ptr, bm, l29, h29, List.drop_zero, t29, e1, hlen]
  refine loop_ex (fun (o : Option (AV × Heap)) => o = some (.tup [.int .i64 (blockV m (lf fi w ms) (fa fi ms (fi + ms.length - w)) c : Int), .int .i64 0], T))
    (fun i s => s = ([.ptr p 0, .ptr T.next 0, .ptr (T.next + 1) 0, .bool (decide (c ∈ m.bls.take i)), blA m.bls, .int .i64 (m.bls.length : Int), .int .i64 (i : Int)], S4))
    (fun x => x = (0, [.ptr p 0, .ptr T.next 0, .ptr (T.next + 1) 0, .bool true], S4)) m.bls.length (by simp) ?_ ?_
  · rintro i s hi rfl
    by_cases hin : i < m.bls.length
    · have hlt : (i : Int) < (m.bls.length : Int) := by omega
      have hw : IntKind.wrap .i64 ((i : Int) + 1) = ((i + 1 : Nat) : Int) := by rw [wr _ (by omega)]; omega
      obtain ⟨p1, p2, p3⟩ := blA_at hin
      have htk : m.bls.take (i + 1) = m.bls.take i ++ [m.bls[i]] := by rw [List.take_add_one, List.getElem?_eq_getElem hin]; rfl
      refine .inr ⟨hin, _, ?_, rfl⟩
      have heq := eqlCd m.bls[i] c
      by_cases hx : c ∈ m.bls.take i
      · have hx1 : decide (c ∈ m.bls.take i) = true := decide_eq_true hx
        have hx2 : decide (c ∈ m.bls.take (i + 1)) = true := decide_eq_true (by rw [htk]; exact List.mem_append_left _ hx)
        simp only [bO_s, gB_t, asBool_b, asInt_i, asAgg_a, asTup_a, asStr_s, asCons_c, nthA_0, nthA_s, aggCells_a, addV_p, seeV_p, seeV_i, same_nil, tr_same, eql4, neq4, decide_true, decide_false, Bool.false_eq_true, if_false, if_true, Bool.not_true, Bool.not_false, Bool.and_true, Bool.true_and, Bool.and_self, List.getElem?_cons_zero, List.getElem?_cons_succ, Nat.zero_add, Nat.add_zero, beq_self_eq_true, bne_self_eq_false, Int.reduceBNe, Int.reduceBEq, Int.reduceLT, Int.reduceGT, Int.reduceLE, Int.reduceGE, Nat.reduceAdd, Nat.reduceMul, Nat.reduceLeDiff, hx1, hx2, hlt, List.drop_zero, p1, p2, p3, lc, cc, zc, h3, hw]
      · have hx1 : decide (c ∈ m.bls.take i) = false := decide_eq_false hx
        have hx2 : decide (c ∈ m.bls.take (i + 1)) = decide (m.bls[i] = c) := by
          rw [htk, decide_eq_decide, List.mem_append, List.mem_singleton]
          exact ⟨fun h => h.elim (fun h => absurd h hx) Eq.symm, fun h => .inr h.symm⟩
        simp only [bO_s, gB_t, asBool_b, asInt_i, asAgg_a, asTup_a, asStr_s, asCons_c, nthA_0, nthA_s, aggCells_a, addV_p, seeV_p, seeV_i, same_nil, tr_same, eql4, neq4, decide_true, decide_false, Bool.false_eq_true, if_false, if_true, Bool.not_true, Bool.not_false, Bool.and_true, Bool.true_and, Bool.and_self, List.getElem?_cons_zero, List.getElem?_cons_succ, Nat.zero_add, Nat.add_zero, beq_self_eq_true, bne_self_eq_false, Int.reduceBNe, Int.reduceBEq, Int.reduceLT, Int.reduceGT, Int.reduceLE, Int.reduceGE, Nat.reduceAdd, Nat.reduceMul, Nat.reduceLeDiff, hx1, hx2, hlt, p1, p2, p3, lc, cc, zc, tc, h3, List.drop_zero, bc, heq, hw]
    · have hlt : ¬ (i : Int) < (m.bls.length : Int) := by omega
      have hx : decide (c ∈ m.bls.take i) = true := decide_eq_true (by rw [List.take_of_length_le (by omega)]; exact hc)
      exact .inl ⟨_, by simp only [bO_s, gB_t, asBool_b, asInt_i, asAgg_a, asTup_a, asStr_s, asCons_c, nthA_0, nthA_s, aggCells_a, addV_p, seeV_p, seeV_i, same_nil, tr_same, eql4, neq4, decide_true, decide_false, Bool.false_eq_true, if_false, if_true, Bool.not_true, Bool.not_false, Bool.and_true, Bool.true_and, Bool.and_self, List.getElem?_cons_zero, List.getElem?_cons_succ, Nat.zero_add, Nat.add_zero, beq_self_eq_true, bne_self_eq_false, Int.reduceBNe, Int.reduceBEq, Int.reduceLT, Int.reduceGT, Int.reduceLE, Int.reduceGE, Nat.reduceAdd, Nat.reduceMul, Nat.reduceLeDiff, hx, hlt], rfl⟩
  · rintro x rfl
    obtain ⟨U, hU⟩ : ∃ U, U = S4.alloc [.int .i64 0] := ⟨_, rfl⟩
    have bs : U.blk S4.next = some [.int .i64 ((0 : Nat) : Int)] := by rw [hU]; exact alloc_blk _ _
    have bs0 : U.blk S4.next = some [.int .i64 0] := bs
    have EU : Ext S4 U := by rw [hU]; exact Ext.alloc S4 _
    have bmU : U.blk T.next = some m.cells := (EU.2.2 _ (by omega)).trans bm
    have bcU : U.blk (T.next + 1) = some (cdC c) := (EU.2.2 _ (by omega)).trans bc
    have nU : U.next = T.next + 3 := by rw [hU, alloc_next, n4]
    have hE := E4.trans EU
    have hOU : Obj U p q fi w ms := h.keep hE.1 (hE.2.2 _ h.lp) fun h0 => hE.2.2 _ (h.lq h0)
    have gl := (lf_good (fi := fi) (w := w) hOU.good).1
    have bl : Byt (lf fi w ms).1 := lf_byt hby
    have ga := (fa_good (fi := fi) hOU.good (fi + ms.length - w)).1
    have ba : Byt (fa fi ms (fi + ms.length - w)).1 := fa_byt hby _
    have r1 := incBlock1_c hB k hg hb hce (ab := false) (fl := f_place_Left) (fc := f_place_ChLeft) (fn := f_near_Near_Left) (by decide) (by decide) (by decide) gl bl
      (fun j hj => (place_l hB (k + 4) hj U).1) (fun j hj => (place_cl hB (k + 4) hj U).1) (left_c hB.no k hOU) bcU bmU bs (wt := 1) (by omega) (by omega) (by omega) (by omega)
    obtain ⟨V, hV⟩ : ∃ V, V = addB U S4.next 0 1 (bside m (lf fi w ms) false c) := ⟨_, rfl⟩
    rw [← hV] at r1
    have nV : V.next = U.next := by rw [hV]; exact addB_next
    have oV : ∀ j, j ≠ S4.next → V.blk j = U.blk j := fun j hj => by rw [hV]; exact addB_other hj
    have hlp := h.lp
    have hOV : Obj V p q fi w ms := hOU.keep (by omega) (oV _ (by omega)) fun h0 => oV _ (by have := h.lq h0; omega)
    have bsV : V.blk S4.next = some [.int .i64 ((0 + if bside m (lf fi w ms) false c = true then 1 else 0 : Nat) : Int)] := by rw [hV]; exact addB_at bs
    have r2 := incBlock1_c hB k hg hb hce (ab := true) (fl := f_place_Above) (fc := f_place_ChAbove) (fn := f_near_Near_Above) (by decide) (by decide) (by decide) ga ba
      (fun j hj => (place_a hB (k + 4) hj V).1) (fun j hj => (place_ca hB (k + 4) hj V).1) (above_c hB.no k hOV) (pc := T.next + 1) (pm := T.next) (by rw [oV _ (by omega)]; exact bcU) (by rw [oV _ (by omega)]; exact bmU) bsV (wt := 2) (by split <;> omega) (by omega) (by omega) (by omega)
    obtain ⟨W, hW⟩ : ∃ W, W = addB V S4.next (0 + if bside m (lf fi w ms) false c = true then 1 else 0) 2 (bside m (fa fi ms (fi + ms.length - w)) true c) := ⟨_, rfl⟩
    rw [← hW] at r2
    have bsW : W.blk S4.next = some [.int .i64 (blockV m (lf fi w ms) (fa fi ms (fi + ms.length - w)) c : Int)] := by
      rw [hW, addB_at bsV]
      unfold blockV
      rw [Nat.zero_add]
    have EW : Ext T W := ⟨by rw [hW, addB_next, nV]; omega, by rw [hW, addB_cx, hV, addB_cx]; exact hE.2.1, fun j hj => by
      rw [hW, addB_other (by omega), oV _ (by omega)]
      exact hE.2.2 j hj⟩
    have e1' : ((1 : Nat) : Int) = 1 := rfl
    have e2' : ((2 : Nat) : Int) = 2 := rfl
    rw [e1'] at r1
    rw [e2'] at r2
    have pp := putV_s bs0
    simp only [bO_s, gB_t, asBool_b, asInt_i, asAgg_a, asTup_a, asStr_s, asCons_c, nthA_0, nthA_s, aggCells_a, addV_p, seeV_p, seeV_i, same_nil, tr_same, eql4, neq4, decide_true, decide_false, Bool.false_eq_true, if_false, if_true, Bool.not_true, Bool.not_false, Bool.and_true, Bool.true_and, Bool.and_self, List.getElem?_cons_zero, List.getElem?_cons_succ, Nat.zero_add, Nat.add_zero, beq_self_eq_true, bne_self_eq_false, Int.reduceBNe, Int.reduceBEq, Int.reduceLT, Int.reduceGT, Int.reduceLE, Int.reduceGE, Nat.reduceAdd, Nat.reduceMul, Nat.reduceLeDiff, sel]
    rw [← hU]
    simp only [bO_s, gB_t, asBool_b, asInt_i, asAgg_a, asTup_a, asStr_s, asCons_c, nthA_0, nthA_s, aggCells_a, addV_p, seeV_p, seeV_i, same_nil, tr_same, eql4, neq4, decide_true, decide_false, Bool.false_eq_true, if_false, if_true, Bool.not_true, Bool.not_false, Bool.and_true, Bool.true_and, Bool.and_self, List.getElem?_cons_zero, List.getElem?_cons_succ, Nat.zero_add, Nat.add_zero, beq_self_eq_true, bne_self_eq_false, Int.reduceBNe, Int.reduceBEq, Int.reduceLT, Int.reduceGT, Int.reduceLE, Int.reduceGE, Nat.reduceAdd, Nat.reduceMul, Nat.reduceLeDiff, pp, r1, r2, bsW]
    rw [tr_S rfl EW]
end Go.Ab.tNearU
