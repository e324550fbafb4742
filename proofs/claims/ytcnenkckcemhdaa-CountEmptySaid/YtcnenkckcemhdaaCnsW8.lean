/- The class of a block: the program's function. -/
import Derived.Test.YtcnenkckcemhdaaCnsW7
set_option maxRecDepth 100000
set_option linter.unusedSimpArgs false
set_option linter.unusedVariables false
set_option linter.unusedSectionVars false
namespace Go.Ab.tNearU
open Go Go.Proofs

def clsS (s : Nat) : Nat := if s < 2 then 0 else if s < 4 then 1 else if s < 8 then 2 else 3
def onO : Option Nat → Nat
  | some _ => 1
  | none => 0
theorem onO_le (o : Option Nat) : onO o ≤ 1 := by cases o <;> simp [onO]
def thr (l a : Option Nat) : Nat := onO l + onO a
def sm (l a : Option Nat) : Nat := l.getD 0 + a.getD 0
def clsN (l a : Option Nat) : Nat := clsS (if thr l a = 2 then (sm l a + 1) / 2 else sm l a)
def cls (m : M) (nl na : M × Bool) (c : Cd) : Nat := if c.1 = 3 then 4 else clsN (lookd m nl false c) (lookd m na true c)
theorem addL_other {T : Heap} {pt ps t s j : Nat} {o : Option Nat} (h1 : j ≠ pt) (h2 : j ≠ ps) : (addL T pt ps t s o).blk j = T.blk j := by
  unfold addL
  split
  · rfl
  · rw [set_other _ _ h2, set_other _ _ h1]
theorem addL_next {T : Heap} {pt ps t s : Nat} {o : Option Nat} : (addL T pt ps t s o).next = T.next := by unfold addL; split <;> rfl
theorem addL_cx {T : Heap} {pt ps t s : Nat} {o : Option Nat} : (addL T pt ps t s o).cx = T.cx := by unfold addL; split <;> rfl
theorem addL_t {T : Heap} {pt ps t s : Nat} {o : Option Nat} (bt : T.blk pt = some [.int .i64 (t : Int)]) (ne : ps ≠ pt) : (addL T pt ps t s o).blk pt = some [.int .i64 ((t + onO o : Nat) : Int)] := by
  cases o with
  | none => exact bt
  | some x => show ((T.set pt _).set ps _).blk pt = _; rw [set_other _ _ (Ne.symm ne), set_blk]; rfl
theorem addL_s {T : Heap} {pt ps t s : Nat} {o : Option Nat} (bs : T.blk ps = some [.int .i64 (s : Int)]) : (addL T pt ps t s o).blk ps = some [.int .i64 ((s + o.getD 0 : Nat) : Int)] := by
  cases o with
  | none => exact bs
  | some x => show ((T.set pt _).set ps _).blk ps = _; rw [set_blk]; rfl
theorem zM_byt : Byt zM := ⟨by decide, by decide⟩
theorem fa_byt {fi : Int} {ms : List M} (h : ∀ m ∈ ms, Byt m) (a : Int) : Byt (fa fi ms a).1 := by
  unfold fa
  split
  · exact h _ (List.getElem_mem _)
  · exact zM_byt
theorem lf_byt {fi w : Int} {ms : List M} (h : ∀ m ∈ ms, Byt m) : Byt (lf fi w ms).1 := by
  unfold lf
  split
  · exact zM_byt
  · exact fa_byt h _
theorem class_c {B : CallF} (hB : Known B) (k : Nat) {T : Heap} {p q : Nat} {fi w : Int} {ms : List M} (h : Obj T p q fi w ms) (hby : ∀ m ∈ ms, Byt m) {m : M} (hg : Good 1000 m) (hb : Byt m) {c : Cd} (hc : c ∈ m.bls) :
    Cn B (k + 6) f_count_Class 0 [.ptr p 0, .agg m.cells, .agg (cdC c)] T = some (.tup [.int .i64 (cls m (lf fi w ms) (fa fi ms (fi + ms.length - w)) c : Int), .int .i64 0], T) := by
  rw [c_count_Class _ _ _ _ _ _ (hB.no _ _ _ _ (by decide)), T_count_Class]
  have hce : CdEx c := ⟨(mem_bls hc).1, (mem_bls hc).2.1⟩
  have l29 := M.len hg.pre
  have t29 : List.take 29 (List.drop 0 m.cells) = m.cells := by rw [List.drop_zero]; exact M.t29 hg.pre
  have h29 : (29 : Nat) ≤ 29 := by omega
  have h3 : (3 : Nat) ≤ 3 := by omega
  have l3 : ∀ c, (cdC c).length = 3 := fun _ => rfl
  have t3 : ∀ c, List.take 3 (cdC c) = cdC c := fun _ => rfl
  have t3' : ∀ c, List.take 3 (List.drop 0 (cdC c)) = cdC c := fun _ => rfl
  have c3 : ∀ c, (cdC c).all cell = true := fun _ => rfl
  have s3 : ∀ c, setCells [.int .u8 0, .int .u8 0, .int .i64 0] 0 (cdC c) = cdC c := fun _ => rfl
  have g0 : (cdC c)[0]? = some (.int .u8 (c.1 : Int)) := rfl
  have hlen := blA_len m.bls
  have hb27 : m.bls.length ≤ 27 := bls_len m.kind m.cbp
  obtain ⟨T4, hT4⟩ : ∃ T4, T4 = (T.alloc m.cells).alloc (cdC c) := ⟨_, rfl⟩
  have b0 : T4.blk T.next = some m.cells := by rw [hT4, alloc_other _ _ (by rw [alloc_next]; omega), alloc_blk]
  have b1 : T4.blk (T.next + 1) = some (cdC c) := by rw [hT4]; exact alloc_blk _ _
  have n4 : T4.next = T.next + 2 := by rw [hT4]; rfl
  have E4 : Ext T T4 := by rw [hT4]; exact (Ext.alloc T _).trans (Ext.alloc _ _)
  have e1 := (blocks_c hB (k + 5) hg hb T4).1
  simp only [bO_s, gB_t, asBool_b, asInt_i, asAgg_a, asTup_a, asStr_s, asCons_c, nthA_0, nthA_s, aggCells_a, addV_p, seeV_p, seeV_i, same_nil, tr_same, eql4, neq4, decide_true, decide_false, Bool.false_eq_true, if_false, if_true, Bool.not_true, Bool.not_false, Bool.and_true, Bool.true_and, Bool.and_self, List.getElem?_cons_zero, List.getElem?_cons_succ, Nat.zero_add, Nat.add_zero, beq_self_eq_true, bne_self_eq_false, Int.reduceBNe, Int.reduceBEq, Int.reduceLT, Int.reduceGT, Int.reduceLE, Int.reduceGE, Nat.reduceAdd, Nat.reduceMul, Nat.reduceLeDiff, l29, l3, alloc_next, ← hT4, eql_ptr, b0, t29, h29, e1, hlen]
  refine loop_to (fun i s => s = ([.ptr p 0, .ptr T.next 0, .ptr (T.next + 1) 0, .bool (decide (c ∈ m.bls.take i)), blA m.bls, .int .i64 (m.bls.length : Int), .int .i64 (i : Int)], T4))
    (fun x => x = (0, [.ptr p 0, .ptr T.next 0, .ptr (T.next + 1) 0, .bool true], T4)) m.bls.length (by simp) ?_ ?_
  · rintro i s hi rfl
    by_cases hin : i < m.bls.length
    · have hlt : (i : Int) < (m.bls.length : Int) := by omega
      obtain ⟨p1, p2, p3⟩ := blA_at hin
      have hw : IntKind.wrap .i64 ((i : Int) + 1) = ((i + 1 : Nat) : Int) := by rw [wr _ (by omega)]; omega
      have hm1 : c ∈ m.bls.take (i + 1) ↔ (c ∈ m.bls.take i ∨ m.bls[i] = c) := by
        rw [List.take_add_one, List.getElem?_eq_getElem hin, Option.toList_some, List.mem_append, List.mem_singleton]
        exact or_congr_right ⟨Eq.symm, Eq.symm⟩
      by_cases hci : c ∈ m.bls.take i
      · have d1 : decide (c ∈ m.bls.take i) = true := decide_eq_true hci
        have d2 : decide (c ∈ m.bls.take (i + 1)) = true := decide_eq_true (hm1.2 (.inl hci))
        refine .inr ⟨hin, ([.ptr p 0, .ptr T.next 0, .ptr (T.next + 1) 0, .bool true, blA m.bls, .int .i64 (m.bls.length : Int), .int .i64 ((i + 1 : Nat) : Int)], T4), ?_, by rw [d2]⟩
        simp only [bO_s, gB_t, asBool_b, asInt_i, asAgg_a, asTup_a, asStr_s, asCons_c, nthA_0, nthA_s, aggCells_a, addV_p, seeV_p, seeV_i, same_nil, tr_same, eql4, neq4, decide_true, decide_false, Bool.false_eq_true, if_false, if_true, Bool.not_true, Bool.not_false, Bool.and_true, Bool.true_and, Bool.and_self, List.getElem?_cons_zero, List.getElem?_cons_succ, Nat.zero_add, Nat.add_zero, beq_self_eq_true, bne_self_eq_false, Int.reduceBNe, Int.reduceBEq, Int.reduceLT, Int.reduceGT, Int.reduceLE, Int.reduceGE, Nat.reduceAdd, Nat.reduceMul, Nat.reduceLeDiff, d1, hlt, p1, p2, p3, List.drop_zero, l3, t3, h3, c3, hw]
      · have d1 : decide (c ∈ m.bls.take i) = false := decide_eq_false hci
        have d2 : decide (c ∈ m.bls.take (i + 1)) = decide (m.bls[i] = c) := by
          by_cases he : m.bls[i] = c
          · rw [decide_eq_true (hm1.2 (.inr he)), decide_eq_true he]
          · rw [decide_eq_false (fun h => (hm1.1 h).elim hci he), decide_eq_false he]
        refine .inr ⟨hin, ([.ptr p 0, .ptr T.next 0, .ptr (T.next + 1) 0, .bool (decide (m.bls[i] = c)), blA m.bls, .int .i64 (m.bls.length : Int), .int .i64 ((i + 1 : Nat) : Int)], T4), ?_, by rw [d2]⟩
        simp only [bO_s, gB_t, asBool_b, asInt_i, asAgg_a, asTup_a, asStr_s, asCons_c, nthA_0, nthA_s, aggCells_a, addV_p, seeV_p, seeV_i, same_nil, tr_same, eql4, neq4, decide_true, decide_false, Bool.false_eq_true, if_false, if_true, Bool.not_true, Bool.not_false, Bool.and_true, Bool.true_and, Bool.and_self, List.getElem?_cons_zero, List.getElem?_cons_succ, Nat.zero_add, Nat.add_zero, beq_self_eq_true, bne_self_eq_false, Int.reduceBNe, Int.reduceBEq, Int.reduceLT, Int.reduceGT, Int.reduceLE, Int.reduceGE, Nat.reduceAdd, Nat.reduceMul, Nat.reduceLeDiff, d1, hlt, p1, p2, p3, List.drop_zero, l3, t3, h3, c3, s3, b1, eqlCd, hw]
    · have hie : i = m.bls.length := by omega
      have hlt : ¬ (i : Int) < (m.bls.length : Int) := by omega
      have d1 : decide (c ∈ m.bls.take i) = true := decide_eq_true (by rw [List.take_of_length_le (by omega)]; exact hc)
      exact .inl ⟨(0, [.ptr p 0, .ptr T.next 0, .ptr (T.next + 1) 0, .bool true], T4), by simp only [bO_s, gB_t, asBool_b, asInt_i, asAgg_a, asTup_a, asStr_s, asCons_c, nthA_0, nthA_s, aggCells_a, addV_p, seeV_p, seeV_i, same_nil, tr_same, eql4, neq4, decide_true, decide_false, Bool.false_eq_true, if_false, if_true, Bool.not_true, Bool.not_false, Bool.and_true, Bool.true_and, Bool.and_self, List.getElem?_cons_zero, List.getElem?_cons_succ, Nat.zero_add, Nat.add_zero, beq_self_eq_true, bne_self_eq_false, Int.reduceBNe, Int.reduceBEq, Int.reduceLT, Int.reduceGT, Int.reduceLE, Int.reduceGE, Nat.reduceAdd, Nat.reduceMul, Nat.reduceLeDiff, d1, hlt], rfl⟩
  · rintro x rfl
    by_cases hc3 : c.1 = 3
    · have h3b : ((c.1 : Int) == 3) = true := by rw [hc3]; rfl
      have hcl : cls m (lf fi w ms) (fa fi ms (fi + ms.length - w)) c = 4 := by unfold cls; rw [if_pos hc3]
      rw [hcl]
      simp only [bO_s, gB_t, asBool_b, asInt_i, asAgg_a, asTup_a, asStr_s, asCons_c, nthA_0, nthA_s, aggCells_a, addV_p, seeV_p, seeV_i, same_nil, tr_same, eql4, neq4, decide_true, decide_false, Bool.false_eq_true, if_false, if_true, Bool.not_true, Bool.not_false, Bool.and_true, Bool.true_and, Bool.and_self, List.getElem?_cons_zero, List.getElem?_cons_succ, Nat.zero_add, Nat.add_zero, beq_self_eq_true, bne_self_eq_false, Int.reduceBNe, Int.reduceBEq, Int.reduceLT, Int.reduceGT, Int.reduceLE, Int.reduceGE, Nat.reduceAdd, Nat.reduceMul, Nat.reduceLeDiff, sel, b1, g0, h3b, tr_S (v := .tup [.int .i64 4, .int .i64 0]) rfl E4]
      rfl
    · have h3b : ((c.1 : Int) == 3) = false := by simp; omega
      obtain ⟨T6, hT6⟩ : ∃ T6, T6 = (T4.alloc [.int .i64 0]).alloc [.int .i64 0] := ⟨_, rfl⟩
      have n6 : T6.next = T.next + 4 := by rw [hT6]; show T4.next + 1 + 1 = _; omega
      have bs6 : T6.blk (T.next + 2) = some [.int .i64 ((0 : Nat) : Int)] := by
        rw [hT6, alloc_other _ _ (by rw [alloc_next]; omega), ← n4, alloc_blk]; rfl
      have bt6 : T6.blk (T.next + 3) = some [.int .i64 ((0 : Nat) : Int)] := by
        have : T.next + 3 = (T4.alloc [.int .i64 0]).next := by rw [alloc_next]; omega
        rw [hT6, this, alloc_blk]; rfl
      have o6 : ∀ j, j < T.next + 2 → T6.blk j = T4.blk j := fun j hj => by
        rw [hT6, alloc_other _ _ (by rw [alloc_next]; omega), alloc_other _ _ (by omega)]
      have E6 : Ext T T6 := E4.trans (by rw [hT6]; exact (Ext.alloc T4 _).trans (Ext.alloc _ _))
      have u1 : putV (.ptr (T.next + 2) 0) [.int .i64 0] T6 = some T6 := by rw [putV_1 bs6]; exact congrArg some (set_same bs6)
      have u2 : putV (.ptr (T.next + 3) 0) [.int .i64 0] T6 = some T6 := by rw [putV_1 bt6]; exact congrArg some (set_same bt6)
      have O6 : Obj T6 p q fi w ms := h.keep E6.1 (E6.2.2 p h.lp) (fun h0 => E6.2.2 q (h.lq h0))
      have gl := (lf_good (fi := fi) (w := w) h.good).1
      have ga := (fa_good (fi := fi) h.good (fi + ms.length - w)).1
      have bl := lf_byt (fi := fi) (w := w) hby
      have ba := fa_byt (fi := fi) hby (fi + ms.length - w)
      have k1 := look_c hB k (T := T6) hg hb hce (fl := f_place_Left) (fc := f_place_ChLeft) (fn := f_near_Near_Left) (by decide) (by decide) (by decide) (ab := false) gl bl
        (fun j hj => (place_l hB (k + 4) hj T6).1) (fun j hj => (place_cl hB (k + 4) hj T6).1) (left_c hB.no k O6) (pc := T.next + 1) (pm := T.next) (pt := T.next + 3) (ps := T.next + 2)
        (by rw [o6 _ (by omega)]; exact b1) (by rw [o6 _ (by omega)]; exact b0) bt6 bs6 (by omega) (by omega) (by omega) (by omega)
      have hcl : cls m (lf fi w ms) (fa fi ms (fi + ms.length - w)) c = clsN (lookd m (lf fi w ms) false c) (lookd m (fa fi ms (fi + ms.length - w)) true c) := by unfold cls; rw [if_neg hc3]
      rw [hcl]
      have hle1 : ∀ x, lookd m (lf fi w ms) false c = some x → x ≤ 1000 := fun x hx => lookd_le hg gl hx
      have hle2 : ∀ x, lookd m (fa fi ms (fi + ms.length - w)) true c = some x → x ≤ 1000 := fun x hx => lookd_le hg ga hx
      generalize hl1 : lookd m (lf fi w ms) false c = o1 at k1 hle1 ⊢
      obtain ⟨T7, hT7⟩ : ∃ T7, T7 = addL T6 (T.next + 3) (T.next + 2) 0 0 o1 := ⟨_, rfl⟩
      have n7 : T7.next = T6.next := by rw [hT7]; exact addL_next
      have bt7 := addL_t (s := 0) (o := o1) bt6 (show T.next + 2 ≠ T.next + 3 by omega)
      have bs7 := addL_s (pt := T.next + 3) (t := 0) (o := o1) bs6
      rw [← hT7] at k1 bt7 bs7
      have o7 : ∀ j, j < T.next + 2 → T7.blk j = T6.blk j := fun j hj => by rw [hT7]; exact addL_other (by omega) (by omega)
      have E7 : Ext T T7 := ⟨by omega, by rw [hT7, addL_cx]; exact E6.2.1, fun j hj => by rw [o7 j (by omega)]; exact E6.2.2 j hj⟩
      have O7 : Obj T7 p q fi w ms := h.keep E7.1 (E7.2.2 p h.lp) (fun h0 => E7.2.2 q (h.lq h0))
      have hs1 : 0 + o1.getD 0 ≤ 1000 := by
        cases o1 with
        | none => simp
        | some x => have := hle1 x rfl; simp; omega
      have k2 := look_c hB k (T := T7) hg hb hce (fl := f_place_Above) (fc := f_place_ChAbove) (fn := f_near_Near_Above) (by decide) (by decide) (by decide) (ab := true) ga ba
        (fun j hj => (place_a hB (k + 4) hj T7).1) (fun j hj => (place_ca hB (k + 4) hj T7).1) (above_c hB.no k O7) (pc := T.next + 1) (pm := T.next) (pt := T.next + 3) (ps := T.next + 2)
        (by rw [o7 _ (by omega), o6 _ (by omega)]; exact b1) (by rw [o7 _ (by omega), o6 _ (by omega)]; exact b0) bt7 bs7 (by have := onO_le o1; omega) (by omega) (by omega) (by omega)
      generalize hl2 : lookd m (fa fi ms (fi + ms.length - w)) true c = o2 at k2 hle2 ⊢
      obtain ⟨T8, hT8⟩ : ∃ T8, T8 = addL T7 (T.next + 3) (T.next + 2) (0 + onO o1) (0 + o1.getD 0) o2 := ⟨_, rfl⟩
      have n8 : T8.next = T7.next := by rw [hT8]; exact addL_next
      have bt8 := addL_t (s := 0 + o1.getD 0) (o := o2) bt7 (show T.next + 2 ≠ T.next + 3 by omega)
      have bs8 := addL_s (pt := T.next + 3) (t := 0 + onO o1) (o := o2) bs7
      rw [← hT8] at k2 bt8 bs8
      have o8 : ∀ j, j < T.next + 2 → T8.blk j = T7.blk j := fun j hj => by rw [hT8]; exact addL_other (by omega) (by omega)
      have E8 : Ext T T8 := ⟨by omega, by rw [hT8, addL_cx]; exact E7.2.1, fun j hj => by rw [o8 j (by omega)]; exact E7.2.2 j hj⟩
      have ht : 0 + onO o1 + onO o2 = thr o1 o2 := by unfold thr; omega
      have hsm : 0 + o1.getD 0 + o2.getD 0 = sm o1 o2 := by unfold sm; omega
      rw [ht] at bt8
      rw [hsm] at bs8
      have hs2 : sm o1 o2 ≤ 2000 := by
        unfold sm
        cases o2 with
        | none => simp at hs1 ⊢; omega
        | some x => have := hle2 x rfl; simp at hs1 ⊢; omega
      unfold clsN
      obtain ⟨t, hte⟩ : ∃ t, t = thr o1 o2 := ⟨_, rfl⟩
      obtain ⟨s, hse⟩ : ∃ s, s = sm o1 o2 := ⟨_, rfl⟩
      rw [← hte] at bt8 ⊢
      rw [← hse] at bs8 hs2 ⊢
      have m2 : T4.next = T.next + 2 := n4
      by_cases ht2 : t = 2
      · have t2b : ((t : Int) == 2) = true := by rw [ht2]; rfl
        have w1 : IntKind.wrap .i64 ((s : Int) + 1) = (s : Int) + 1 := wr _ (by omega)
        have w2 : IntKind.wrap .i64 (Int.tdiv ((s : Int) + 1) 2) = (((s + 1) / 2 : Nat) : Int) := by
          have : Int.tdiv ((s : Int) + 1) 2 = (((s + 1) / 2 : Nat) : Int) := by
            rw [Int.tdiv_eq_ediv_of_nonneg (by omega)]; omega
          rw [this, wr _ (by omega)]
        rw [if_pos ht2]
        have u3 : putV (.ptr (T.next + 2) 0) [.int .i64 (((s + 1) / 2 : Nat) : Int)] T8 = some (T8.set (T.next + 2) (some [.int .i64 (((s + 1) / 2 : Nat) : Int)])) := putV_1 bs8
        have E9 : Ext T (T8.set (T.next + 2) (some [.int .i64 (((s + 1) / 2 : Nat) : Int)])) := E8.set (by omega) _
        have b9 := set_blk T8 (T.next + 2) (some [.int .i64 (((s + 1) / 2 : Nat) : Int)])
        generalize (s + 1) / 2 = v at w2 u3 E9 b9 ⊢
        obtain ⟨T9, hT9⟩ : ∃ T9, T9 = T8.set (T.next + 2) (some [.int .i64 (v : Int)]) := ⟨_, rfl⟩
        rw [← hT9] at u3 E9 b9
        have trr : ∀ x : Int, ctlW.tr T (.tup [.int .i64 x, .int .i64 0]) T9 = (.tup [.int .i64 x, .int .i64 0], T) := fun x => tr_S rfl E9
        unfold clsS
        by_cases v2 : v < 2
        · have x2 : (v : Int) < 2 := by omega
          simp only [bO_s, gB_t, asBool_b, asInt_i, asAgg_a, asTup_a, asStr_s, asCons_c, nthA_0, nthA_s, aggCells_a, addV_p, seeV_p, seeV_i, same_nil, tr_same, eql4, neq4, decide_true, decide_false, Bool.false_eq_true, if_false, if_true, Bool.not_true, Bool.not_false, Bool.and_true, Bool.true_and, Bool.and_self, List.getElem?_cons_zero, List.getElem?_cons_succ, Nat.zero_add, Nat.add_zero, beq_self_eq_true, bne_self_eq_false, Int.reduceBNe, Int.reduceBEq, Int.reduceLT, Int.reduceGT, Int.reduceLE, Int.reduceGE, Nat.reduceAdd, Nat.reduceMul, Nat.reduceLeDiff, sel, b1, g0, h3b, alloc_next, m2, ← hT6, u1, u2, k1, k2, bt8, bs8, t2b, w1, w2, u3, b9, trr, x2, v2]
          rfl
        · have x2 : ¬ (v : Int) < 2 := by omega
          by_cases v4 : v < 4
          · have x4 : (v : Int) < 4 := by omega
            simp only [bO_s, gB_t, asBool_b, asInt_i, asAgg_a, asTup_a, asStr_s, asCons_c, nthA_0, nthA_s, aggCells_a, addV_p, seeV_p, seeV_i, same_nil, tr_same, eql4, neq4, decide_true, decide_false, Bool.false_eq_true, if_false, if_true, Bool.not_true, Bool.not_false, Bool.and_true, Bool.true_and, Bool.and_self, List.getElem?_cons_zero, List.getElem?_cons_succ, Nat.zero_add, Nat.add_zero, beq_self_eq_true, bne_self_eq_false, Int.reduceBNe, Int.reduceBEq, Int.reduceLT, Int.reduceGT, Int.reduceLE, Int.reduceGE, Nat.reduceAdd, Nat.reduceMul, Nat.reduceLeDiff, sel, b1, g0, h3b, alloc_next, m2, ← hT6, u1, u2, k1, k2, bt8, bs8, t2b, w1, w2, u3, b9, trr, x2, v2, x4, v4]
            rfl
          · have x4 : ¬ (v : Int) < 4 := by omega
            by_cases v8 : v < 8
            · have x8 : (v : Int) < 8 := by omega
              simp only [bO_s, gB_t, asBool_b, asInt_i, asAgg_a, asTup_a, asStr_s, asCons_c, nthA_0, nthA_s, aggCells_a, addV_p, seeV_p, seeV_i, same_nil, tr_same, eql4, neq4, decide_true, decide_false, Bool.false_eq_true, if_false, if_true, Bool.not_true, Bool.not_false, Bool.and_true, Bool.true_and, Bool.and_self, List.getElem?_cons_zero, List.getElem?_cons_succ, Nat.zero_add, Nat.add_zero, beq_self_eq_true, bne_self_eq_false, Int.reduceBNe, Int.reduceBEq, Int.reduceLT, Int.reduceGT, Int.reduceLE, Int.reduceGE, Nat.reduceAdd, Nat.reduceMul, Nat.reduceLeDiff, sel, b1, g0, h3b, alloc_next, m2, ← hT6, u1, u2, k1, k2, bt8, bs8, t2b, w1, w2, u3, b9, trr, x2, v2, x4, v4, x8, v8]
              rfl
            · have x8 : ¬ (v : Int) < 8 := by omega
              simp only [bO_s, gB_t, asBool_b, asInt_i, asAgg_a, asTup_a, asStr_s, asCons_c, nthA_0, nthA_s, aggCells_a, addV_p, seeV_p, seeV_i, same_nil, tr_same, eql4, neq4, decide_true, decide_false, Bool.false_eq_true, if_false, if_true, Bool.not_true, Bool.not_false, Bool.and_true, Bool.true_and, Bool.and_self, List.getElem?_cons_zero, List.getElem?_cons_succ, Nat.zero_add, Nat.add_zero, beq_self_eq_true, bne_self_eq_false, Int.reduceBNe, Int.reduceBEq, Int.reduceLT, Int.reduceGT, Int.reduceLE, Int.reduceGE, Nat.reduceAdd, Nat.reduceMul, Nat.reduceLeDiff, sel, b1, g0, h3b, alloc_next, m2, ← hT6, u1, u2, k1, k2, bt8, bs8, t2b, w1, w2, u3, b9, trr, x2, v2, x4, v4, x8, v8]
              rfl
      · have t2b : ((t : Int) == 2) = false := by simp; omega
        rw [if_neg ht2]
        have trr : ∀ x : Int, ctlW.tr T (.tup [.int .i64 x, .int .i64 0]) T8 = (.tup [.int .i64 x, .int .i64 0], T) := fun x => tr_S rfl E8
        unfold clsS
        by_cases v2 : s < 2
        · have x2 : (s : Int) < 2 := by omega
          simp only [bO_s, gB_t, asBool_b, asInt_i, asAgg_a, asTup_a, asStr_s, asCons_c, nthA_0, nthA_s, aggCells_a, addV_p, seeV_p, seeV_i, same_nil, tr_same, eql4, neq4, decide_true, decide_false, Bool.false_eq_true, if_false, if_true, Bool.not_true, Bool.not_false, Bool.and_true, Bool.true_and, Bool.and_self, List.getElem?_cons_zero, List.getElem?_cons_succ, Nat.zero_add, Nat.add_zero, beq_self_eq_true, bne_self_eq_false, Int.reduceBNe, Int.reduceBEq, Int.reduceLT, Int.reduceGT, Int.reduceLE, Int.reduceGE, Nat.reduceAdd, Nat.reduceMul, Nat.reduceLeDiff, sel, b1, g0, h3b, alloc_next, m2, ← hT6, u1, u2, k1, k2, bt8, bs8, t2b, trr, x2, v2]
          rfl
        · have x2 : ¬ (s : Int) < 2 := by omega
          by_cases v4 : s < 4
          · have x4 : (s : Int) < 4 := by omega
            simp only [bO_s, gB_t, asBool_b, asInt_i, asAgg_a, asTup_a, asStr_s, asCons_c, nthA_0, nthA_s, aggCells_a, addV_p, seeV_p, seeV_i, same_nil, tr_same, eql4, neq4, decide_true, decide_false, Bool.false_eq_true, if_false, if_true, Bool.not_true, Bool.not_false, Bool.and_true, Bool.true_and, Bool.and_self, List.getElem?_cons_zero, List.getElem?_cons_succ, Nat.zero_add, Nat.add_zero, beq_self_eq_true, bne_self_eq_false, Int.reduceBNe, Int.reduceBEq, Int.reduceLT, Int.reduceGT, Int.reduceLE, Int.reduceGE, Nat.reduceAdd, Nat.reduceMul, Nat.reduceLeDiff, sel, b1, g0, h3b, alloc_next, m2, ← hT6, u1, u2, k1, k2, bt8, bs8, t2b, trr, x2, v2, x4, v4]
            rfl
          · have x4 : ¬ (s : Int) < 4 := by omega
            by_cases v8 : s < 8
            · have x8 : (s : Int) < 8 := by omega
              simp only [bO_s, gB_t, asBool_b, asInt_i, asAgg_a, asTup_a, asStr_s, asCons_c, nthA_0, nthA_s, aggCells_a, addV_p, seeV_p, seeV_i, same_nil, tr_same, eql4, neq4, decide_true, decide_false, Bool.false_eq_true, if_false, if_true, Bool.not_true, Bool.not_false, Bool.and_true, Bool.true_and, Bool.and_self, List.getElem?_cons_zero, List.getElem?_cons_succ, Nat.zero_add, Nat.add_zero, beq_self_eq_true, bne_self_eq_false, Int.reduceBNe, Int.reduceBEq, Int.reduceLT, Int.reduceGT, Int.reduceLE, Int.reduceGE, Nat.reduceAdd, Nat.reduceMul, Nat.reduceLeDiff, sel, b1, g0, h3b, alloc_next, m2, ← hT6, u1, u2, k1, k2, bt8, bs8, t2b, trr, x2, v2, x4, v4, x8, v8]
              rfl
            · have x8 : ¬ (s : Int) < 8 := by omega
              simp only [bO_s, gB_t, asBool_b, asInt_i, asAgg_a, asTup_a, asStr_s, asCons_c, nthA_0, nthA_s, aggCells_a, addV_p, seeV_p, seeV_i, same_nil, tr_same, eql4, neq4, decide_true, decide_false, Bool.false_eq_true, if_false, if_true, Bool.not_true, Bool.not_false, Bool.and_true, Bool.true_and, Bool.and_self, List.getElem?_cons_zero, List.getElem?_cons_succ, Nat.zero_add, Nat.add_zero, beq_self_eq_true, bne_self_eq_false, Int.reduceBNe, Int.reduceBEq, Int.reduceLT, Int.reduceGT, Int.reduceLE, Int.reduceGE, Nat.reduceAdd, Nat.reduceMul, Nat.reduceLeDiff, sel, b1, g0, h3b, alloc_next, m2, ← hT6, u1, u2, k1, k2, bt8, bs8, t2b, trr, x2, v2, x4, v4, x8, v8]
              rfl
end Go.Ab.tNearU
