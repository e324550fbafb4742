/- The parts of a macroblock, and how great a difference is at a block: Pieces, Cover, size. -/
import Derived.Test.YtbmcdphiolidkaaDoorII6
import Derived.Test.YtbmcdphiolidkaaDoorIJ0p0
import Derived.Test.YtbmcdphiolidkaaDoorIJ0p1
import Derived.Test.YtbmcdphiolidkaaDoorIJ0p2
import Derived.Test.YtbmcdphiolidkaaDoorIJ0p3
set_option maxRecDepth 100000
set_option linter.unusedSimpArgs false
set_option linter.unusedVariables false
set_option linter.unusedSectionVars false
namespace Go.Ab.tNearU
open Go Go.Proofs

/-- What is known beforehand, with the parts. -/
structure KnownP (B : CallF) : Prop extends Known B where
  parts : ∀ args S, B f_kinds_parts 0 args S = (match ofSubs args with | some x => some (partsF x.1 x.2.1 x.2.2.1 x.2.2.2.1 x.2.2.2.2, S) | none => none)
  cov : ∀ {k a b c d p : Nat} S, p < (rects k a b c d).length → B f_kinds_Cover 0 [.int .u8 (Int.ofNat k), subs a b c d, iN p] S = some (covF k a b c d p, S)
theorem cn_base {B : CallF} {f : Nat} {args : List AV} {S : Heap} {r : AV × Heap} (e : B f 0 args S = some r) (k : Nat) : Cn B k f 0 args S = some r := by
  cases k with
  | zero => exact e
  | succ k => show (match B f 0 args S with | some r => some r | none => _) = _; rw [e]
def pErr (k a b c d : Nat) : Nat := match k with
  | 3 => 0
  | 4 => 0
  | 5 => 0
  | 6 => match Nat.blt a 4 && Nat.blt b 4 && Nat.blt c 4 && Nat.blt d 4 with
    | true => 0
    | false => 3
  | _ => 9
theorem qC_len (q : Nat) : ∀ (rs : List R4) (l : List AV), (qC q rs l).length = rs.length * 5 + l.length
  | [], l => by simp [qC]
  | r :: rs, l => by simp only [qC, List.length_cons, qC_len q rs l]; omega
theorem partsF_is (k a b c d : Nat) : ∃ l, partsF k a b c d = .tup [l, .int .i64 (pErr k a b c d : Int)] ∧ aLen Tryd.prog 106 l = some (.int .i64 ((rects k a b c d).length : Int)) ∧ noId (partsF k a b c d) = true := by
  match k with
  | 0 => exact ⟨_, rfl, by kernel_rfl, rfl⟩
  | 1 => exact ⟨_, rfl, by kernel_rfl, rfl⟩
  | 2 => exact ⟨_, rfl, by kernel_rfl, rfl⟩
  | 3 => exact ⟨_, rfl, by kernel_rfl, by kernel_rfl⟩
  | 4 => exact ⟨_, rfl, by kernel_rfl, by kernel_rfl⟩
  | 5 => exact ⟨_, rfl, by kernel_rfl, by kernel_rfl⟩
  | 6 =>
    unfold partsF pErr rects
    cases (Nat.blt a 4 && Nat.blt b 4 && Nat.blt c 4 && Nat.blt d 4) with
    | true =>
      refine ⟨_, rfl, ?_, ?_⟩
      · show aLen Tryd.prog 106 (.is _ _) = _
        kernel_rfl
      · have hn : ∀ (q : Nat) (rs : List R4) (l : List AV), noIdL l = true → noIdL (qC q rs l) = true := by
          intro q rs
          induction rs with
          | nil => intro l h; exact h
          | cons r rs ih => intro l h; simp only [qC, noIdL, iN, Go.Ab.noId, ih l h, Bool.and_self]
        show noId (.tup [.is _ (rc6 a b c d), .int .i64 0]) = true
        have := hn 0 (qL 0 a) _ (hn 1 (qL 1 b) _ (hn 2 (qL 2 c) _ (hn 3 (qL 3 d) [] rfl)))
        simp only [Go.Ab.noId, noIdL, rc6, this, Bool.and_self]
    | false => exact ⟨_, rfl, by kernel_rfl, rfl⟩
  | k + 7 => exact ⟨_, rfl, by kernel_rfl, rfl⟩
-- a quarter divided in a way that is none
theorem five {l : List AV} (h : ints l) (hl : l.length = 5) : ∃ a b c d e, l = [.int .i64 a, .int .i64 b, .int .i64 c, .int .i64 d, .int .i64 e] := by
  match l, hl with
  | [v, w, x, y, z], _ =>
    obtain ⟨a, rfl⟩ := h v (by simp)
    obtain ⟨b, rfl⟩ := h w (by simp)
    obtain ⟨c, rfl⟩ := h x (by simp)
    obtain ⟨d, rfl⟩ := h y (by simp)
    obtain ⟨e, rfl⟩ := h z (by simp)
    exact ⟨a, b, c, d, e, rfl⟩
theorem quart {s : Nat} (hs : s < 4) : ∃ n cs, Gcells0[s]? = some (.is n cs) ∧ cs.length = n * 5 ∧ n ≤ 4 ∧ ints cs := by
  match s, hs with
  | 0, _ => exact ⟨_, _, rfl, rfl, by decide, fun c hc => by simp at hc; rcases hc with rfl | rfl | rfl | rfl | rfl <;> exact ⟨_, rfl⟩⟩
  | 1, _ => exact ⟨_, _, rfl, rfl, by decide, fun c hc => by simp at hc; rcases hc with rfl | rfl | rfl | rfl | rfl | rfl | rfl | rfl | rfl | rfl <;> exact ⟨_, rfl⟩⟩
  | 2, _ => exact ⟨_, _, rfl, rfl, by decide, fun c hc => by simp at hc; rcases hc with rfl | rfl | rfl | rfl | rfl | rfl | rfl | rfl | rfl | rfl <;> exact ⟨_, rfl⟩⟩
  | 3, _ => exact ⟨_, _, rfl, rfl, by decide, fun c hc => by simp at hc; rcases hc with rfl | rfl | rfl | rfl | rfl | rfl | rfl | rfl | rfl | rfl | rfl | rfl | rfl | rfl | rfl | rfl | rfl | rfl | rfl | rfl <;> exact ⟨_, rfl⟩⟩
/-- A list of parts that grows. -/
def LV (S T : Heap) (l : AV) (n : Nat) : Prop := Ext S T ∧ ((l = .nils) ∨ ∃ id m cs, l = .hs id 0 m 5 ∧ S.next ≤ id ∧ T.blk id = some cs ∧ cs.length = m * 5 ∧ m ≤ n)
theorem LV.mono {S T : Heap} {l : AV} {n n' : Nat} (h : LV S T l n) (hn : n ≤ n') : LV S T l n' := ⟨h.1, h.2.imp id fun ⟨i, m, cs, h1, h2, h3, h4, h5⟩ => ⟨i, m, cs, h1, h2, h3, h4, by omega⟩⟩
theorem LV.add {S T : Heap} {l : AV} {n : Nat} (h : LV S T l n) (hn : n ≤ 500) {new : List AV} (hl : new.length = 5) (hc : new.all cell = true) : ∃ l' T', aAppend 5 40 l (.is 1 new) T = some (l', T') ∧ LV S T' l' (n + 1) := by
  rcases h.2 with rfl | ⟨id, m, cs, rfl, h2, h3, h4, h5⟩
  · exact ⟨_, _, app_nil (n := 1) (by omega) (by omega) (room (by omega) (by omega)) (room1 (by omega)), h.1.trans (Ext.alloc T _), .inr ⟨T.next, 1, new, rfl, h.1.1, alloc_blk T _, by omega, by omega⟩⟩
  · exact ⟨_, _, app_hs (n := 1) h3 (by omega) (by omega) (by omega) (room (by omega) (by omega)) (room1 (by omega)) hc, (h.1.set h2 none).trans (Ext.alloc _ _), .inr ⟨T.next, m + 1, cs ++ new, rfl, h.1.1, alloc_blk (T.set id none) _, by rw [List.length_append]; omega, by omega⟩⟩
set_option maxHeartbeats 1000000 in
theorem parts_bad {B : CallF} (k : Nat) {s : Nat → Nat} (hbad : ∃ q, q < 4 ∧ 3 < s q) (S : Heap) (hB : B f_kinds_parts 0 [.int .u8 6, subs (s 0) (s 1) (s 2) (s 3)] S = none) : Cn B (k + 1) f_kinds_parts 0 [.int .u8 6, subs (s 0) (s 1) (s 2) (s 3)] S = some (.tup [.nils, .int .i64 3], S) := by
  rw [c_kinds_parts _ _ _ _ _ hB, T_kinds_parts]
  have h4 : (4 : Nat) ≤ 4 := by omega
  have n3 : ((6 : Int) == 3) = false := rfl
  have n4 : ((6 : Int) == 4) = false := rfl
  have n5 : ((6 : Int) == 5) = false := rfl
  have n6 : ((6 : Int) == 6) = true := rfl
  unfold subs
  obtain ⟨sl, hsl⟩ : ∃ sl : List AV, sl = [.int .u8 (Int.ofNat (s 0)), .int .u8 (Int.ofNat (s 1)), .int .u8 (Int.ofNat (s 2)), .int .u8 (Int.ofNat (s 3))] := ⟨_, rfl⟩
  rw [← hsl]
  have l4 : sl.length = 4 := by rw [hsl]; rfl
  have t4 : List.take 4 sl = sl := by rw [hsl]; rfl
  have hat : ∀ i, i < 4 → sl[i]? = some (.int .u8 (Int.ofNat (s i))) := fun i hi => by
    rw [hsl]
    match i, hi with
    | 0, _ => rfl
    | 1, _ => rfl
    | 2, _ => rfl
    | 3, _ => rfl
  have hG : gAV Gk 0 = .iptr Gcells0 := rfl
  have fzn : ∀ T, fz 40 (.tup [.nils, .int .i64 3]) T = some (.tup [.nils, .int .i64 3], T) := fun _ => rfl
  have addI : ∀ (cs : List AV) (n : Nat), addV (.iptr cs) n = some (.iptr (cs.drop n)) := fun _ _ => rfl
  simp only [bO_s, gB_t, asBool_b, asInt_i, asAgg_a, asTup_a, asStr_s, asCons_c, nthA_0, nthA_s, aggCells_a, addV_p, seeV_p, seeV_i, same_nil, tr_same, eql4, neq4, decide_true, decide_false, Bool.false_eq_true, if_false, if_true, Bool.not_true, Bool.not_false, Bool.and_true, Bool.true_and, Bool.and_self, List.getElem?_cons_zero, List.getElem?_cons_succ, Nat.zero_add, Nat.add_zero, beq_self_eq_true, bne_self_eq_false, Int.reduceBNe, Int.reduceBEq, Int.reduceLT, Int.reduceGT, Int.reduceLE, Int.reduceGE, Nat.reduceAdd, Nat.reduceMul, Nat.reduceLeDiff, n3, n4, n5, n6, l4, h4, List.drop_zero, t4]
  refine loop_ex (fun (o : Option (AV × Heap)) => o = some (.tup [.nils, .int .i64 3], S))
    (fun i st => ∃ l T, st = ([l, .agg sl, .int .i64 (i : Int)], T) ∧ LV S T l (4 * i) ∧ ∀ j, j < i → s j ≤ 3)
    (fun x => ∃ T, x = (1, [.nils, .int .i64 3], T) ∧ Ext S T) 4 ⟨.nils, S, rfl, ⟨Ext.refl S, .inl rfl⟩, fun j hj => absurd hj (Nat.not_lt_zero _)⟩ ?_ ?_
  · rintro i st hi ⟨l, T, rfl, hLV, hok⟩
    by_cases hin : i < 4
    · have hlt : (i : Int) < 4 := by omega
      have hlt' : (i : Int) < ((4 : Nat) : Int) := by omega
      have hge : (0 : Int) ≤ (i : Int) := by omega
      have hw : IntKind.wrap .i64 ((i : Int) + 1) = ((i + 1 : Nat) : Int) := by rw [wr _ (by omega)]; omega
      have htn : Int.toNat (i : Int) = i := rfl
      have hsi := hat i hin
      by_cases hb : 3 < s i
      · have hgt : (Int.ofNat (s i) : Int) > 3 := by show ((s i : Nat) : Int) > 3; omega
        exact .inl ⟨(1, [.nils, .int .i64 3], T), by simp only [bO_s, gB_t, asBool_b, asInt_i, asAgg_a, asTup_a, asStr_s, asCons_c, nthA_0, nthA_s, aggCells_a, addV_p, seeV_p, seeV_i, same_nil, tr_same, eql4, neq4, decide_true, decide_false, Bool.false_eq_true, if_false, if_true, Bool.not_true, Bool.not_false, Bool.and_true, Bool.true_and, Bool.and_self, List.getElem?_cons_zero, List.getElem?_cons_succ, Nat.zero_add, Nat.add_zero, beq_self_eq_true, bne_self_eq_false, Int.reduceBNe, Int.reduceBEq, Int.reduceLT, Int.reduceGT, Int.reduceLE, Int.reduceGE, Nat.reduceAdd, Nat.reduceMul, Nat.reduceLeDiff, hlt, hlt', hge, htn, Nat.mul_one, hsi, hgt], T, rfl, hLV.1⟩
      · have hgt : ¬ ((Int.ofNat (s i) : Int) > 3) := by show ¬ (((s i : Nat) : Int) > 3); omega
        have hge2 : (0 : Int) ≤ Int.ofNat (s i) := Int.natCast_nonneg _
        have hlt2 : (Int.ofNat (s i) : Int) < ((4 : Nat) : Int) := by show ((s i : Nat) : Int) < _; omega
        have htn2 : Int.toNat (Int.ofNat (s i)) = s i := rfl
        obtain ⟨n, cs, g1, g2, g3, g4⟩ := quart (show s i < 4 by omega)
        have gd : (List.drop (s i) Gcells0)[0]? = some (.is n cs) := by rw [List.getElem?_drop, Nat.add_zero]; exact g1
        have gl : aLen Tryd.prog 106 (.is n cs) = some (.int .i64 (n : Int)) := by kernel_rfl
        refine .inr ⟨hin, ?_⟩
        simp only [bO_s, gB_t, asBool_b, asInt_i, asAgg_a, asTup_a, asStr_s, asCons_c, nthA_0, nthA_s, aggCells_a, addV_p, seeV_p, seeV_i, same_nil, tr_same, eql4, neq4, decide_true, decide_false, Bool.false_eq_true, if_false, if_true, Bool.not_true, Bool.not_false, Bool.and_true, Bool.true_and, Bool.and_self, List.getElem?_cons_zero, List.getElem?_cons_succ, Nat.zero_add, Nat.add_zero, beq_self_eq_true, bne_self_eq_false, Int.reduceBNe, Int.reduceBEq, Int.reduceLT, Int.reduceGT, Int.reduceLE, Int.reduceGE, Nat.reduceAdd, Nat.reduceMul, Nat.reduceLeDiff, hlt, hlt', hge, htn, Nat.mul_one, hsi, hgt, hge2, hlt2, htn2, hG, addI, gd, gl]
        refine loop_ex (fun (o : Option (LSt ⊕ (Nat × LSt))) => ∃ s', o = some (.inl s') ∧ ∃ l T, s' = ([l, .agg sl, .int .i64 ((i + 1 : Nat) : Int)], T) ∧ LV S T l (4 * (i + 1)) ∧ ∀ j, j < i + 1 → s j ≤ 3)
          (fun kk st => ∃ l T, st = ([l, .int .i64 (i : Int), .agg sl, .int .i64 (i : Int), .is n cs, .int .i64 (n : Int), .int .i64 (kk : Int)], T) ∧ LV S T l (4 * i + kk))
          (fun x => ∃ l T, x = (0, [l, .agg sl, .int .i64 (i : Int)], T) ∧ LV S T l (4 * i + n)) n ⟨l, T, rfl, hLV⟩ ?_ ?_
        · rintro kk st hk ⟨l, T, rfl, hLV⟩
          by_cases hkn : kk < n
          · have hkl : (kk : Int) < (n : Int) := by omega
            have hwk : IntKind.wrap .i64 ((kk : Int) + 1) = ((kk + 1 : Nat) : Int) := by rw [wr _ (by omega)]; omega
            have hix : aIdx 5 (.is n cs) (kk : Int) = some (.iptr (cs.drop (kk * 5))) := by simp [aIdx, hkn]
            have hl5 : 5 ≤ (cs.drop (kk * 5)).length := by rw [List.length_drop]; omega
            obtain ⟨v0, v1, v2, v3, v4, hv⟩ := five (l := (cs.drop (kk * 5)).take 5) (fun c hc => g4 c (List.mem_of_mem_drop (List.mem_of_mem_take hc))) (by rw [List.length_take]; omega)
            have c5 : ∀ a b c d e : Int, ([.int .i64 a, .int .i64 b, .int .i64 c, .int .i64 d, .int .i64 e] : List AV).length = 5 := fun _ _ _ _ _ => rfl
            have k5 : ∀ a b c d e : Int, ([.int .i64 a, .int .i64 b, .int .i64 c, .int .i64 d, .int .i64 e] : List AV).all cell = true := fun _ _ _ _ _ => rfl
            have z5 : ∀ a b c d e : Int, setCells [.int .i64 0, .int .i64 0, .int .i64 0, .int .i64 0, .int .i64 0] 0 ([.int .i64 a, .int .i64 b, .int .i64 c, .int .i64 d, .int .i64 e] : List AV) = [.int .i64 a, .int .i64 b, .int .i64 c, .int .i64 d, .int .i64 e] := fun _ _ _ _ _ => rfl
            have h5 : (5 : Nat) ≤ 5 := by omega
            obtain ⟨l', T', ap, hLV'⟩ := hLV.add (by omega) (c5 (IntKind.wrap .i64 (v0 + (IntKind.wrap .i64 (2 * (Int.tmod (i : Int) 2))))) (IntKind.wrap .i64 (v1 + (IntKind.wrap .i64 (2 * (IntKind.wrap .i64 (Int.tdiv (i : Int) 2)))))) v2 v3 (i : Int)) (k5 _ _ _ _ _)
            refine .inr ⟨hkn, ([l', .int .i64 (i : Int), .agg sl, .int .i64 (i : Int), .is n cs, .int .i64 (n : Int), .int .i64 ((kk + 1 : Nat) : Int)], T'), ?_, l', T', rfl, hLV'⟩
            simp only [bO_s, gB_t, asBool_b, asInt_i, asAgg_a, asTup_a, asStr_s, asCons_c, nthA_0, nthA_s, aggCells_a, addV_p, seeV_p, seeV_i, same_nil, tr_same, eql4, neq4, decide_true, decide_false, Bool.false_eq_true, if_false, if_true, Bool.not_true, Bool.not_false, Bool.and_true, Bool.true_and, Bool.and_self, List.getElem?_cons_zero, List.getElem?_cons_succ, Nat.zero_add, Nat.add_zero, beq_self_eq_true, bne_self_eq_false, Int.reduceBNe, Int.reduceBEq, Int.reduceLT, Int.reduceGT, Int.reduceLE, Int.reduceGE, Nat.reduceAdd, Nat.reduceMul, Nat.reduceLeDiff, hkl, hix, List.drop_zero, hl5, hv, c5, k5, z5, h5, ap, hwk]
          · have hkl : ¬ (kk : Int) < (n : Int) := by omega
            have : kk = n := by omega
            subst this
            exact .inl ⟨_, by simp only [bO_s, gB_t, asBool_b, asInt_i, asAgg_a, asTup_a, asStr_s, asCons_c, nthA_0, nthA_s, aggCells_a, addV_p, seeV_p, seeV_i, same_nil, tr_same, eql4, neq4, decide_true, decide_false, Bool.false_eq_true, if_false, if_true, Bool.not_true, Bool.not_false, Bool.and_true, Bool.true_and, Bool.and_self, List.getElem?_cons_zero, List.getElem?_cons_succ, Nat.zero_add, Nat.add_zero, beq_self_eq_true, bne_self_eq_false, Int.reduceBNe, Int.reduceBEq, Int.reduceLT, Int.reduceGT, Int.reduceLE, Int.reduceGE, Nat.reduceAdd, Nat.reduceMul, Nat.reduceLeDiff, hkl], l, T, rfl, hLV⟩
        · rintro x ⟨l, T, rfl, hLV⟩
          simp only [bO_s, gB_t, asBool_b, asInt_i, asAgg_a, asTup_a, asStr_s, asCons_c, nthA_0, nthA_s, aggCells_a, addV_p, seeV_p, seeV_i, same_nil, tr_same, eql4, neq4, decide_true, decide_false, Bool.false_eq_true, if_false, if_true, Bool.not_true, Bool.not_false, Bool.and_true, Bool.true_and, Bool.and_self, List.getElem?_cons_zero, List.getElem?_cons_succ, Nat.zero_add, Nat.add_zero, beq_self_eq_true, bne_self_eq_false, Int.reduceBNe, Int.reduceBEq, Int.reduceLT, Int.reduceGT, Int.reduceLE, Int.reduceGE, Nat.reduceAdd, Nat.reduceMul, Nat.reduceLeDiff, sel, hw]
          refine ⟨_, rfl, l, T, rfl, hLV.mono (by omega), fun j hj => ?_⟩
          by_cases hji : j = i
          · subst hji; omega
          · exact hok j (by omega)
    · obtain ⟨q, hq, hq3⟩ := hbad
      have := hok q (by omega)
      omega
  · rintro x ⟨T, rfl, hE⟩
    simp only [bO_s, gB_t, asBool_b, asInt_i, asAgg_a, asTup_a, asStr_s, asCons_c, nthA_0, nthA_s, aggCells_a, addV_p, seeV_p, seeV_i, same_nil, tr_same, eql4, neq4, decide_true, decide_false, Bool.false_eq_true, if_false, if_true, Bool.not_true, Bool.not_false, Bool.and_true, Bool.true_and, Bool.and_self, List.getElem?_cons_zero, List.getElem?_cons_succ, Nat.zero_add, Nat.add_zero, beq_self_eq_true, bne_self_eq_false, Int.reduceBNe, Int.reduceBEq, Int.reduceLT, Int.reduceGT, Int.reduceLE, Int.reduceGE, Nat.reduceAdd, Nat.reduceMul, Nat.reduceLeDiff, sel, fzn]
    rw [tr_S rfl hE]
end Go.Ab.tNearU
