/- How great a difference is at a block: Pieces, Cover, size. -/
import Derived.Test.YtbmcdphiolidkaaDoorIJ1
set_option maxRecDepth 100000
set_option linter.unusedSimpArgs false
set_option linter.unusedVariables false
set_option linter.unusedSectionVars false
namespace Go.Ab.tNearU
open Go Go.Proofs

theorem parts_c {B : CallF} (hB : KnownP B) (k : Nat) {kd : Nat} (hk : kd < 256) (a b c d : Nat) (S : Heap) : Cn B (k + 1) f_kinds_parts 0 [.int .u8 (kd : Int), subs a b c d] S = some (partsF kd a b c d, S) := by
  have hof : ofSubs [.int .u8 (kd : Int), subs a b c d] = (match Nat.blt kd 256 && (!Nat.beq kd 6 || (Nat.blt a 4 && Nat.blt b 4 && Nat.blt c 4 && Nat.blt d 4)) with | true => some (kd, a, b, c, d) | false => none) := rfl
  have hbl : Nat.blt kd 256 = true := by rw [Nat.blt_eq]; exact hk
  have hp := hB.parts [.int .u8 (kd : Int), subs a b c d] S
  rw [hof, hbl, Bool.true_and] at hp
  by_cases h6 : kd = 6
  · subst h6
    have hb6 : Nat.beq 6 6 = true := rfl
    rw [hb6, Bool.not_true, Bool.false_or] at hp
    cases hv : (Nat.blt a 4 && Nat.blt b 4 && Nat.blt c 4 && Nat.blt d 4) with
    | true =>
      rw [hv] at hp
      exact cn_base hp (k + 1)
    | false =>
      rw [hv] at hp
      have hF : partsF 6 a b c d = .tup [.nils, .int .i64 3] := by unfold partsF; rw [hv]; rfl
      rw [hF]
      have hbad : ∃ q, q < 4 ∧ 3 < (fun i => match i with | 0 => a | 1 => b | 2 => c | _ => d) q := by
        have nb : ∀ x : Nat, Nat.blt x 4 = false → 3 < x := fun x h => by
          rcases Nat.lt_or_ge x 4 with h' | h'
          · have : Nat.blt x 4 = true := by rw [Nat.blt_eq]; exact h'
            rw [h] at this; cases this
          · omega
        cases ha : Nat.blt a 4 with
        | false => exact ⟨0, by omega, nb a ha⟩
        | true => cases hb : Nat.blt b 4 with
          | false => exact ⟨1, by omega, nb b hb⟩
          | true => cases hc : Nat.blt c 4 with
            | false => exact ⟨2, by omega, nb c hc⟩
            | true => cases hd : Nat.blt d 4 with
              | false => exact ⟨3, by omega, nb d hd⟩
              | true => rw [ha, hb, hc, hd] at hv; cases hv
      exact parts_bad k hbad S hp
  · have hb6 : Nat.beq kd 6 = false := by
      cases h : Nat.beq kd 6 with
      | false => rfl
      | true => exact absurd (Nat.eq_of_beq_eq_true h) h6
    rw [hb6, Bool.not_false, Bool.true_or] at hp
    exact cn_base hp (k + 1)
theorem pieces_c {B : CallF} (hB : KnownP B) (k : Nat) {kd : Nat} (hk : kd < 256) (a b c d : Nat) (S : Heap) : Cn B (k + 2) f_kinds_Pieces 0 [.int .u8 (kd : Int), subs a b c d] S = some (.tup [.int .i64 ((rects kd a b c d).length : Int), .int .i64 (pErr kd a b c d : Int)], S) := by
  rw [c_kinds_Pieces _ _ _ _ _ (hB.no _ _ _ _ (by decide)), T_kinds_Pieces]
  have e := parts_c hB k hk a b c d S
  obtain ⟨l, h1, h2, _⟩ := partsF_is kd a b c d
  rw [h1] at e
  have h4 : (4 : Nat) ≤ 4 := by omega
  unfold subs at e ⊢
  obtain ⟨sl, hsl⟩ : ∃ sl : List AV, sl = [.int .u8 (Int.ofNat a), .int .u8 (Int.ofNat b), .int .u8 (Int.ofNat c), .int .u8 (Int.ofNat d)] := ⟨_, rfl⟩
  have l4 : sl.length = 4 := by rw [hsl]; rfl
  have t4 : List.take 4 sl = sl := by rw [hsl]; rfl
  rw [← hsl] at e ⊢
  simp only [bO_s, gB_t, asBool_b, asInt_i, asAgg_a, asTup_a, asStr_s, asCons_c, nthA_0, nthA_s, aggCells_a, addV_p, seeV_p, seeV_i, same_nil, tr_same, eql4, neq4, decide_true, decide_false, Bool.false_eq_true, if_false, if_true, Bool.not_true, Bool.not_false, Bool.and_true, Bool.true_and, Bool.and_self, List.getElem?_cons_zero, List.getElem?_cons_succ, Nat.zero_add, Nat.add_zero, beq_self_eq_true, bne_self_eq_false, Int.reduceBNe, Int.reduceBEq, Int.reduceLT, Int.reduceGT, Int.reduceLE, Int.reduceGE, Nat.reduceAdd, Nat.reduceMul, Nat.reduceLeDiff, l4, h4, List.drop_zero, t4, e, h2]
theorem rects_ok {k a b c d : Nat} (h : rects k a b c d ≠ []) : pErr k a b c d = 0 ∧ 3 ≤ k ∧ k ≤ 6 := by
  unfold rects at h
  unfold pErr
  split at h
  · exact ⟨rfl, by omega, by omega⟩
  · exact ⟨rfl, by omega, by omega⟩
  · exact ⟨rfl, by omega, by omega⟩
  · cases hv : (Nat.blt a 4 && Nat.blt b 4 && Nat.blt c 4 && Nat.blt d 4) with
    | true => exact ⟨rfl, by omega, by omega⟩
    | false => rw [hv] at h; exact absurd rfl h
  · exact absurd rfl h
/-- The bytes that say how the quarters are divided. -/
def sb (m : M) (i : Nat) : Nat := (m.pre.getD (19 + i) 0).toNat
def Bys (m : M) : Prop := ∀ i ∈ m.pre, 0 ≤ i ∧ i ≤ 255
def M.rects (m : M) : List R4 := Go.Ab.tNearU.rects m.kind (sb m 0) (sb m 1) (sb m 2) (sb m 3)
def M.cov (m : M) (p : Nat) : List Nat := covB m.kind (sb m 0) (sb m 1) (sb m 2) (sb m 3) p
def M.pErr (m : M) : Nat := Go.Ab.tNearU.pErr m.kind (sb m 0) (sb m 1) (sb m 2) (sb m 3)
theorem sub_is {m : M} (hp : m.pre.length = 23) (hb : Bys m) : AV.agg (List.take 4 (List.drop 19 m.cells)) = subs (sb m 0) (sb m 1) (sb m 2) (sb m 3) := by
  obtain ⟨p, hp'⟩ := pre23 hp
  have h : ∀ i, p i ∈ m.pre → Int.ofNat (p i).toNat = p i := fun i hi => Int.toNat_of_nonneg (hb _ hi).1
  have e : ∀ i, i < 4 → sb m i = (p (19 + i)).toNat := fun i hi => by
    unfold sb
    rw [hp']
    match i, hi with
    | 0, _ => rfl
    | 1, _ => rfl
    | 2, _ => rfl
    | 3, _ => rfl
  unfold subs
  rw [e 0 (by omega), e 1 (by omega), e 2 (by omega), e 3 (by omega)]
  rw [h 19 (by rw [hp']; simp), h (19 + 1) (by rw [hp']; simp), h (19 + 2) (by rw [hp']; simp), h (19 + 3) (by rw [hp']; simp)]
  unfold M.cells
  rw [hp']
  rfl
section
variable {B : CallF} (hB : KnownP B) (k : Nat) {m : M} (hg : Good 1000 m) (hb : Byt m) (hs : Bys m) (S : Heap)
include hB hg hb hs
theorem mpieces_c : Cn B (k + 2) f_kinds_Pieces 0 [.int .u8 (m.kind : Int), .agg (List.take 4 (List.drop 19 m.cells))] S = some (.tup [.int .i64 (m.rects.length : Int), .int .i64 (m.pErr : Int)], S) := by
  rw [sub_is hg.pre hs]
  exact pieces_c hB k (by have := kind_le hb; omega) _ _ _ _ S
theorem mcov_c {p : Nat} (hp : p < m.rects.length) : Cn B k f_kinds_Cover 0 [.int .u8 (m.kind : Int), .agg (List.take 4 (List.drop 19 m.cells)), .int .i64 (p : Int)] S = some (.tup [isN (m.cov p), .int .i64 0], S) := by
  rw [sub_is hg.pre hs]
  exact cn_base (hB.cov S hp) k
end
def absW (x : Int) : Int := if (IntKind.wrap .i64 (0 - x) : Int) > x then IntKind.wrap .i64 (0 - x) else x
def mvA (m : M) (p : Nat) (vert : Bool) : Int := absW (intOf (cut m.v)[2 * p + (if vert = true then 1 else 0)]?)
def sizeP (m : M) (blk : Nat) (vert : Bool) : Nat → Nat → Int
  | 0, _ => 0
  | n + 1, p => if blk ∈ m.cov p then mvA m p vert else sizeP m blk vert n (p + 1)
def sizeV (m : M) (blk : Nat) (vert : Bool) : Int := if isMv m.kind = true then sizeP m blk vert (min m.rects.length (rl m.v)) 0 else 0
theorem ix26 {N : Nat} {a : AV} (h : Row N 2 a) {i : Nat} (hi : i < rl a) : aIdx 2 a (i : Int) = some (.iptr ((cut a).drop (i * 2))) ∧ i * 2 + 1 < (cut a).length ∧ ints (cut a) := by
  obtain rfl | ⟨n, cs, rfl, h1, h2, h3⟩ := h
  · cases hi
  · have hi' : i < n := hi
    exact ⟨by simp [aIdx, hi', cut], by show _ < cs.length; omega, h3⟩
set_option maxHeartbeats 1000000 in
theorem size_c {B : CallF} (hB : KnownP B) (k : Nat) {m : M} (hg : Good 1000 m) (hb : Byt m) (hs : Bys m) (blk : Nat) (vert : Bool) (S : Heap) : Cn B (k + 3) f_inc_size 0 [.agg m.cells, .int .i64 (blk : Int), .bool vert] S = some (.int .i64 (sizeV m blk vert), S) := by
  rw [c_inc_size _ _ _ _ _ _ (hB.no _ _ _ _ (by decide)), T_inc_size]
  have l29 := M.len hg.pre
  have g0 := kind_0 hg hb
  have g24 := M.g24 hg.pre
  have h23 : (23 : Nat) ≤ 29 := by omega
  obtain ⟨q1, _, _⟩ := kinds3_c hB.toKnown (k + 2) (kind_le hb) S
  have q2 := mpieces_c hB k hg hb hs S
  have l26 := rl26 hg.v
  have hlv : rl m.v ≤ 1000 := by
    obtain h | ⟨n, cs, h, h1, _⟩ := hg.v
    · rw [h]; exact Nat.zero_le _
    · rw [h]; exact h1
  unfold sizeV
  simp only [bO_s, gB_t, asBool_b, asInt_i, asAgg_a, asTup_a, asStr_s, asCons_c, nthA_0, nthA_s, aggCells_a, addV_p, seeV_p, seeV_i, same_nil, tr_same, eql4, neq4, decide_true, decide_false, Bool.false_eq_true, if_false, if_true, Bool.not_true, Bool.not_false, Bool.and_true, Bool.true_and, Bool.and_self, List.getElem?_cons_zero, List.getElem?_cons_succ, Nat.zero_add, Nat.add_zero, beq_self_eq_true, bne_self_eq_false, Int.reduceBNe, Int.reduceBEq, Int.reduceLT, Int.reduceGT, Int.reduceLE, Int.reduceGE, Nat.reduceAdd, Nat.reduceMul, Nat.reduceLeDiff, l29, g0, q1]
  cases hmv : isMv m.kind with
  | false => simp only [bO_s, gB_t, asBool_b, asInt_i, asAgg_a, asTup_a, asStr_s, asCons_c, nthA_0, nthA_s, aggCells_a, addV_p, seeV_p, seeV_i, same_nil, tr_same, eql4, neq4, decide_true, decide_false, Bool.false_eq_true, if_false, if_true, Bool.not_true, Bool.not_false, Bool.and_true, Bool.true_and, Bool.and_self, List.getElem?_cons_zero, List.getElem?_cons_succ, Nat.zero_add, Nat.add_zero, beq_self_eq_true, bne_self_eq_false, Int.reduceBNe, Int.reduceBEq, Int.reduceLT, Int.reduceGT, Int.reduceLE, Int.reduceGE, Nat.reduceAdd, Nat.reduceMul, Nat.reduceLeDiff]
  | true =>
    simp only [bO_s, gB_t, asBool_b, asInt_i, asAgg_a, asTup_a, asStr_s, asCons_c, nthA_0, nthA_s, aggCells_a, addV_p, seeV_p, seeV_i, same_nil, tr_same, eql4, neq4, decide_true, decide_false, Bool.false_eq_true, if_false, if_true, Bool.not_true, Bool.not_false, Bool.and_true, Bool.true_and, Bool.and_self, List.getElem?_cons_zero, List.getElem?_cons_succ, Nat.zero_add, Nat.add_zero, beq_self_eq_true, bne_self_eq_false, Int.reduceBNe, Int.reduceBEq, Int.reduceLT, Int.reduceGT, Int.reduceLE, Int.reduceGE, Nat.reduceAdd, Nat.reduceMul, Nat.reduceLeDiff, h23, q2]
    refine loop_ex (fun (o : Option (AV × Heap)) => o = some (.int .i64 (sizeP m blk vert (min m.rects.length (rl m.v)) 0), S))
      (fun p s => s = ([.int .i64 (blk : Int), .bool vert, .agg m.cells, .int .i64 (m.rects.length : Int), .int .i64 (p : Int)], S) ∧ sizeP m blk vert (min m.rects.length (rl m.v)) 0 = sizeP m blk vert (min m.rects.length (rl m.v) - p) p)
      (fun x => (x = (0, [], S) ∧ sizeP m blk vert (min m.rects.length (rl m.v)) 0 = 0) ∨ x = (1, [.int .i64 (sizeP m blk vert (min m.rects.length (rl m.v)) 0)], S)) (min m.rects.length (rl m.v)) ⟨rfl, rfl⟩ ?_ ?_
    · rintro p s hp ⟨rfl, hinv⟩
      by_cases hlt : p < min m.rects.length (rl m.v)
      · have h1 : p < m.rects.length := by omega
        have h2 : p < rl m.v := by omega
        have h1' : (p : Int) < (m.rects.length : Int) := by omega
        have h2' : (p : Int) < (rl m.v : Int) := by omega
        have hw : IntKind.wrap .i64 ((p : Int) + 1) = ((p + 1 : Nat) : Int) := by rw [wr _ (by omega)]; omega
        have hc := mcov_c hB (k + 2) hg hb hs S h1
        have hsub : min m.rects.length (rl m.v) - p = (min m.rects.length (rl m.v) - (p + 1)) + 1 := by omega
        rw [hsub, sizeP] at hinv
        obtain ⟨l, hl⟩ : ∃ l, l = m.cov p := ⟨_, rfl⟩
        rw [← hl] at hc hinv
        have l25 : aLen Tryd.prog 25 (isN l) = some (.int .i64 (l.length : Int)) := by kernel_rfl
        have hl16 : l.length ≤ 1000 := by
          rw [hl]
          unfold M.cov covB
          split
          · unfold blN
            exact Nat.le_trans (List.length_filter_le _ _) (by simp)
          · simp
        simp only [bO_s, gB_t, asBool_b, asInt_i, asAgg_a, asTup_a, asStr_s, asCons_c, nthA_0, nthA_s, aggCells_a, addV_p, seeV_p, seeV_i, same_nil, tr_same, eql4, neq4, decide_true, decide_false, Bool.false_eq_true, if_false, if_true, Bool.not_true, Bool.not_false, Bool.and_true, Bool.true_and, Bool.and_self, List.getElem?_cons_zero, List.getElem?_cons_succ, Nat.zero_add, Nat.add_zero, beq_self_eq_true, bne_self_eq_false, Int.reduceBNe, Int.reduceBEq, Int.reduceLT, Int.reduceGT, Int.reduceLE, Int.reduceGE, Nat.reduceAdd, Nat.reduceMul, Nat.reduceLeDiff, h1', g24, l26, h2', g0, l29, h23, hc, l25]
        have step : ∀ (W : Option (LSt ⊕ (Nat × LSt)) → Prop) (F : Nat × LSt → Option (LSt ⊕ (Nat × LSt))), (blk ∉ l → W (F (0, [.int .i64 (blk : Int), .bool vert, .agg m.cells, .int .i64 (m.rects.length : Int), .int .i64 (p : Int)], S))) → (blk ∈ l → W (F (1, [.int .i64 (mvA m p vert)], S))) → ∀ st, (∀ s, st s = (fun s43 => asInt .i64 (nthA s43.1 0) fun i44 => asBool (nthA s43.1 1) fun b45 => asInt .i64 (nthA s43.1 3) fun i46 => asInt .i64 (nthA s43.1 4) fun i47 => asInt .i64 (nthA s43.1 6) fun i48 => asInt .i64 (nthA s43.1 7) fun i49 => if decide ((i49 : Int) < i48) then bO (aIdx 1 (nthA s43.1 5) i49) fun t50 => bO (seeV t50 s43.2) fun t51 => bO (t51.1[t51.2]?) fun t52 => asInt .i64 t52 fun i53 => if (i53 : Int) != i44 then some (.inl ([.int .i64 i44, .bool b45, .agg (aggCells (nthA s43.1 2)), .int .i64 i46, .int .i64 i47, nthA s43.1 5, .int .i64 i48, .int .i64 (IntKind.wrap .i64 (i49 + 1))], s43.2)) else bO ((aggCells (nthA s43.1 2))[24]?) fun t54 => bO (aIdx 2 t54 i47) fun t55 => bO (addV t55 0) fun t56 => bO (seeV t56 s43.2) fun t57 => bO (t57.1[t57.2]?) fun t58 => asInt .i64 t58 fun i59 => bO (α := LSt) (if b45 then bO ((aggCells (nthA s43.1 2))[24]?) fun t61 => bO (aIdx 2 t61 i47) fun t62 => bO (addV t62 1) fun t63 => bO (seeV t63 s43.2) fun t64 => bO (t64.1[t64.2]?) fun t65 => asInt .i64 t65 fun i66 => some ([.int .i64 i66], s43.2) else some ([.int .i64 i59], s43.2)) fun r60 => asInt .i64 (nthA r60.1 0) fun i67 => some (.inr (1, [.int .i64 ((if ((IntKind.wrap .i64 (0 - i67)) : Int) > i67 then (IntKind.wrap .i64 (0 - i67)) else i67))], r60.2)) else some (.inr (0, [.int .i64 i44, .bool b45, .agg (aggCells (nthA s43.1 2)), .int .i64 i46, .int .i64 i47], s43.2)) : LSt → Option (LSt ⊕ (Nat × LSt))) s) →
            W (bO (ctlW.loop st ([.int .i64 (blk : Int), .bool vert, .agg m.cells, .int .i64 (m.rects.length : Int), .int .i64 (p : Int), isN l, .int .i64 (l.length : Int), .int .i64 0], S)) F) := by
          intro W F w0 w1 st hst
          have := funext hst
          subst this
          refine loop_ex W (fun i s => s = ([.int .i64 (blk : Int), .bool vert, .agg m.cells, .int .i64 (m.rects.length : Int), .int .i64 (p : Int), isN l, .int .i64 (l.length : Int), .int .i64 (i : Int)], S) ∧ blk ∉ l.take i)
            (fun x => (x = (0, [.int .i64 (blk : Int), .bool vert, .agg m.cells, .int .i64 (m.rects.length : Int), .int .i64 (p : Int)], S) ∧ blk ∉ l) ∨ (x = (1, [.int .i64 (mvA m p vert)], S) ∧ blk ∈ l)) l.length ⟨rfl, by simp⟩ ?_ ?_
          · rintro i s hi ⟨rfl, hno⟩
            by_cases hin : i < l.length
            · have hil : (i : Int) < (l.length : Int) := by omega
              have hwi : IntKind.wrap .i64 ((i : Int) + 1) = ((i + 1 : Nat) : Int) := by rw [wr _ (by omega)]; omega
              have hix : aIdx 1 (isN l) (i : Int) = some (.iptr ((l.map iN).drop i)) := by simp [aIdx, hin, isN]
              have hat : ((l.map iN).drop i)[0]? = some (.int .i64 (l[i] : Int)) := by
                rw [List.getElem?_drop, Nat.add_zero, List.getElem?_map, List.getElem?_eq_getElem hin]; rfl
              by_cases he : l[i] = blk
              · have hne : ((l[i] : Int) != (blk : Int)) = false := by rw [he]; simp
                obtain ⟨x1, x2, x3⟩ := ix26 hg.v h2
                obtain ⟨z0, hz0⟩ : ∃ z, (cut m.v)[p * 2]? = some (.int .i64 z) := ⟨_, ints_at x3 (by omega)⟩
                obtain ⟨z1, hz1⟩ : ∃ z, (cut m.v)[p * 2 + 1]? = some (.int .i64 z) := ⟨_, ints_at x3 (by omega)⟩
                have d0 : ((cut m.v).drop (p * 2))[0]? = some (.int .i64 z0) := by rw [List.getElem?_drop, Nat.add_zero]; exact hz0
                have d1 : ((cut m.v).drop (p * 2)).drop 1 = (cut m.v).drop (p * 2 + 1) := by rw [List.drop_drop]
                have d2 : ((cut m.v).drop (p * 2 + 1))[0]? = some (.int .i64 z1) := by rw [List.getElem?_drop, Nat.add_zero]; exact hz1
                have addI : ∀ (cs : List AV) (n : Nat), addV (.iptr cs) n = some (.iptr (cs.drop n)) := fun _ _ => rfl
                refine .inl ⟨(1, [.int .i64 (mvA m p vert)], S), ?_, .inr ⟨rfl, by rw [← he]; exact List.getElem_mem hin⟩⟩
                have hc2 : 2 * p = p * 2 := Nat.mul_comm _ _
                cases vert with
                | false =>
                  have hmv : mvA m p false = absW z0 := by
                    unfold mvA
                    rw [if_neg (by decide), Nat.add_zero, hc2, hz0]; rfl
                  rw [hmv]
                  unfold absW
                  simp only [bO_s, gB_t, asBool_b, asInt_i, asAgg_a, asTup_a, asStr_s, asCons_c, nthA_0, nthA_s, aggCells_a, addV_p, seeV_p, seeV_i, same_nil, tr_same, eql4, neq4, decide_true, decide_false, Bool.false_eq_true, if_false, if_true, Bool.not_true, Bool.not_false, Bool.and_true, Bool.true_and, Bool.and_self, List.getElem?_cons_zero, List.getElem?_cons_succ, Nat.zero_add, Nat.add_zero, beq_self_eq_true, bne_self_eq_false, Int.reduceBNe, Int.reduceBEq, Int.reduceLT, Int.reduceGT, Int.reduceLE, Int.reduceGE, Nat.reduceAdd, Nat.reduceMul, Nat.reduceLeDiff, hil, hix, hat, hne, g24, x1, addI, List.drop_zero, d0]
                | true =>
                  have hmv : mvA m p true = absW z1 := by
                    unfold mvA
                    rw [if_pos rfl, hc2, hz1]; rfl
                  rw [hmv]
                  unfold absW
                  simp only [bO_s, gB_t, asBool_b, asInt_i, asAgg_a, asTup_a, asStr_s, asCons_c, nthA_0, nthA_s, aggCells_a, addV_p, seeV_p, seeV_i, same_nil, tr_same, eql4, neq4, decide_true, decide_false, Bool.false_eq_true, if_false, if_true, Bool.not_true, Bool.not_false, Bool.and_true, Bool.true_and, Bool.and_self, List.getElem?_cons_zero, List.getElem?_cons_succ, Nat.zero_add, Nat.add_zero, beq_self_eq_true, bne_self_eq_false, Int.reduceBNe, Int.reduceBEq, Int.reduceLT, Int.reduceGT, Int.reduceLE, Int.reduceGE, Nat.reduceAdd, Nat.reduceMul, Nat.reduceLeDiff, hil, hix, hat, hne, g24, x1, addI, List.drop_zero, d0, d1, d2]
              · have hne : ((l[i] : Int) != (blk : Int)) = true := by rw [bne_iff_ne]; omega
                refine .inr ⟨hin, _, by simp only [bO_s, gB_t, asBool_b, asInt_i, asAgg_a, asTup_a, asStr_s, asCons_c, nthA_0, nthA_s, aggCells_a, addV_p, seeV_p, seeV_i, same_nil, tr_same, eql4, neq4, decide_true, decide_false, Bool.false_eq_true, if_false, if_true, Bool.not_true, Bool.not_false, Bool.and_true, Bool.true_and, Bool.and_self, List.getElem?_cons_zero, List.getElem?_cons_succ, Nat.zero_add, Nat.add_zero, beq_self_eq_true, bne_self_eq_false, Int.reduceBNe, Int.reduceBEq, Int.reduceLT, Int.reduceGT, Int.reduceLE, Int.reduceGE, Nat.reduceAdd, Nat.reduceMul, Nat.reduceLeDiff, hil, hix, hat, hne, hwi], rfl, ?_⟩
                rw [List.take_add_one, List.getElem?_eq_getElem hin, Option.toList_some, List.mem_append, List.mem_singleton]
                rintro (h | h)
                · exact hno h
                · exact he h.symm
            · have hil : ¬ (i : Int) < (l.length : Int) := by omega
              rw [List.take_of_length_le (by omega)] at hno
              exact .inl ⟨_, by simp only [bO_s, gB_t, asBool_b, asInt_i, asAgg_a, asTup_a, asStr_s, asCons_c, nthA_0, nthA_s, aggCells_a, addV_p, seeV_p, seeV_i, same_nil, tr_same, eql4, neq4, decide_true, decide_false, Bool.false_eq_true, if_false, if_true, Bool.not_true, Bool.not_false, Bool.and_true, Bool.true_and, Bool.and_self, List.getElem?_cons_zero, List.getElem?_cons_succ, Nat.zero_add, Nat.add_zero, beq_self_eq_true, bne_self_eq_false, Int.reduceBNe, Int.reduceBEq, Int.reduceLT, Int.reduceGT, Int.reduceLE, Int.reduceGE, Nat.reduceAdd, Nat.reduceMul, Nat.reduceLeDiff, hil], .inl ⟨rfl, hno⟩⟩
          · rintro x (⟨rfl, hno⟩ | ⟨rfl, hyes⟩)
            · exact w0 hno
            · exact w1 hyes
        by_cases hmem : blk ∈ l
        · rw [if_pos hmem] at hinv
          refine .inl ?_
          refine step (fun (o : Option (LSt ⊕ (Nat × LSt))) => ∃ x, o = some (.inr x) ∧ ((x = (0, [], S) ∧ _) ∨ x = (1, [.int .i64 (sizeP m blk vert (min m.rects.length (rl m.v)) 0)], S))) _ (fun h => absurd hmem h) (fun _ => ?_) _ (fun s => ?_)
          · simp only [bO_s, gB_t, asBool_b, asInt_i, asAgg_a, asTup_a, asStr_s, asCons_c, nthA_0, nthA_s, aggCells_a, addV_p, seeV_p, seeV_i, same_nil, tr_same, eql4, neq4, decide_true, decide_false, Bool.false_eq_true, if_false, if_true, Bool.not_true, Bool.not_false, Bool.and_true, Bool.true_and, Bool.and_self, List.getElem?_cons_zero, List.getElem?_cons_succ, Nat.zero_add, Nat.add_zero, beq_self_eq_true, bne_self_eq_false, Int.reduceBNe, Int.reduceBEq, Int.reduceLT, Int.reduceGT, Int.reduceLE, Int.reduceGE, Nat.reduceAdd, Nat.reduceMul, Nat.reduceLeDiff, sel]
            exact ⟨_, rfl, .inr (by rw [hinv])⟩
          · simp only [bO_s, gB_t, asBool_b, asInt_i, asAgg_a, asTup_a, asStr_s, asCons_c, nthA_0, nthA_s, aggCells_a, addV_p, seeV_p, seeV_i, same_nil, tr_same, eql4, neq4, decide_true, decide_false, Bool.false_eq_true, if_false, if_true, Bool.not_true, Bool.not_false, Bool.and_true, Bool.true_and, Bool.and_self, List.getElem?_cons_zero, List.getElem?_cons_succ, Nat.zero_add, Nat.add_zero, beq_self_eq_true, bne_self_eq_false, Int.reduceBNe, Int.reduceBEq, Int.reduceLT, Int.reduceGT, Int.reduceLE, Int.reduceGE, Nat.reduceAdd, Nat.reduceMul, Nat.reduceLeDiff]
        · rw [if_neg hmem] at hinv
          refine .inr ⟨hlt, ?_⟩
          refine step (fun (o : Option (LSt ⊕ (Nat × LSt))) => ∃ s', o = some (.inl s') ∧ (s' = ([.int .i64 (blk : Int), .bool vert, .agg m.cells, .int .i64 (m.rects.length : Int), .int .i64 ((p + 1 : Nat) : Int)], S) ∧ _)) _ (fun _ => ?_) (fun h => absurd h hmem) _ (fun s => ?_)
          · simp only [bO_s, gB_t, asBool_b, asInt_i, asAgg_a, asTup_a, asStr_s, asCons_c, nthA_0, nthA_s, aggCells_a, addV_p, seeV_p, seeV_i, same_nil, tr_same, eql4, neq4, decide_true, decide_false, Bool.false_eq_true, if_false, if_true, Bool.not_true, Bool.not_false, Bool.and_true, Bool.true_and, Bool.and_self, List.getElem?_cons_zero, List.getElem?_cons_succ, Nat.zero_add, Nat.add_zero, beq_self_eq_true, bne_self_eq_false, Int.reduceBNe, Int.reduceBEq, Int.reduceLT, Int.reduceGT, Int.reduceLE, Int.reduceGE, Nat.reduceAdd, Nat.reduceMul, Nat.reduceLeDiff, sel, hw]
            exact ⟨_, rfl, rfl, hinv⟩
          · simp only [bO_s, gB_t, asBool_b, asInt_i, asAgg_a, asTup_a, asStr_s, asCons_c, nthA_0, nthA_s, aggCells_a, addV_p, seeV_p, seeV_i, same_nil, tr_same, eql4, neq4, decide_true, decide_false, Bool.false_eq_true, if_false, if_true, Bool.not_true, Bool.not_false, Bool.and_true, Bool.true_and, Bool.and_self, List.getElem?_cons_zero, List.getElem?_cons_succ, Nat.zero_add, Nat.add_zero, beq_self_eq_true, bne_self_eq_false, Int.reduceBNe, Int.reduceBEq, Int.reduceLT, Int.reduceGT, Int.reduceLE, Int.reduceGE, Nat.reduceAdd, Nat.reduceMul, Nat.reduceLeDiff]
      · have h0 : min m.rects.length (rl m.v) - p = 0 := by omega
        rw [h0, sizeP] at hinv
        refine .inl ⟨(0, [], S), ?_, .inl ⟨rfl, hinv⟩⟩
        by_cases h1 : p < m.rects.length
        · have h1' : (p : Int) < (m.rects.length : Int) := by omega
          have h2' : ¬ ((p : Int) < (rl m.v : Int)) := by omega
          simp only [bO_s, gB_t, asBool_b, asInt_i, asAgg_a, asTup_a, asStr_s, asCons_c, nthA_0, nthA_s, aggCells_a, addV_p, seeV_p, seeV_i, same_nil, tr_same, eql4, neq4, decide_true, decide_false, Bool.false_eq_true, if_false, if_true, Bool.not_true, Bool.not_false, Bool.and_true, Bool.true_and, Bool.and_self, List.getElem?_cons_zero, List.getElem?_cons_succ, Nat.zero_add, Nat.add_zero, beq_self_eq_true, bne_self_eq_false, Int.reduceBNe, Int.reduceBEq, Int.reduceLT, Int.reduceGT, Int.reduceLE, Int.reduceGE, Nat.reduceAdd, Nat.reduceMul, Nat.reduceLeDiff, h1', g24, l26, h2']
        · have h1' : ¬ ((p : Int) < (m.rects.length : Int)) := by omega
          simp only [bO_s, gB_t, asBool_b, asInt_i, asAgg_a, asTup_a, asStr_s, asCons_c, nthA_0, nthA_s, aggCells_a, addV_p, seeV_p, seeV_i, same_nil, tr_same, eql4, neq4, decide_true, decide_false, Bool.false_eq_true, if_false, if_true, Bool.not_true, Bool.not_false, Bool.and_true, Bool.true_and, Bool.and_self, List.getElem?_cons_zero, List.getElem?_cons_succ, Nat.zero_add, Nat.add_zero, beq_self_eq_true, bne_self_eq_false, Int.reduceBNe, Int.reduceBEq, Int.reduceLT, Int.reduceGT, Int.reduceLE, Int.reduceGE, Nat.reduceAdd, Nat.reduceMul, Nat.reduceLeDiff, h1']
    · rintro x (⟨rfl, h0⟩ | rfl)
      · simp only [bO_s, gB_t, asBool_b, asInt_i, asAgg_a, asTup_a, asStr_s, asCons_c, nthA_0, nthA_s, aggCells_a, addV_p, seeV_p, seeV_i, same_nil, tr_same, eql4, neq4, decide_true, decide_false, Bool.false_eq_true, if_false, if_true, Bool.not_true, Bool.not_false, Bool.and_true, Bool.true_and, Bool.and_self, List.getElem?_cons_zero, List.getElem?_cons_succ, Nat.zero_add, Nat.add_zero, beq_self_eq_true, bne_self_eq_false, Int.reduceBNe, Int.reduceBEq, Int.reduceLT, Int.reduceGT, Int.reduceLE, Int.reduceGE, Nat.reduceAdd, Nat.reduceMul, Nat.reduceLeDiff, sel]
        rw [h0]
      · simp only [bO_s, gB_t, asBool_b, asInt_i, asAgg_a, asTup_a, asStr_s, asCons_c, nthA_0, nthA_s, aggCells_a, addV_p, seeV_p, seeV_i, same_nil, tr_same, eql4, neq4, decide_true, decide_false, Bool.false_eq_true, if_false, if_true, Bool.not_true, Bool.not_false, Bool.and_true, Bool.true_and, Bool.and_self, List.getElem?_cons_zero, List.getElem?_cons_succ, Nat.zero_add, Nat.add_zero, beq_self_eq_true, bne_self_eq_false, Int.reduceBNe, Int.reduceBEq, Int.reduceLT, Int.reduceGT, Int.reduceLE, Int.reduceGE, Nat.reduceAdd, Nat.reduceMul, Nat.reduceLeDiff, sel]
end Go.Ab.tNearU
