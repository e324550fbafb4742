/- The lists of parts of both sides, where one of the four bytes is above three: refused. No condition beyond what a call's arguments are. -/
import Derived.Test.YtomnllhlclpdjaaDoorKM
set_option maxRecDepth 100000
set_option linter.unusedSimpArgs false
set_option linter.unusedVariables false
set_option linter.unusedSectionVars false
namespace Go.Ab.tK
open Go Go.Proofs

theorem bloop {step : LSt → Option (LSt ⊕ (Nat × LSt))} {s : LSt} {α : Type} {f : Nat × LSt → Option α} :
    bO (ctlV.loop step s) f = (match step s with | some (.inl s') => bO (ctlV.loop step s') f | some (.inr x) => f x | none => none) := by
  show bO (loopW step s) f = _
  cases h : step s with
  | none =>
    have : loopW step s = none := by
      unfold loopW
      rw [dif_neg]
      rintro ⟨x, hx⟩
      cases hx with
      | done k => rw [h] at k; cases k
      | cont k _ => rw [h] at k; cases k
    rw [this]; rfl
  | some y =>
    cases y with
    | inl s' => simp only; rw [loopW_cont h]; rfl
    | inr x => simp only; rw [loopW_done h]; rfl
theorem loop_meas {step : LSt → Option (LSt ⊕ (Nat × LSt))} {α : Type} {f : Nat × LSt → Option α} {s0 : LSt} (W : Option α → Prop) (P : Nat → LSt → Prop) (m0 : Nat) (h0 : P m0 s0)
    (hs : ∀ m s, P m s → (∃ x, step s = some (.inr x) ∧ W (f x)) ∨ (∃ m' s', m' < m ∧ step s = some (.inl s') ∧ P m' s')) : W (bO (ctlV.loop step s0) f) := by
  induction m0 using Nat.strongRecOn generalizing s0 with
  | ind m ih =>
    rcases hs m s0 h0 with ⟨x, h1, h2⟩ | ⟨m', s', h1, h2, h3⟩
    · rw [bloop, h1]; exact h2
    · rw [bloop, h2]; exact ih m' h1 h3
theorem app_nil {es by' n : Nat} {cs : List AV} {S : Heap} (h0 : n ≠ 0) (hn : cs.length = n * es) (h1 : n * by' ≤ mostRoom) (h2 : n ≤ mostRoom) : aAppend es by' .nils (.is n cs) S = some (.hs S.next 0 n es, S.alloc cs) := by
  unfold aAppend rowOf
  simp only [hn, if_true]
  unfold aAppendN
  simp only [h0, if_false, h1, h2, and_self, if_true]
theorem app_hs {es by' id m n : Nat} {cs new : List AV} {S : Heap} (h : S.blk id = some cs) (hl : cs.length = m * es) (hn : new.length = n * es) (h0 : n ≠ 0) (hb : (m + n) * by' ≤ mostRoom) (hm : m + n ≤ mostRoom) (hc : new.all cell = true) :
    aAppend es by' (.hs id 0 m es) (.is n new) S = some (.hs S.next 0 (m + n) es, (S.set id none).alloc (cs ++ new)) := by
  unfold aAppend rowOf
  simp only [hn, if_true]
  unfold aAppendN
  simp only [h0, if_false, h, hl, Nat.zero_add, Nat.le_refl, hb, hm, hc, and_self, List.drop_zero, if_true]
  rw [List.take_of_length_le (by omega)]
theorem room {n b : Nat} (h : n ≤ 1000) (hb : b ≤ 1000) : n * b ≤ mostRoom := by
  have : n * b ≤ 1000 * 1000 := Nat.mul_le_mul h hb
  unfold mostRoom; omega
theorem room1 {n : Nat} (h : n ≤ 1000) : n ≤ mostRoom := by unfold mostRoom; omega
/-- A list that is built: none, or a block of the heap with so many rows. -/
def LOK (es : Nat) (T : Heap) (l : AV) (n : Nat) : Prop := (l = .nils ∧ n = 0) ∨ ∃ id cs, l = .hs id 0 n es ∧ T.blk id = some cs ∧ cs.length = n * es
theorem app_ok {es by' n m : Nat} {new : List AV} {l : AV} {T : Heap} (h : LOK es T l m) (hn : new.length = n * es) (h0 : n ≠ 0) (hc : new.all cell = true) (hm : m + n ≤ 1000) (hb : by' ≤ 1000) :
    ∃ l' T', aAppend es by' l (.is n new) T = some (l', T') ∧ LOK es T' l' (m + n) := by
  rcases h with ⟨rfl, rfl⟩ | ⟨id, cs, rfl, h1, h2⟩
  · refine ⟨_, _, app_nil h0 hn (room (by omega) hb) (room1 (by omega)), .inr ⟨T.next, new, by rw [Nat.zero_add], by simp [Heap.alloc], by rw [hn, Nat.zero_add]⟩⟩
  · exact ⟨_, _, app_hs h1 h2 hn h0 (room hm hb) (room1 hm) hc, .inr ⟨_, cs ++ new, rfl, by simp [Heap.alloc, Heap.set], by rw [List.length_append, h2, hn, Nat.add_mul]⟩⟩

section
variable {B : CallF} {k : Nat}
/-- The rows of a way to divide a quarter. -/
theorem rows_ok (s : Nat) (hs : s < 4) : ∃ M cells, (Gcells0.drop (s * 1))[0]? = some (.is M cells) ∧ 0 < M ∧ M ≤ 4 ∧ ∀ j, j < M → ∃ x y w h p : Int, j * 5 + 5 ≤ cells.length ∧ (cells.drop (j * 5)).take 5 = [.int .i64 x, .int .i64 y, .int .i64 w, .int .i64 h, .int .i64 p] := by
  match s, hs with
  | 0, _ => exact ⟨1, _, rfl, by omega, by omega, fun j hj => by
      match j, hj with
      | 0, _ => exact ⟨_, _, _, _, _, by decide, rfl⟩⟩
  | 1, _ => exact ⟨2, _, rfl, by omega, by omega, fun j hj => by
      match j, hj with
      | 0, _ => exact ⟨_, _, _, _, _, by decide, rfl⟩
      | 1, _ => exact ⟨_, _, _, _, _, by decide, rfl⟩⟩
  | 2, _ => exact ⟨2, _, rfl, by omega, by omega, fun j hj => by
      match j, hj with
      | 0, _ => exact ⟨_, _, _, _, _, by decide, rfl⟩
      | 1, _ => exact ⟨_, _, _, _, _, by decide, rfl⟩⟩
  | 3, _ => exact ⟨4, _, rfl, by omega, by omega, fun j hj => by
      match j, hj with
      | 0, _ => exact ⟨_, _, _, _, _, by decide, rfl⟩
      | 1, _ => exact ⟨_, _, _, _, _, by decide, rfl⟩
      | 2, _ => exact ⟨_, _, _, _, _, by decide, rfl⟩
      | 3, _ => exact ⟨_, _, _, _, _, by decide, rfl⟩⟩
theorem parts_bad {sf : Nat → Int} (hb : B f_kinds_parts 0 [.int .u8 6, .agg [.int .u8 (sf 0), .int .u8 (sf 1), .int .u8 (sf 2), .int .u8 (sf 3)]] S0 = none)
    (h : ∀ i : Nat, i < 4 → 0 ≤ sf i) (hbad : ∃ i : Nat, i < 4 ∧ sf i > 3) :
    ∃ T, Cn B (k + 1) f_kinds_parts 0 [.int .u8 6, .agg [.int .u8 (sf 0), .int .u8 (sf 1), .int .u8 (sf 2), .int .u8 (sf 3)]] S0 = some (.tup [.nils, .int .i64 3], T) := by
  rw [c_kinds_parts _ _ _ _ _ hb, T_kinds_parts]
  obtain ⟨L, hL⟩ : ∃ L : List AV, L = [.int .u8 (sf 0), .int .u8 (sf 1), .int .u8 (sf 2), .int .u8 (sf 3)] := ⟨_, rfl⟩
  have hget : ∀ i : Nat, i < 4 → L[i]? = some (.int .u8 (sf i)) := fun i h => by
    rw [hL]
    match i, h with
    | 0, _ => rfl
    | 1, _ => rfl
    | 2, _ => rfl
    | 3, _ => rfl
  have hll : L.length = 4 := by rw [hL]; rfl
  have hlt : List.take 4 (List.drop 0 L) = L := by rw [List.drop_zero, List.take_of_length_le (by omega)]
  rw [← hL]
  have h3 : ((6 : Int) == 3) = false := rfl
  have h4 : ((6 : Int) == 4) = false := rfl
  have h5 : ((6 : Int) == 5) = false := rfl
  have hle : (4 : Nat) ≤ 4 := by omega
  simp only [eql_b4, neq_b4, len_nils24, len_is24, len_hs24, len_nils25, len_is25, len_hs25, len_nils26, len_is26, len_hs26, len_nils51, len_is51, len_hs51, len_nils54, len_is54, len_hs54, len_nils57, len_is57, len_hs57, bO_s, gB_t, asBool_b, asInt_i, asAgg_a, asTup_a, asStr_s, asCons_c, asNil_n, nthA_0, nthA_s, aggCells_a, addV_p, addV_i, seeV_p, seeV_i, same_nil, same_1, same_2, tr_v, decide_true, decide_false, Bool.false_eq_true, if_false, if_true, Bool.not_true, Bool.not_false, Bool.and_true, Bool.true_and, Bool.and_self, List.getElem?_cons_zero, List.getElem?_cons_succ, Nat.zero_add, Nat.add_zero, beq_self_eq_true, bne_self_eq_false, Int.reduceBNe, Int.reduceBEq, Int.reduceLT, Int.reduceGT, Int.reduceLE, Int.reduceGE, Nat.reduceAdd, Nat.reduceMul, Nat.reduceLeDiff, hll, h3, h4, h5, hle, hlt]
  obtain ⟨ib, hib, hbad⟩ := hbad
  refine loop_meas (fun o => ∃ T, o = some (AV.tup [.nils, .int .i64 3], T)) (fun m st => ∃ (i n : Nat) (l : AV) (T : Heap), i + m = ib ∧ n ≤ 4 * i ∧ LOK 5 T l n ∧ st = ([l, .agg L, .int .i64 (i : Int)], T)) ib ⟨0, 0, .nils, S0, by omega, by omega, .inl ⟨rfl, rfl⟩, rfl⟩ ?_
  rintro m st ⟨i, n, l, T, him, hn, hl, rfl⟩
  have hi4 : i < 4 := by omega
  have c1 : (i : Int) < 4 := by omega
  have c2 : (0 : Int) ≤ (i : Int) := by omega
  have c3 : (i : Int) < ((4 : Nat) : Int) := by omega
  have g := hget i hi4
  have hs0 := h i hi4
  obtain ⟨s, hs⟩ : ∃ s, s = sf i := ⟨_, rfl⟩
  rw [← hs] at g hs0
  by_cases hs3 : s > 3
  · refine .inl ⟨(1, [.nils, .int .i64 3], T), by simp only [eql_b4, neq_b4, len_nils24, len_is24, len_hs24, len_nils25, len_is25, len_hs25, len_nils26, len_is26, len_hs26, len_nils51, len_is51, len_hs51, len_nils54, len_is54, len_hs54, len_nils57, len_is57, len_hs57, bO_s, gB_t, asBool_b, asInt_i, asAgg_a, asTup_a, asStr_s, asCons_c, asNil_n, nthA_0, nthA_s, aggCells_a, addV_p, addV_i, seeV_p, seeV_i, same_nil, same_1, same_2, tr_v, decide_true, decide_false, Bool.false_eq_true, if_false, if_true, Bool.not_true, Bool.not_false, Bool.and_true, Bool.true_and, Bool.and_self, List.getElem?_cons_zero, List.getElem?_cons_succ, Nat.zero_add, Nat.add_zero, beq_self_eq_true, bne_self_eq_false, Int.reduceBNe, Int.reduceBEq, Int.reduceLT, Int.reduceGT, Int.reduceLE, Int.reduceGE, Nat.reduceAdd, Nat.reduceMul, Nat.reduceLeDiff, c1, c2, c3, Int.toNat_natCast, Nat.mul_one, g, hs3], ⟨T, ?_⟩⟩
    rfl
  · obtain ⟨sn, hsn⟩ := Int.eq_ofNat_of_zero_le hs0
    obtain ⟨M, cells, r1, r2, r3, r4⟩ := rows_ok sn (by omega)
    have d1 : (sn : Int) < ((4 : Nat) : Int) := by omega
    have d2 : (0 : Int) ≤ (sn : Int) := by omega
    have d3 : ¬ (sn : Int) > 3 := by omega
    have hG : gAV Gk 0 = .iptr Gcells0 := rfl
    have him' : i < ib := by
      rcases Nat.lt_or_ge i ib with h | h
      · exact h
      · have : i = ib := by omega
        subst this; omega
    rw [hsn] at g
    refine .inr ?_
    simp only [eql_b4, neq_b4, len_nils24, len_is24, len_hs24, len_nils25, len_is25, len_hs25, len_nils26, len_is26, len_hs26, len_nils51, len_is51, len_hs51, len_nils54, len_is54, len_hs54, len_nils57, len_is57, len_hs57, bO_s, gB_t, asBool_b, asInt_i, asAgg_a, asTup_a, asStr_s, asCons_c, asNil_n, nthA_0, nthA_s, aggCells_a, addV_p, addV_i, seeV_p, seeV_i, same_nil, same_1, same_2, tr_v, decide_true, decide_false, Bool.false_eq_true, if_false, if_true, Bool.not_true, Bool.not_false, Bool.and_true, Bool.true_and, Bool.and_self, List.getElem?_cons_zero, List.getElem?_cons_succ, Nat.zero_add, Nat.add_zero, beq_self_eq_true, bne_self_eq_false, Int.reduceBNe, Int.reduceBEq, Int.reduceLT, Int.reduceGT, Int.reduceLE, Int.reduceGE, Nat.reduceAdd, Nat.reduceMul, Nat.reduceLeDiff, c1, c2, c3, Int.toNat_natCast, Nat.mul_one, g, d1, d2, d3, hG]
    rw [Nat.mul_one] at r1
    simp only [eql_b4, neq_b4, len_nils24, len_is24, len_hs24, len_nils25, len_is25, len_hs25, len_nils26, len_is26, len_hs26, len_nils51, len_is51, len_hs51, len_nils54, len_is54, len_hs54, len_nils57, len_is57, len_hs57, bO_s, gB_t, asBool_b, asInt_i, asAgg_a, asTup_a, asStr_s, asCons_c, asNil_n, nthA_0, nthA_s, aggCells_a, addV_p, addV_i, seeV_p, seeV_i, same_nil, same_1, same_2, tr_v, decide_true, decide_false, Bool.false_eq_true, if_false, if_true, Bool.not_true, Bool.not_false, Bool.and_true, Bool.true_and, Bool.and_self, List.getElem?_cons_zero, List.getElem?_cons_succ, Nat.zero_add, Nat.add_zero, beq_self_eq_true, bne_self_eq_false, Int.reduceBNe, Int.reduceBEq, Int.reduceLT, Int.reduceGT, Int.reduceLE, Int.reduceGE, Nat.reduceAdd, Nat.reduceMul, Nat.reduceLeDiff, r1]
    have w2 : IntKind.wrap .i64 ((i : Int) + 1) = ((i + 1 : Nat) : Int) := by rw [wr _ (by omega)]; omega
    refine loop_meas (fun o => ∃ m' s', m' < m ∧ o = some (Sum.inl s') ∧ ∃ (i n : Nat) (l : AV) (T : Heap), i + m' = ib ∧ n ≤ 4 * i ∧ LOK 5 T l n ∧ s' = ([l, .agg L, .int .i64 (i : Int)], T)) (fun m st => ∃ (j : Nat) (l : AV) (T : Heap), j + m = M ∧ LOK 5 T l (n + j) ∧ st = ([l, .int .i64 (i : Int), .agg L, .int .i64 (i : Int), .is M cells, .int .i64 (M : Int), .int .i64 (j : Int)], T)) M ⟨0, l, T, by omega, hl, rfl⟩ ?_
    rintro m2 st ⟨j, l, T, hjm, hl, rfl⟩
    by_cases hj : j < M
    · obtain ⟨x, y, w, hh, p, q1, q2⟩ := r4 j hj
      have e1 : (j : Int) < (M : Int) := by omega
      have e2 : aIdx 5 (.is M cells) (j : Int) = some (.iptr (cells.drop (j * 5))) := by
        have : (0 : Int) ≤ (j : Int) ∧ (j : Int) < (M : Int) := ⟨by omega, e1⟩
        simp only [aIdx, this, and_self, if_true, Int.toNat_natCast]
      have e3 : 5 ≤ (cells.drop (j * 5)).length := by rw [List.length_drop]; omega
      have e4 : List.take 5 (List.drop 0 (cells.drop (j * 5))) = [.int .i64 x, .int .i64 y, .int .i64 w, .int .i64 hh, .int .i64 p] := by rw [List.drop_zero]; exact q2
      have e5 : ([.int .i64 x, .int .i64 y, .int .i64 w, .int .i64 hh, .int .i64 p] : List AV).length = 5 := rfl
      have e6 : ([.int .i64 x, .int .i64 y, .int .i64 w, .int .i64 hh, .int .i64 p] : List AV).all cell = true := rfl
      have e7 : setCells [.int .i64 0, .int .i64 0, .int .i64 0, .int .i64 0, .int .i64 0] 0 [.int .i64 x, .int .i64 y, .int .i64 w, .int .i64 hh, .int .i64 p] = [.int .i64 x, .int .i64 y, .int .i64 w, .int .i64 hh, .int .i64 p] := rfl
      have hle5 : (5 : Nat) ≤ 5 := by omega
      obtain ⟨l', T', a1, a2⟩ := app_ok (by' := 40) (n := 1) (new := [.int .i64 (IntKind.wrap .i64 (x + (IntKind.wrap .i64 (2 * (Int.tmod (i : Int) 2))))), .int .i64 (IntKind.wrap .i64 (y + (IntKind.wrap .i64 (2 * (IntKind.wrap .i64 (Int.tdiv (i : Int) 2)))))), .int .i64 w, .int .i64 hh, .int .i64 (i : Int)]) hl rfl (by omega) rfl (by omega) (by omega)
      have w3 : IntKind.wrap .i64 ((j : Int) + 1) = ((j + 1 : Nat) : Int) := by rw [wr _ (by omega)]; omega
      refine .inr ⟨m2 - 1, ([l', .int .i64 (i : Int), .agg L, .int .i64 (i : Int), .is M cells, .int .i64 (M : Int), .int .i64 ((j + 1 : Nat) : Int)], T'), by omega, by simp only [eql_b4, neq_b4, len_nils24, len_is24, len_hs24, len_nils25, len_is25, len_hs25, len_nils26, len_is26, len_hs26, len_nils51, len_is51, len_hs51, len_nils54, len_is54, len_hs54, len_nils57, len_is57, len_hs57, bO_s, gB_t, asBool_b, asInt_i, asAgg_a, asTup_a, asStr_s, asCons_c, asNil_n, nthA_0, nthA_s, aggCells_a, addV_p, addV_i, seeV_p, seeV_i, same_nil, same_1, same_2, tr_v, decide_true, decide_false, Bool.false_eq_true, if_false, if_true, Bool.not_true, Bool.not_false, Bool.and_true, Bool.true_and, Bool.and_self, List.getElem?_cons_zero, List.getElem?_cons_succ, Nat.zero_add, Nat.add_zero, beq_self_eq_true, bne_self_eq_false, Int.reduceBNe, Int.reduceBEq, Int.reduceLT, Int.reduceGT, Int.reduceLE, Int.reduceGE, Nat.reduceAdd, Nat.reduceMul, Nat.reduceLeDiff, e1, e2, e3, e4, e5, e6, e7, hle5, a1, w3], j + 1, l', T', by omega, a2, rfl⟩
    · have hjM : j = M := by omega
      subst hjM
      have e1 : ¬ ((j : Int) < (j : Int)) := by omega
      refine .inl ⟨(0, [l, .agg L, .int .i64 (i : Int)], T), by simp only [eql_b4, neq_b4, len_nils24, len_is24, len_hs24, len_nils25, len_is25, len_hs25, len_nils26, len_is26, len_hs26, len_nils51, len_is51, len_hs51, len_nils54, len_is54, len_hs54, len_nils57, len_is57, len_hs57, bO_s, gB_t, asBool_b, asInt_i, asAgg_a, asTup_a, asStr_s, asCons_c, asNil_n, nthA_0, nthA_s, aggCells_a, addV_p, addV_i, seeV_p, seeV_i, same_nil, same_1, same_2, tr_v, decide_true, decide_false, Bool.false_eq_true, if_false, if_true, Bool.not_true, Bool.not_false, Bool.and_true, Bool.true_and, Bool.and_self, List.getElem?_cons_zero, List.getElem?_cons_succ, Nat.zero_add, Nat.add_zero, beq_self_eq_true, bne_self_eq_false, Int.reduceBNe, Int.reduceBEq, Int.reduceLT, Int.reduceGT, Int.reduceLE, Int.reduceGE, Nat.reduceAdd, Nat.reduceMul, Nat.reduceLeDiff, e1], m - 1, ([l, .agg L, .int .i64 ((i + 1 : Nat) : Int)], T), by omega, by simp only [eql_b4, neq_b4, len_nils24, len_is24, len_hs24, len_nils25, len_is25, len_hs25, len_nils26, len_is26, len_hs26, len_nils51, len_is51, len_hs51, len_nils54, len_is54, len_hs54, len_nils57, len_is57, len_hs57, bO_s, gB_t, asBool_b, asInt_i, asAgg_a, asTup_a, asStr_s, asCons_c, asNil_n, nthA_0, nthA_s, aggCells_a, addV_p, addV_i, seeV_p, seeV_i, same_nil, same_1, same_2, tr_v, decide_true, decide_false, Bool.false_eq_true, if_false, if_true, Bool.not_true, Bool.not_false, Bool.and_true, Bool.true_and, Bool.and_self, List.getElem?_cons_zero, List.getElem?_cons_succ, Nat.zero_add, Nat.add_zero, beq_self_eq_true, bne_self_eq_false, Int.reduceBNe, Int.reduceBEq, Int.reduceLT, Int.reduceGT, Int.reduceLE, Int.reduceGE, Nat.reduceAdd, Nat.reduceMul, Nat.reduceLeDiff, sel, w2], i + 1, n + j, l, T, by omega, by omega, hl, rfl⟩
theorem all_bad {sf : Nat → Int} (hb : B f_spindleref12_All 0 [.int .u8 6, .agg [.int .u8 (sf 0), .int .u8 (sf 1), .int .u8 (sf 2), .int .u8 (sf 3)]] S0 = none)
    (hq : ∀ i s : Nat, i < 4 → s < 4 → ∃ n cells, 0 < n ∧ n ≤ 4 ∧ cells.length = n * 2 ∧ cells.all cell = true ∧ ∀ S, Cn B k f_spindleref12_quarter 0 [.int .i64 (i : Int), .int .u8 (s : Int)] S = some (.is n cells, S))
    (h : ∀ i : Nat, i < 4 → 0 ≤ sf i) (hbad : ∃ i : Nat, i < 4 ∧ sf i > 3) :
    ∃ T, Cn B (k + 1) f_spindleref12_All 0 [.int .u8 6, .agg [.int .u8 (sf 0), .int .u8 (sf 1), .int .u8 (sf 2), .int .u8 (sf 3)]] S0 = some (.tup [.nils, .int .i64 3], T) := by
  rw [c_spindleref12_All _ _ _ _ _ hb, T_spindleref12_All]
  obtain ⟨L, hL⟩ : ∃ L : List AV, L = [.int .u8 (sf 0), .int .u8 (sf 1), .int .u8 (sf 2), .int .u8 (sf 3)] := ⟨_, rfl⟩
  have hget : ∀ i : Nat, i < 4 → L[i]? = some (.int .u8 (sf i)) := fun i h => by
    rw [hL]
    match i, h with
    | 0, _ => rfl
    | 1, _ => rfl
    | 2, _ => rfl
    | 3, _ => rfl
  have hll : L.length = 4 := by rw [hL]; rfl
  rw [← hL]
  have h3 : ((6 : Int) == 3) = false := rfl
  have h4 : ((6 : Int) == 4) = false := rfl
  have h5 : ((6 : Int) == 5) = false := rfl
  simp only [eql_b4, neq_b4, len_nils24, len_is24, len_hs24, len_nils25, len_is25, len_hs25, len_nils26, len_is26, len_hs26, len_nils51, len_is51, len_hs51, len_nils54, len_is54, len_hs54, len_nils57, len_is57, len_hs57, bO_s, gB_t, asBool_b, asInt_i, asAgg_a, asTup_a, asStr_s, asCons_c, asNil_n, nthA_0, nthA_s, aggCells_a, addV_p, addV_i, seeV_p, seeV_i, same_nil, same_1, same_2, tr_v, decide_true, decide_false, Bool.false_eq_true, if_false, if_true, Bool.not_true, Bool.not_false, Bool.and_true, Bool.true_and, Bool.and_self, List.getElem?_cons_zero, List.getElem?_cons_succ, Nat.zero_add, Nat.add_zero, beq_self_eq_true, bne_self_eq_false, Int.reduceBNe, Int.reduceBEq, Int.reduceLT, Int.reduceGT, Int.reduceLE, Int.reduceGE, Nat.reduceAdd, Nat.reduceMul, Nat.reduceLeDiff, hll, h3, h4, h5]
  obtain ⟨ib, hib, hbad⟩ := hbad
  refine loop_meas (fun o => ∃ T, o = some (AV.tup [.nils, .int .i64 3], T)) (fun m st => ∃ (i n : Nat) (l : AV) (T : Heap), i + m = ib ∧ n ≤ 4 * i ∧ LOK 2 T l n ∧ st = ([.agg L, l, .int .i64 (i : Int)], T)) ib ⟨0, 0, .nils, S0, by omega, by omega, .inl ⟨rfl, rfl⟩, rfl⟩ ?_
  rintro m st ⟨i, n, l, T, him, hn, hl, rfl⟩
  have hi4 : i < 4 := by omega
  have c1 : (i : Int) < 4 := by omega
  have c2 : (0 : Int) ≤ (i : Int) := by omega
  have c3 : (i : Int) < ((4 : Nat) : Int) := by omega
  have g := hget i hi4
  have hs0 := h i hi4
  obtain ⟨s, hs⟩ : ∃ s, s = sf i := ⟨_, rfl⟩
  rw [← hs] at g hs0
  by_cases hs3 : s > 3
  · refine .inl ⟨(1, [.nils, .int .i64 3], T), by simp only [eql_b4, neq_b4, len_nils24, len_is24, len_hs24, len_nils25, len_is25, len_hs25, len_nils26, len_is26, len_hs26, len_nils51, len_is51, len_hs51, len_nils54, len_is54, len_hs54, len_nils57, len_is57, len_hs57, bO_s, gB_t, asBool_b, asInt_i, asAgg_a, asTup_a, asStr_s, asCons_c, asNil_n, nthA_0, nthA_s, aggCells_a, addV_p, addV_i, seeV_p, seeV_i, same_nil, same_1, same_2, tr_v, decide_true, decide_false, Bool.false_eq_true, if_false, if_true, Bool.not_true, Bool.not_false, Bool.and_true, Bool.true_and, Bool.and_self, List.getElem?_cons_zero, List.getElem?_cons_succ, Nat.zero_add, Nat.add_zero, beq_self_eq_true, bne_self_eq_false, Int.reduceBNe, Int.reduceBEq, Int.reduceLT, Int.reduceGT, Int.reduceLE, Int.reduceGE, Nat.reduceAdd, Nat.reduceMul, Nat.reduceLeDiff, c1, c2, c3, Int.toNat_natCast, Nat.mul_one, g, hs3], ⟨T, ?_⟩⟩
    rfl
  · obtain ⟨sn, hsn⟩ := Int.eq_ofNat_of_zero_le hs0
    have d3 : ¬ (sn : Int) > 3 := by omega
    have him' : i < ib := by
      rcases Nat.lt_or_ge i ib with h | h
      · exact h
      · have : i = ib := by omega
        subst this; omega
    rw [hsn] at g
    obtain ⟨nq, cells, q1, q2, q3, q4, q5⟩ := hq i sn hi4 (by omega)
    obtain ⟨l', T', a1, a2⟩ := app_ok (by' := 32) hl q3 (by omega) q4 (by omega) (by omega)
    have w2 : IntKind.wrap .i64 ((i : Int) + 1) = ((i + 1 : Nat) : Int) := by rw [wr _ (by omega)]; omega
    refine .inr ⟨m - 1, ([.agg L, l', .int .i64 ((i + 1 : Nat) : Int)], T'), by omega, by simp only [eql_b4, neq_b4, len_nils24, len_is24, len_hs24, len_nils25, len_is25, len_hs25, len_nils26, len_is26, len_hs26, len_nils51, len_is51, len_hs51, len_nils54, len_is54, len_hs54, len_nils57, len_is57, len_hs57, bO_s, gB_t, asBool_b, asInt_i, asAgg_a, asTup_a, asStr_s, asCons_c, asNil_n, nthA_0, nthA_s, aggCells_a, addV_p, addV_i, seeV_p, seeV_i, same_nil, same_1, same_2, tr_v, decide_true, decide_false, Bool.false_eq_true, if_false, if_true, Bool.not_true, Bool.not_false, Bool.and_true, Bool.true_and, Bool.and_self, List.getElem?_cons_zero, List.getElem?_cons_succ, Nat.zero_add, Nat.add_zero, beq_self_eq_true, bne_self_eq_false, Int.reduceBNe, Int.reduceBEq, Int.reduceLT, Int.reduceGT, Int.reduceLE, Int.reduceGE, Nat.reduceAdd, Nat.reduceMul, Nat.reduceLeDiff, c1, c2, c3, Int.toNat_natCast, Nat.mul_one, g, d3, q5, a1, w2], i + 1, n + nq, l', T', by omega, by omega, a2, rfl⟩
end
end Go.Ab.tK
