/- What is written is read: the statements VlcBack, VlcComplete and VlcLengths. -/
import Derived.Test.YtfkmmiinlipcpaaVB9
set_option maxRecDepth 100000
set_option linter.unusedSimpArgs false
set_option linter.unusedVariables false
set_option linter.unusedSectionVars false
namespace Go.Ab.tV
open Go Go.Proofs

def modI (x n : Int) : Int := Int.tmod (Int.tmod x n + n) n
theorem modI_lt (x : Int) {n : Int} (h : 0 < n) : 0 ≤ modI x n ∧ modI x n < n := by
  unfold modI
  have h1 := Int.lt_tmod_of_pos x h
  exact ⟨Int.tmod_nonneg _ (by omega), Int.tmod_lt_of_pos _ h⟩
theorem rem64 (x y : Int) (h : y ≠ 0) : aInt .rem .i64 x y = some (.int .i64 (x.tmod y)) := by simp [aInt, h]
def szI (b : Int) : Int := if modI b 3 = 0 then 4 else if modI b 3 = 1 then 15 else 16
def mn3 (c : Int) : Int := if c < 3 then c else 3
theorem mn3_eq (c : Int) : mn3 c = m3 c := by unfold mn3 m3; split <;> split <;> omega
/-- A call made valid. -/
def fitC (x : Cal) : Cal :=
  if Int.tmod x.w 3 = 0 then ⟨Int.tmod x.w 3, modI x.a 5, szI x.b, modI x.c (szI x.b + 1), modI x.d (mn3 (modI x.c (szI x.b + 1)) + 1)⟩
  else if Int.tmod x.w 3 = 1 then ⟨Int.tmod x.w 3, x.a, szI x.b, 1 + modI x.c (szI x.b), modI x.d (szI x.b - (1 + modI x.c (szI x.b)) + 1)⟩
  else ⟨Int.tmod x.w 3, modI x.a 16, szI x.b, x.c, modI x.d (modI x.a 16 + 1)⟩
theorem szI_or (b : Int) : szI b = 4 ∨ szI b = 15 ∨ szI b = 16 := by unfold szI; split; exact .inl rfl; split; exact .inr (.inl rfl); exact .inr (.inr rfl)
theorem fit_good {x : Cal} (h : 0 ≤ x.w) : Good (fitC x) := by
  have hb := szI_or x.b
  have h0 := Int.tmod_nonneg (a := x.w) 3 h
  have h1 := Int.tmod_lt_of_pos x.w (show (0 : Int) < 3 by omega)
  unfold fitC
  by_cases g0 : Int.tmod x.w 3 = 0
  · rw [if_pos g0]
    have m1 := modI_lt x.a (show (0 : Int) < 5 by omega)
    have m2 := modI_lt x.c (show (0 : Int) < szI x.b + 1 by omega)
    have m4 : 0 ≤ mn3 (modI x.c (szI x.b + 1)) := by unfold mn3; split <;> omega
    have m3' := modI_lt x.d (show (0 : Int) < mn3 (modI x.c (szI x.b + 1)) + 1 by omega)
    exact ⟨.inl g0, hb, fun _ => ⟨⟨m1.1, by simp only; omega⟩, ⟨m2.1, by simp only; omega⟩, m3'.1, by simp only; rw [← mn3_eq]; omega⟩, fun h => by simp only at h; omega, fun h => by simp only at h; omega⟩
  · rw [if_neg g0]
    by_cases g1 : Int.tmod x.w 3 = 1
    · rw [if_pos g1]
      have m2 := modI_lt x.c (show (0 : Int) < szI x.b by omega)
      have m3' := modI_lt x.d (show (0 : Int) < szI x.b - (1 + modI x.c (szI x.b)) + 1 by omega)
      exact ⟨.inr (.inl g1), hb, fun h => by simp only at h; omega, fun _ => ⟨⟨by simp only; omega, by simp only; omega⟩, m3'.1, by simp only; omega⟩, fun h => by simp only at h; omega⟩
    · rw [if_neg g1]
      have m1 := modI_lt x.a (show (0 : Int) < 16 by omega)
      have m3' := modI_lt x.d (show (0 : Int) < modI x.a 16 + 1 by omega)
      exact ⟨.inr (.inr (by simp only; omega)), hb, fun h => by simp only at h; omega, fun h => by simp only at h; omega, fun _ => ⟨⟨m1.1, by simp only; omega⟩, m3'.1, by simp only; omega⟩⟩
theorem cal_good {x : Cal} (h : Good x) : (calP x).1 = 0 := by
  unfold calP
  by_cases h0 : x.w = 0
  · rw [if_pos h0]; exact (tok_good h h0).1
  · rw [if_neg h0]
    by_cases h1 : x.w = 1
    · rw [if_pos h1]; exact (zer_good h.b (h.t1 h1).1 (h.t1 h1).2).1
    · rw [if_neg h1]
      have h2 : x.w = 2 := by have := h.w; omega
      exact (run_good (h.t2 h2).1 (h.t2 h2).2).1
section
variable {B : CallF} (hB : Silent B) (k : Nat) {S : Heap}
include hB
theorem mod_c (x n : Int) (hn : 0 < n ∧ n ≤ 1000000) : Cn B (k + 1) f_spindlelaw18_mod 0 [.int .i64 x, .int .i64 n] S = some (.int .i64 (modI x n), S) := by
  rw [c_spindlelaw18_mod _ _ _ _ _ (hB.no _ _ _ _ (kn_no (by decide))), T_spindlelaw18_mod]
  have h1 := Int.lt_tmod_of_pos x hn.1
  have h2 := Int.tmod_lt_of_pos x hn.1
  have w1 : IntKind.wrap .i64 (Int.tmod x n + n) = Int.tmod x n + n := wr _ (by omega)
  simp only [eql_ptr31, eql_nilp31, eql_ptr38, eql_nilp38, eql_ptr54, eql_nilp54, eql_ptr62, eql_nilp62, eql_ptr137, eql_nilp137, eql_ptr149, eql_nilp149, eql_b4, neq_b4, len_nils37, len_is37, len_hs37, len_nils71, len_is71, len_hs71, len_nils76, len_is76, len_hs76, len_nils81, len_is81, len_hs81, len_nils100, len_is100, len_hs100, len_nils103, len_is103, len_hs103, bO_s, gB_t, asBool_b, asInt_i, asAgg_a, asTup_a, asStr_s, asCons_c, asNil_n, nthA_0, nthA_s, aggCells_a, addV_p, addV_i, seeV_p, seeV_i, same_nil, same_1, same_2, tr_v, decide_true, decide_false, Bool.false_eq_true, if_false, if_true, Bool.not_true, Bool.not_false, Bool.and_true, Bool.true_and, Bool.and_self, List.getElem?_cons_zero, List.getElem?_cons_succ, Nat.zero_add, Nat.add_zero, beq_self_eq_true, bne_self_eq_false, Int.reduceBNe, Int.reduceBEq, Int.reduceLT, Int.reduceGT, Int.reduceLE, Int.reduceGE, Nat.reduceAdd, Nat.reduceMul, Nat.reduceLeDiff, rem64 _ _ (show n ≠ 0 by omega), w1, modI]
theorem fit_c (x : Cal) : Cn B (k + 2) f_spindlelaw18_fit 0 [.agg x.cells] S = some (.agg (fitC x).cells, S) := by
  rw [c_spindlelaw18_fit _ _ _ _ (hB.no _ _ _ _ (kn_no (by decide))), T_spindlelaw18_fit]
  have hb := szI_or x.b
  obtain ⟨xw, xa, xb, xc, xd⟩ := x
  simp only at hb
  have m0 := modI_lt xb (show (0 : Int) < 3 by omega)
  have e0 := mod_c hB k (S := S) xb 3 (by omega)
  have hsz : ([.int .i64 4, .int .i64 15, .int .i64 16] : List AV)[Int.toNat (modI xb 3)]? = some (.int .i64 (szI xb)) := by
    have : modI xb 3 = 0 ∨ modI xb 3 = 1 ∨ modI xb 3 = 2 := by omega
    unfold szI
    rcases this with h | h | h <;> rw [h] <;> rfl
  have d1 : (0 : Int) ≤ modI xb 3 := m0.1
  have d2 : modI xb 3 < ((3 : Nat) : Int) := by omega
  by_cases g0 : Int.tmod xw 3 = 0
  · have c0 : (Int.tmod xw 3 == 0) = true := by simp [g0]
    have m2 := modI_lt xc (show (0 : Int) < szI xb + 1 by omega)
    have m4 : 0 ≤ mn3 (modI xc (szI xb + 1)) ∧ mn3 (modI xc (szI xb + 1)) ≤ 3 := by unfold mn3; split <;> omega
    have w1 : IntKind.wrap .i64 (szI xb + 1) = szI xb + 1 := wr _ (by omega)
    have w2 : IntKind.wrap .i64 (mn3 (modI xc (szI xb + 1)) + 1) = mn3 (modI xc (szI xb + 1)) + 1 := wr _ (by omega)
    have hmn : (if modI xc (szI xb + 1) < 3 then modI xc (szI xb + 1) else 3) = mn3 (modI xc (szI xb + 1)) := rfl
    have e1 := mod_c hB k (S := S) xa 5 (by omega)
    have e2 := mod_c hB k (S := S) xc (szI xb + 1) (by omega)
    have e3 := mod_c hB k (S := S) xd (mn3 (modI xc (szI xb + 1)) + 1) (by omega)
    simp only [eql_ptr31, eql_nilp31, eql_ptr38, eql_nilp38, eql_ptr54, eql_nilp54, eql_ptr62, eql_nilp62, eql_ptr137, eql_nilp137, eql_ptr149, eql_nilp149, eql_b4, neq_b4, len_nils37, len_is37, len_hs37, len_nils71, len_is71, len_hs71, len_nils76, len_is76, len_hs76, len_nils81, len_is81, len_hs81, len_nils100, len_is100, len_hs100, len_nils103, len_is103, len_hs103, bO_s, gB_t, asBool_b, asInt_i, asAgg_a, asTup_a, asStr_s, asCons_c, asNil_n, nthA_0, nthA_s, aggCells_a, addV_p, addV_i, seeV_p, seeV_i, same_nil, same_1, same_2, tr_v, decide_true, decide_false, Bool.false_eq_true, if_false, if_true, Bool.not_true, Bool.not_false, Bool.and_true, Bool.true_and, Bool.and_self, List.getElem?_cons_zero, List.getElem?_cons_succ, Nat.zero_add, Nat.add_zero, beq_self_eq_true, bne_self_eq_false, Int.reduceBNe, Int.reduceBEq, Int.reduceLT, Int.reduceGT, Int.reduceLE, Int.reduceGE, Nat.reduceAdd, Nat.reduceMul, Nat.reduceLeDiff, Cal.cells, List.length_cons, List.length_nil, e0, d1, d2, hsz, Nat.mul_one, setCells, List.set_cons_zero, List.set_cons_succ, c0, e1, w1, e2, hmn, w2, e3, fitC, g0, List.drop_zero, List.take_succ_cons, List.take_zero, List.all_cons, List.all_nil, cell]
  · have c0 : (Int.tmod xw 3 == 0) = false := by simp [g0]
    by_cases g1 : Int.tmod xw 3 = 1
    · have c1 : (Int.tmod xw 3 == 1) = true := by simp [g1]
      have m2 := modI_lt xc (show (0 : Int) < szI xb by omega)
      have w1 : IntKind.wrap .i64 (1 + modI xc (szI xb)) = 1 + modI xc (szI xb) := wr _ (by omega)
      have w2 : IntKind.wrap .i64 (szI xb - (1 + modI xc (szI xb))) = szI xb - (1 + modI xc (szI xb)) := wr _ (by omega)
      have w3 : IntKind.wrap .i64 (szI xb - (1 + modI xc (szI xb)) + 1) = szI xb - (1 + modI xc (szI xb)) + 1 := wr _ (by omega)
      have e2 := mod_c hB k (S := S) xc (szI xb) (by omega)
      have e3 := mod_c hB k (S := S) xd (szI xb - (1 + modI xc (szI xb)) + 1) (by omega)
      simp only [eql_ptr31, eql_nilp31, eql_ptr38, eql_nilp38, eql_ptr54, eql_nilp54, eql_ptr62, eql_nilp62, eql_ptr137, eql_nilp137, eql_ptr149, eql_nilp149, eql_b4, neq_b4, len_nils37, len_is37, len_hs37, len_nils71, len_is71, len_hs71, len_nils76, len_is76, len_hs76, len_nils81, len_is81, len_hs81, len_nils100, len_is100, len_hs100, len_nils103, len_is103, len_hs103, bO_s, gB_t, asBool_b, asInt_i, asAgg_a, asTup_a, asStr_s, asCons_c, asNil_n, nthA_0, nthA_s, aggCells_a, addV_p, addV_i, seeV_p, seeV_i, same_nil, same_1, same_2, tr_v, decide_true, decide_false, Bool.false_eq_true, if_false, if_true, Bool.not_true, Bool.not_false, Bool.and_true, Bool.true_and, Bool.and_self, List.getElem?_cons_zero, List.getElem?_cons_succ, Nat.zero_add, Nat.add_zero, beq_self_eq_true, bne_self_eq_false, Int.reduceBNe, Int.reduceBEq, Int.reduceLT, Int.reduceGT, Int.reduceLE, Int.reduceGE, Nat.reduceAdd, Nat.reduceMul, Nat.reduceLeDiff, Cal.cells, List.length_cons, List.length_nil, e0, d1, d2, hsz, Nat.mul_one, setCells, List.set_cons_zero, List.set_cons_succ, c0, c1, e2, w1, w2, w3, e3, fitC, g0, g1, List.drop_zero, List.take_succ_cons, List.take_zero, List.all_cons, List.all_nil, cell]
      simp
    · have c1 : (Int.tmod xw 3 == 1) = false := by simp [g1]
      have m1 := modI_lt xa (show (0 : Int) < 16 by omega)
      have w1 : IntKind.wrap .i64 (modI xa 16 + 1) = modI xa 16 + 1 := wr _ (by omega)
      have e2 := mod_c hB k (S := S) xa 16 (by omega)
      have e3 := mod_c hB k (S := S) xd (modI xa 16 + 1) (by omega)
      simp only [eql_ptr31, eql_nilp31, eql_ptr38, eql_nilp38, eql_ptr54, eql_nilp54, eql_ptr62, eql_nilp62, eql_ptr137, eql_nilp137, eql_ptr149, eql_nilp149, eql_b4, neq_b4, len_nils37, len_is37, len_hs37, len_nils71, len_is71, len_hs71, len_nils76, len_is76, len_hs76, len_nils81, len_is81, len_hs81, len_nils100, len_is100, len_hs100, len_nils103, len_is103, len_hs103, bO_s, gB_t, asBool_b, asInt_i, asAgg_a, asTup_a, asStr_s, asCons_c, asNil_n, nthA_0, nthA_s, aggCells_a, addV_p, addV_i, seeV_p, seeV_i, same_nil, same_1, same_2, tr_v, decide_true, decide_false, Bool.false_eq_true, if_false, if_true, Bool.not_true, Bool.not_false, Bool.and_true, Bool.true_and, Bool.and_self, List.getElem?_cons_zero, List.getElem?_cons_succ, Nat.zero_add, Nat.add_zero, beq_self_eq_true, bne_self_eq_false, Int.reduceBNe, Int.reduceBEq, Int.reduceLT, Int.reduceGT, Int.reduceLE, Int.reduceGE, Nat.reduceAdd, Nat.reduceMul, Nat.reduceLeDiff, Cal.cells, List.length_cons, List.length_nil, e0, d1, d2, hsz, Nat.mul_one, setCells, List.set_cons_zero, List.set_cons_succ, c0, c1, e2, w1, e3, fitC, g0, g1, List.drop_zero, List.take_succ_cons, List.take_zero, List.all_cons, List.all_nil, cell]
theorem lput_c {p q : Nat} {bs : List Bool} (h : Wr S p q bs) (hb : bs.length ≤ 800000000) (x : Cal) :
    ∃ S' q', Cn B (k + 6) f_spindlelaw18_put 0 [.ptr p 0, .agg x.cells] S = some (.int .i64 (calP x).1, S') ∧ Puts S S' p q q' bs (bs ++ (calP x).2) := by
  rw [c_spindlelaw18_put _ _ _ _ _ (hB.no _ _ _ _ (kn_no (by decide))), T_spindlelaw18_put]
  obtain ⟨xw, xa, xb, xc, xd⟩ := x
  unfold calP
  simp only
  by_cases h0 : xw = 0
  · rw [if_pos h0]
    have c0 : (xw == 0) = true := by simp [h0]
    obtain ⟨S', q', e, r⟩ := puttoken_c hB k h hb xa xb xc xd
    exact ⟨S', q', by simp only [eql_ptr31, eql_nilp31, eql_ptr38, eql_nilp38, eql_ptr54, eql_nilp54, eql_ptr62, eql_nilp62, eql_ptr137, eql_nilp137, eql_ptr149, eql_nilp149, eql_b4, neq_b4, len_nils37, len_is37, len_hs37, len_nils71, len_is71, len_hs71, len_nils76, len_is76, len_hs76, len_nils81, len_is81, len_hs81, len_nils100, len_is100, len_hs100, len_nils103, len_is103, len_hs103, bO_s, gB_t, asBool_b, asInt_i, asAgg_a, asTup_a, asStr_s, asCons_c, asNil_n, nthA_0, nthA_s, aggCells_a, addV_p, addV_i, seeV_p, seeV_i, same_nil, same_1, same_2, tr_v, decide_true, decide_false, Bool.false_eq_true, if_false, if_true, Bool.not_true, Bool.not_false, Bool.and_true, Bool.true_and, Bool.and_self, List.getElem?_cons_zero, List.getElem?_cons_succ, Nat.zero_add, Nat.add_zero, beq_self_eq_true, bne_self_eq_false, Int.reduceBNe, Int.reduceBEq, Int.reduceLT, Int.reduceGT, Int.reduceLE, Int.reduceGE, Nat.reduceAdd, Nat.reduceMul, Nat.reduceLeDiff, Cal.cells, List.length_cons, List.length_nil, c0, e], r⟩
  · rw [if_neg h0]
    have c0 : (xw == 0) = false := by simp [h0]
    by_cases h1 : xw = 1
    · rw [if_pos h1]
      have c1 : (xw == 1) = true := by simp [h1]
      obtain ⟨S', q', e, r⟩ := putzeros_c hB (k + 3) h hb xb xc xd
      exact ⟨S', q', by simp only [eql_ptr31, eql_nilp31, eql_ptr38, eql_nilp38, eql_ptr54, eql_nilp54, eql_ptr62, eql_nilp62, eql_ptr137, eql_nilp137, eql_ptr149, eql_nilp149, eql_b4, neq_b4, len_nils37, len_is37, len_hs37, len_nils71, len_is71, len_hs71, len_nils76, len_is76, len_hs76, len_nils81, len_is81, len_hs81, len_nils100, len_is100, len_hs100, len_nils103, len_is103, len_hs103, bO_s, gB_t, asBool_b, asInt_i, asAgg_a, asTup_a, asStr_s, asCons_c, asNil_n, nthA_0, nthA_s, aggCells_a, addV_p, addV_i, seeV_p, seeV_i, same_nil, same_1, same_2, tr_v, decide_true, decide_false, Bool.false_eq_true, if_false, if_true, Bool.not_true, Bool.not_false, Bool.and_true, Bool.true_and, Bool.and_self, List.getElem?_cons_zero, List.getElem?_cons_succ, Nat.zero_add, Nat.add_zero, beq_self_eq_true, bne_self_eq_false, Int.reduceBNe, Int.reduceBEq, Int.reduceLT, Int.reduceGT, Int.reduceLE, Int.reduceGE, Nat.reduceAdd, Nat.reduceMul, Nat.reduceLeDiff, Cal.cells, List.length_cons, List.length_nil, c0, c1, e], r⟩
    · rw [if_neg h1]
      have c1 : (xw == 1) = false := by simp [h1]
      obtain ⟨S', q', e, r⟩ := putrun_c hB (k + 3) h hb xa xd
      exact ⟨S', q', by simp only [eql_ptr31, eql_nilp31, eql_ptr38, eql_nilp38, eql_ptr54, eql_nilp54, eql_ptr62, eql_nilp62, eql_ptr137, eql_nilp137, eql_ptr149, eql_nilp149, eql_b4, neq_b4, len_nils37, len_is37, len_hs37, len_nils71, len_is71, len_hs71, len_nils76, len_is76, len_hs76, len_nils81, len_is81, len_hs81, len_nils100, len_is100, len_hs100, len_nils103, len_is103, len_hs103, bO_s, gB_t, asBool_b, asInt_i, asAgg_a, asTup_a, asStr_s, asCons_c, asNil_n, nthA_0, nthA_s, aggCells_a, addV_p, addV_i, seeV_p, seeV_i, same_nil, same_1, same_2, tr_v, decide_true, decide_false, Bool.false_eq_true, if_false, if_true, Bool.not_true, Bool.not_false, Bool.and_true, Bool.true_and, Bool.and_self, List.getElem?_cons_zero, List.getElem?_cons_succ, Nat.zero_add, Nat.add_zero, beq_self_eq_true, bne_self_eq_false, Int.reduceBNe, Int.reduceBEq, Int.reduceLT, Int.reduceGT, Int.reduceLE, Int.reduceGE, Nat.reduceAdd, Nat.reduceMul, Nat.reduceLeDiff, Cal.cells, List.length_cons, List.length_nil, c0, c1, e], r⟩
theorem lreads_c {p : Nat} {s : ByteArray} {a : Nat} (h : Rdr S p s a) {x : Cal} (hx : Good x) (hh : Has s a (calP x).2) :
    ∃ S', Cn B (k + 10) f_spindlelaw18_reads 0 [.ptr p 0, .agg x.cells] S = some (.bool true, S') ∧ Rdr S' p s (a + (calP x).2.length) ∧ Fr S S' [p] := by
  rw [c_spindlelaw18_reads _ _ _ _ _ (hB.no _ _ _ _ (kn_no (by decide))), T_spindlelaw18_reads]
  unfold calP at hh ⊢
  by_cases h0 : x.w = 0
  · rw [if_pos h0] at hh ⊢
    have hr := (tok_good hx h0).2 s a hh
    obtain ⟨S', e, r1, r2⟩ := token_c hB k h x.a x.b
    rw [hr] at e r1
    have c0 : (x.w == 0) = true := by simp [h0]
    exact ⟨S', by simp only [eql_ptr31, eql_nilp31, eql_ptr38, eql_nilp38, eql_ptr54, eql_nilp54, eql_ptr62, eql_nilp62, eql_ptr137, eql_nilp137, eql_ptr149, eql_nilp149, eql_b4, neq_b4, len_nils37, len_is37, len_hs37, len_nils71, len_is71, len_hs71, len_nils76, len_is76, len_hs76, len_nils81, len_is81, len_hs81, len_nils100, len_is100, len_hs100, len_nils103, len_is103, len_hs103, bO_s, gB_t, asBool_b, asInt_i, asAgg_a, asTup_a, asStr_s, asCons_c, asNil_n, nthA_0, nthA_s, aggCells_a, addV_p, addV_i, seeV_p, seeV_i, same_nil, same_1, same_2, tr_v, decide_true, decide_false, Bool.false_eq_true, if_false, if_true, Bool.not_true, Bool.not_false, Bool.and_true, Bool.true_and, Bool.and_self, List.getElem?_cons_zero, List.getElem?_cons_succ, Nat.zero_add, Nat.add_zero, beq_self_eq_true, bne_self_eq_false, Int.reduceBNe, Int.reduceBEq, Int.reduceLT, Int.reduceGT, Int.reduceLE, Int.reduceGE, Nat.reduceAdd, Nat.reduceMul, Nat.reduceLeDiff, Cal.cells, List.length_cons, List.length_nil, c0, e], r1, r2⟩
  · rw [if_neg h0] at hh ⊢
    have c0 : (x.w == 0) = false := by simp [h0]
    by_cases h1 : x.w = 1
    · rw [if_pos h1] at hh ⊢
      have hr := (zer_good hx.b (hx.t1 h1).1 (hx.t1 h1).2).2 s a hh
      obtain ⟨S', e, r1, r2⟩ := zeros_c hB (k + 6) h x.b x.c
      rw [hr] at e r1
      have c1 : (x.w == 1) = true := by simp [h1]
      exact ⟨S', by simp only [eql_ptr31, eql_nilp31, eql_ptr38, eql_nilp38, eql_ptr54, eql_nilp54, eql_ptr62, eql_nilp62, eql_ptr137, eql_nilp137, eql_ptr149, eql_nilp149, eql_b4, neq_b4, len_nils37, len_is37, len_hs37, len_nils71, len_is71, len_hs71, len_nils76, len_is76, len_hs76, len_nils81, len_is81, len_hs81, len_nils100, len_is100, len_hs100, len_nils103, len_is103, len_hs103, bO_s, gB_t, asBool_b, asInt_i, asAgg_a, asTup_a, asStr_s, asCons_c, asNil_n, nthA_0, nthA_s, aggCells_a, addV_p, addV_i, seeV_p, seeV_i, same_nil, same_1, same_2, tr_v, decide_true, decide_false, Bool.false_eq_true, if_false, if_true, Bool.not_true, Bool.not_false, Bool.and_true, Bool.true_and, Bool.and_self, List.getElem?_cons_zero, List.getElem?_cons_succ, Nat.zero_add, Nat.add_zero, beq_self_eq_true, bne_self_eq_false, Int.reduceBNe, Int.reduceBEq, Int.reduceLT, Int.reduceGT, Int.reduceLE, Int.reduceGE, Nat.reduceAdd, Nat.reduceMul, Nat.reduceLeDiff, Cal.cells, List.length_cons, List.length_nil, c0, c1, e], r1, r2⟩
    · rw [if_neg h1] at hh ⊢
      have c1 : (x.w == 1) = false := by simp [h1]
      have h2 : x.w = 2 := by have := hx.w; omega
      have hr := (run_good (hx.t2 h2).1 (hx.t2 h2).2).2 s a hh
      obtain ⟨S', e, r1, r2⟩ := run_c hB (k + 5) h x.a
      rw [hr] at e r1
      exact ⟨S', by simp only [eql_ptr31, eql_nilp31, eql_ptr38, eql_nilp38, eql_ptr54, eql_nilp54, eql_ptr62, eql_nilp62, eql_ptr137, eql_nilp137, eql_ptr149, eql_nilp149, eql_b4, neq_b4, len_nils37, len_is37, len_hs37, len_nils71, len_is71, len_hs71, len_nils76, len_is76, len_hs76, len_nils81, len_is81, len_hs81, len_nils100, len_is100, len_hs100, len_nils103, len_is103, len_hs103, bO_s, gB_t, asBool_b, asInt_i, asAgg_a, asTup_a, asStr_s, asCons_c, asNil_n, nthA_0, nthA_s, aggCells_a, addV_p, addV_i, seeV_p, seeV_i, same_nil, same_1, same_2, tr_v, decide_true, decide_false, Bool.false_eq_true, if_false, if_true, Bool.not_true, Bool.not_false, Bool.and_true, Bool.true_and, Bool.and_self, List.getElem?_cons_zero, List.getElem?_cons_succ, Nat.zero_add, Nat.add_zero, beq_self_eq_true, bne_self_eq_false, Int.reduceBNe, Int.reduceBEq, Int.reduceLT, Int.reduceGT, Int.reduceLE, Int.reduceGE, Nat.reduceAdd, Nat.reduceMul, Nat.reduceLeDiff, Cal.cells, List.length_cons, List.length_nil, c0, c1, e], r1, r2⟩
theorem lcode_c {x : Cal} (hx : Good x) : ∃ S', Cn B (k + 7) f_spindlelaw18_code 0 [.agg x.cells] S = some (.str (bitStr (calP x).2), S') ∧ Fr S S' [] := by
  rw [c_spindlelaw18_code _ _ _ _ (hB.no _ _ _ _ (kn_no (by decide))), T_spindlelaw18_code]
  obtain ⟨S1, e1, h1, f1⟩ := write_c hB (k + 5) (S := S)
  obtain ⟨S2, q2, e2, h2, f2, _⟩ := lput_c hB k h1 (by simp) x
  rw [cal_good hx] at e2
  have hl := calP_len x
  obtain ⟨S3, e3, f3⟩ := wbits_c hB (k + 4) h2 (by simp; omega)
  rw [List.nil_append] at e3
  have t5 : List.take 5 (List.drop 0 x.cells) = x.cells := rfl
  have l5 : x.cells.length = 5 := rfl
  refine ⟨S3, by simp only [eql_ptr31, eql_nilp31, eql_ptr38, eql_nilp38, eql_ptr54, eql_nilp54, eql_ptr62, eql_nilp62, eql_ptr137, eql_nilp137, eql_ptr149, eql_nilp149, eql_b4, neq_b4, len_nils37, len_is37, len_hs37, len_nils71, len_is71, len_hs71, len_nils76, len_is76, len_hs76, len_nils81, len_is81, len_hs81, len_nils100, len_is100, len_hs100, len_nils103, len_is103, len_hs103, bO_s, gB_t, asBool_b, asInt_i, asAgg_a, asTup_a, asStr_s, asCons_c, asNil_n, nthA_0, nthA_s, aggCells_a, addV_p, addV_i, seeV_p, seeV_i, same_nil, same_1, same_2, tr_v, decide_true, decide_false, Bool.false_eq_true, if_false, if_true, Bool.not_true, Bool.not_false, Bool.and_true, Bool.true_and, Bool.and_self, List.getElem?_cons_zero, List.getElem?_cons_succ, Nat.zero_add, Nat.add_zero, beq_self_eq_true, bne_self_eq_false, Int.reduceBNe, Int.reduceBEq, Int.reduceLT, Int.reduceGT, Int.reduceLE, Int.reduceGE, Nat.reduceAdd, Nat.reduceMul, Nat.reduceLeDiff, l5, e1, t5, e2, e3], (f1.trans f2 (fun j hj => ?_)).trans f3 (fun j hj => .inl hj)⟩
  simp at hj; exact .inr (by omega)
end
/-- The bits of the first calls. -/
def codes (l : List Cal) : List Bool := l.flatMap fun x => (calP (fitC x)).2
theorem codes_len : ∀ l : List Cal, (codes l).length ≤ 80 * l.length
  | [] => by simp [codes]
  | x :: l => by
    have h1 := codes_len l
    have h2 := calP_len (fitC x)
    simp only [codes, List.flatMap_cons, List.length_append, List.length_cons] at h1 ⊢
    omega
theorem codes_take {l : List Cal} {i : Nat} (hi : i < l.length) : codes (l.take (i + 1)) = codes (l.take i) ++ (calP (fitC l[i])).2 := by
  rw [List.take_add_one, List.getElem?_eq_getElem hi, Option.toList_some]; simp only [codes, List.flatMap_append, List.flatMap_cons, List.flatMap_nil, List.append_nil]
theorem codes_split {l : List Cal} {i : Nat} (hi : i < l.length) : codes l = codes (l.take i) ++ ((calP (fitC l[i])).2 ++ codes (l.drop (i + 1))) := by
  have : l = l.take i ++ l[i] :: l.drop (i + 1) := by rw [← List.drop_eq_getElem_cons hi, List.take_append_drop]
  calc codes l = codes (l.take i ++ l[i] :: l.drop (i + 1)) := by rw [← this]
    _ = _ := by simp only [codes, List.flatMap_append, List.flatMap_cons, List.append_assoc]
theorem back_law {s : ByteArray} {a : AV} {l : List Cal} (hl : RowC a l) (hok : ∀ x ∈ l, x.ok) : ∃ S', Cn Bk 11 f_spindlelaw18_VlcBack 0 [a, .str s] S0 = some (.bool true, S') := by
  have hB := Bk_silent
  rw [c_spindlelaw18_VlcBack _ _ _ _ _ (hB.no _ _ _ _ (kn_no (by decide))), T_spindlelaw18_VlcBack]
  have e0 := fun S => known18_c hB 10 (S := S)
  by_cases g2 : (l.length : Int) > 40
  · exact ⟨S0, by simp only [eql_ptr31, eql_nilp31, eql_ptr38, eql_nilp38, eql_ptr54, eql_nilp54, eql_ptr62, eql_nilp62, eql_ptr137, eql_nilp137, eql_ptr149, eql_nilp149, eql_b4, neq_b4, len_nils37, len_is37, len_hs37, len_nils71, len_is71, len_hs71, len_nils76, len_is76, len_hs76, len_nils81, len_is81, len_hs81, len_nils100, len_is100, len_hs100, len_nils103, len_is103, len_hs103, bO_s, gB_t, asBool_b, asInt_i, asAgg_a, asTup_a, asStr_s, asCons_c, asNil_n, nthA_0, nthA_s, aggCells_a, addV_p, addV_i, seeV_p, seeV_i, same_nil, same_1, same_2, tr_v, decide_true, decide_false, Bool.false_eq_true, if_false, if_true, Bool.not_true, Bool.not_false, Bool.and_true, Bool.true_and, Bool.and_self, List.getElem?_cons_zero, List.getElem?_cons_succ, Nat.zero_add, Nat.add_zero, beq_self_eq_true, bne_self_eq_false, Int.reduceBNe, Int.reduceBEq, Int.reduceLT, Int.reduceGT, Int.reduceLE, Int.reduceGE, Nat.reduceAdd, Nat.reduceMul, Nat.reduceLeDiff, hl.len, g2, e0]⟩
  by_cases g1 : (s.size : Int) > 100
  · exact ⟨S0, by simp only [eql_ptr31, eql_nilp31, eql_ptr38, eql_nilp38, eql_ptr54, eql_nilp54, eql_ptr62, eql_nilp62, eql_ptr137, eql_nilp137, eql_ptr149, eql_nilp149, eql_b4, neq_b4, len_nils37, len_is37, len_hs37, len_nils71, len_is71, len_hs71, len_nils76, len_is76, len_hs76, len_nils81, len_is81, len_hs81, len_nils100, len_is100, len_hs100, len_nils103, len_is103, len_hs103, bO_s, gB_t, asBool_b, asInt_i, asAgg_a, asTup_a, asStr_s, asCons_c, asNil_n, nthA_0, nthA_s, aggCells_a, addV_p, addV_i, seeV_p, seeV_i, same_nil, same_1, same_2, tr_v, decide_true, decide_false, Bool.false_eq_true, if_false, if_true, Bool.not_true, Bool.not_false, Bool.and_true, Bool.true_and, Bool.and_self, List.getElem?_cons_zero, List.getElem?_cons_succ, Nat.zero_add, Nat.add_zero, beq_self_eq_true, bne_self_eq_false, Int.reduceBNe, Int.reduceBEq, Int.reduceLT, Int.reduceGT, Int.reduceLE, Int.reduceGE, Nat.reduceAdd, Nat.reduceMul, Nat.reduceLeDiff, hl.len, g2, g1, e0]⟩
  obtain ⟨S1, e1, h1, f1⟩ := write_c hB 9 (S := S0)
  simp only [eql_ptr31, eql_nilp31, eql_ptr38, eql_nilp38, eql_ptr54, eql_nilp54, eql_ptr62, eql_nilp62, eql_ptr137, eql_nilp137, eql_ptr149, eql_nilp149, eql_b4, neq_b4, len_nils37, len_is37, len_hs37, len_nils71, len_is71, len_hs71, len_nils76, len_is76, len_hs76, len_nils81, len_is81, len_hs81, len_nils100, len_is100, len_hs100, len_nils103, len_is103, len_hs103, bO_s, gB_t, asBool_b, asInt_i, asAgg_a, asTup_a, asStr_s, asCons_c, asNil_n, nthA_0, nthA_s, aggCells_a, addV_p, addV_i, seeV_p, seeV_i, same_nil, same_1, same_2, tr_v, decide_true, decide_false, Bool.false_eq_true, if_false, if_true, Bool.not_true, Bool.not_false, Bool.and_true, Bool.true_and, Bool.and_self, List.getElem?_cons_zero, List.getElem?_cons_succ, Nat.zero_add, Nat.add_zero, beq_self_eq_true, bne_self_eq_false, Int.reduceBNe, Int.reduceBEq, Int.reduceLT, Int.reduceGT, Int.reduceLE, Int.reduceGE, Nat.reduceAdd, Nat.reduceMul, Nat.reduceLeDiff, hl.len, g2, g1, e1]
  obtain ⟨p, hp⟩ : ∃ p, p = S0.next := ⟨_, rfl⟩
  rw [← hp] at h1 ⊢
  refine loop_meas (fun o => ∃ S', o = some (AV.bool true, S')) (fun m st => ∃ i T q, i + m = l.length ∧ st = ([a, .str s, .ptr p 0, .int .i64 (i : Int)], T) ∧ Wr T p q (codes (l.take i))) l.length
    ⟨0, S1, p, by omega, rfl, h1⟩ ?_
  rintro m st ⟨i, T, q, him, rfl, hT⟩
  cases m with
  | zero =>
    have hi : i = l.length := by omega
    subst hi
    have c1 : ¬ ((l.length : Int) < (l.length : Int)) := by omega
    refine .inl ⟨(0, [a, .str s, .ptr p 0], T), by simp only [eql_ptr31, eql_nilp31, eql_ptr38, eql_nilp38, eql_ptr54, eql_nilp54, eql_ptr62, eql_nilp62, eql_ptr137, eql_nilp137, eql_ptr149, eql_nilp149, eql_b4, neq_b4, len_nils37, len_is37, len_hs37, len_nils71, len_is71, len_hs71, len_nils76, len_is76, len_hs76, len_nils81, len_is81, len_hs81, len_nils100, len_is100, len_hs100, len_nils103, len_is103, len_hs103, bO_s, gB_t, asBool_b, asInt_i, asAgg_a, asTup_a, asStr_s, asCons_c, asNil_n, nthA_0, nthA_s, aggCells_a, addV_p, addV_i, seeV_p, seeV_i, same_nil, same_1, same_2, tr_v, decide_true, decide_false, Bool.false_eq_true, if_false, if_true, Bool.not_true, Bool.not_false, Bool.and_true, Bool.true_and, Bool.and_self, List.getElem?_cons_zero, List.getElem?_cons_succ, Nat.zero_add, Nat.add_zero, beq_self_eq_true, bne_self_eq_false, Int.reduceBNe, Int.reduceBEq, Int.reduceLT, Int.reduceGT, Int.reduceLE, Int.reduceGE, Nat.reduceAdd, Nat.reduceMul, Nat.reduceLeDiff, hl.len, c1], ?_⟩
    rw [List.take_length] at hT
    have hcl := codes_len l
    obtain ⟨W, part, n, hX, hbs⟩ := id hT
    have hblen := congrArg List.length hbs
    rw [bitsW_len] at hblen
    have hn8 := hX.n8
    have e2 := wbytes_c hB 9 hX (by omega)
    have hpl : (pad W part n).length ≤ W.length + 1 := by unfold pad; split <;> simp
    have e3 : aStr .add (strB (pad W part n)) s = some (.str (strB (pad W part n) ++ s)) := by
      unfold aStr
      rw [if_neg]
      rw [strB_size]
      simp only [IntKind.max, IntKind.signed, IntKind.bits]
      simp; omega
    obtain ⟨s2, hs2⟩ : ∃ s2, s2 = strB (pad W part n) ++ s := ⟨_, rfl⟩
    rw [← hs2] at e3
    have hsz : s2.size = (pad W part n).length + s.size := by rw [hs2, ByteArray.size_append, strB_size]
    have hH : Has s2 0 (codes l) := by
      rw [hbs]
      refine has_pad hX.b8 hX.n8 hX.pt (fun j hj => ?_) (by omega)
      rw [hs2, ByteArray.data_append, Array.getElem?_append_left (by show j < (strB (pad W part n)).size; rw [strB_size]; exact hj), strB_get, List.getElem?_eq_getElem hj]; rfl
    obtain ⟨T1, e4, h4, f4, n4⟩ := read_c hB 9 (S := T) s2 (by omega)
    have hT1 := hT.fr f4 (by simp) (by simp)
    simp only [eql_ptr31, eql_nilp31, eql_ptr38, eql_nilp38, eql_ptr54, eql_nilp54, eql_ptr62, eql_nilp62, eql_ptr137, eql_nilp137, eql_ptr149, eql_nilp149, eql_b4, neq_b4, len_nils37, len_is37, len_hs37, len_nils71, len_is71, len_hs71, len_nils76, len_is76, len_hs76, len_nils81, len_is81, len_hs81, len_nils100, len_is100, len_hs100, len_nils103, len_is103, len_hs103, bO_s, gB_t, asBool_b, asInt_i, asAgg_a, asTup_a, asStr_s, asCons_c, asNil_n, nthA_0, nthA_s, aggCells_a, addV_p, addV_i, seeV_p, seeV_i, same_nil, same_1, same_2, tr_v, decide_true, decide_false, Bool.false_eq_true, if_false, if_true, Bool.not_true, Bool.not_false, Bool.and_true, Bool.true_and, Bool.and_self, List.getElem?_cons_zero, List.getElem?_cons_succ, Nat.zero_add, Nat.add_zero, beq_self_eq_true, bne_self_eq_false, Int.reduceBNe, Int.reduceBEq, Int.reduceLT, Int.reduceGT, Int.reduceLE, Int.reduceGE, Nat.reduceAdd, Nat.reduceMul, Nat.reduceLeDiff, sel, e2, e3, e4]
    have hne : p ≠ T.next := by have := hT.lt; omega
    have hneq : q ≠ T.next := by have := hT.lt; omega
    generalize T.next = r at h4 hne hneq ⊢
    refine loop_meas (fun o => ∃ S', o = some (AV.bool true, S')) (fun m st => ∃ i U, i + m = l.length ∧ st = ([a, .ptr p 0, .ptr r 0, .int .i64 (i : Int)], U) ∧ Wr U p q (codes l) ∧ Rdr U r s2 (codes (l.take i)).length) l.length
      ⟨0, T1, by omega, rfl, hT1, by simpa [codes] using h4⟩ ?_
    rintro m st ⟨i, U, him, rfl, hU, hR⟩
    cases m with
    | zero =>
      have hi : i = l.length := by omega
      subst hi
      have c1 : ¬ ((l.length : Int) < (l.length : Int)) := by omega
      rw [List.take_length] at hR
      have e5 := pos_c hB 9 hR
      have e6 := wlen_c hB 9 hU (by omega)
      exact .inl ⟨(0, [.ptr p 0, .ptr r 0], U), by simp only [eql_ptr31, eql_nilp31, eql_ptr38, eql_nilp38, eql_ptr54, eql_nilp54, eql_ptr62, eql_nilp62, eql_ptr137, eql_nilp137, eql_ptr149, eql_nilp149, eql_b4, neq_b4, len_nils37, len_is37, len_hs37, len_nils71, len_is71, len_hs71, len_nils76, len_is76, len_hs76, len_nils81, len_is81, len_hs81, len_nils100, len_is100, len_hs100, len_nils103, len_is103, len_hs103, bO_s, gB_t, asBool_b, asInt_i, asAgg_a, asTup_a, asStr_s, asCons_c, asNil_n, nthA_0, nthA_s, aggCells_a, addV_p, addV_i, seeV_p, seeV_i, same_nil, same_1, same_2, tr_v, decide_true, decide_false, Bool.false_eq_true, if_false, if_true, Bool.not_true, Bool.not_false, Bool.and_true, Bool.true_and, Bool.and_self, List.getElem?_cons_zero, List.getElem?_cons_succ, Nat.zero_add, Nat.add_zero, beq_self_eq_true, bne_self_eq_false, Int.reduceBNe, Int.reduceBEq, Int.reduceLT, Int.reduceGT, Int.reduceLE, Int.reduceGE, Nat.reduceAdd, Nat.reduceMul, Nat.reduceLeDiff, hl.len, c1], U, by simp only [eql_ptr31, eql_nilp31, eql_ptr38, eql_nilp38, eql_ptr54, eql_nilp54, eql_ptr62, eql_nilp62, eql_ptr137, eql_nilp137, eql_ptr149, eql_nilp149, eql_b4, neq_b4, len_nils37, len_is37, len_hs37, len_nils71, len_is71, len_hs71, len_nils76, len_is76, len_hs76, len_nils81, len_is81, len_hs81, len_nils100, len_is100, len_hs100, len_nils103, len_is103, len_hs103, bO_s, gB_t, asBool_b, asInt_i, asAgg_a, asTup_a, asStr_s, asCons_c, asNil_n, nthA_0, nthA_s, aggCells_a, addV_p, addV_i, seeV_p, seeV_i, same_nil, same_1, same_2, tr_v, decide_true, decide_false, Bool.false_eq_true, if_false, if_true, Bool.not_true, Bool.not_false, Bool.and_true, Bool.true_and, Bool.and_self, List.getElem?_cons_zero, List.getElem?_cons_succ, Nat.zero_add, Nat.add_zero, beq_self_eq_true, bne_self_eq_false, Int.reduceBNe, Int.reduceBEq, Int.reduceLT, Int.reduceGT, Int.reduceLE, Int.reduceGE, Nat.reduceAdd, Nat.reduceMul, Nat.reduceLeDiff, sel, e5, e6, e0]⟩
    | succ m =>
      have c1 : (i : Int) < (l.length : Int) := by omega
      have hi : i < l.length := by omega
      obtain ⟨cs, x1, x2, x3⟩ := hl.at hi
      have hx := hok _ (List.getElem_mem hi)
      have w1 : IntKind.wrap .i64 ((i : Int) + 1) = ((i + 1 : Nat) : Int) := by rw [wr _ (by omega)]; omega
      have e5 := fit_c hB 8 (S := U) l[i]
      have hh : Has s2 (codes (l.take i)).length (calP (fitC l[i])).2 := by
        have := hH
        rw [codes_split hi, Has.app, Nat.zero_add, Has.app] at this
        exact this.2.1
      obtain ⟨U1, e6, r1, r2⟩ := lreads_c hB 0 hR (fit_good hx.w.1) hh
      have x3' : List.take 5 cs = l[i].cells := x3
      refine .inr ⟨m, ([a, .ptr p 0, .ptr r 0, .int .i64 ((i + 1 : Nat) : Int)], U1), by omega, by simp only [eql_ptr31, eql_nilp31, eql_ptr38, eql_nilp38, eql_ptr54, eql_nilp54, eql_ptr62, eql_nilp62, eql_ptr137, eql_nilp137, eql_ptr149, eql_nilp149, eql_b4, neq_b4, len_nils37, len_is37, len_hs37, len_nils71, len_is71, len_hs71, len_nils76, len_is76, len_hs76, len_nils81, len_is81, len_hs81, len_nils100, len_is100, len_hs100, len_nils103, len_is103, len_hs103, bO_s, gB_t, asBool_b, asInt_i, asAgg_a, asTup_a, asStr_s, asCons_c, asNil_n, nthA_0, nthA_s, aggCells_a, addV_p, addV_i, seeV_p, seeV_i, same_nil, same_1, same_2, tr_v, decide_true, decide_false, Bool.false_eq_true, if_false, if_true, Bool.not_true, Bool.not_false, Bool.and_true, Bool.true_and, Bool.and_self, List.getElem?_cons_zero, List.getElem?_cons_succ, Nat.zero_add, Nat.add_zero, beq_self_eq_true, bne_self_eq_false, Int.reduceBNe, Int.reduceBEq, Int.reduceLT, Int.reduceGT, Int.reduceLE, Int.reduceGE, Nat.reduceAdd, Nat.reduceMul, Nat.reduceLeDiff, hl.len, c1, x1, x2, List.drop_zero, x3', e5, e6, w1], i + 1, U1, by omega, rfl, hU.fr r2 (by simp [hne]) (by simp [hneq]), ?_⟩
      rw [codes_take hi, List.length_append]
      exact r1
  | succ m =>
    have c1 : (i : Int) < (l.length : Int) := by omega
    have hi : i < l.length := by omega
    obtain ⟨cs, x1, x2, x3⟩ := hl.at hi
    have hx := hok _ (List.getElem_mem hi)
    have w1 : IntKind.wrap .i64 ((i : Int) + 1) = ((i + 1 : Nat) : Int) := by rw [wr _ (by omega)]; omega
    have e5 := fit_c hB 8 (S := T) l[i]
    have hcl := codes_len (l.take i)
    rw [List.length_take] at hcl
    obtain ⟨T1, q1, e6, r1⟩ := lput_c hB 4 hT (by omega) (fitC l[i])
    rw [cal_good (fit_good hx.w.1)] at e6
    have x3' : List.take 5 cs = l[i].cells := x3
    refine .inr ⟨m, ([a, .str s, .ptr p 0, .int .i64 ((i + 1 : Nat) : Int)], T1), by omega, by simp only [eql_ptr31, eql_nilp31, eql_ptr38, eql_nilp38, eql_ptr54, eql_nilp54, eql_ptr62, eql_nilp62, eql_ptr137, eql_nilp137, eql_ptr149, eql_nilp149, eql_b4, neq_b4, len_nils37, len_is37, len_hs37, len_nils71, len_is71, len_hs71, len_nils76, len_is76, len_hs76, len_nils81, len_is81, len_hs81, len_nils100, len_is100, len_hs100, len_nils103, len_is103, len_hs103, bO_s, gB_t, asBool_b, asInt_i, asAgg_a, asTup_a, asStr_s, asCons_c, asNil_n, nthA_0, nthA_s, aggCells_a, addV_p, addV_i, seeV_p, seeV_i, same_nil, same_1, same_2, tr_v, decide_true, decide_false, Bool.false_eq_true, if_false, if_true, Bool.not_true, Bool.not_false, Bool.and_true, Bool.true_and, Bool.and_self, List.getElem?_cons_zero, List.getElem?_cons_succ, Nat.zero_add, Nat.add_zero, beq_self_eq_true, bne_self_eq_false, Int.reduceBNe, Int.reduceBEq, Int.reduceLT, Int.reduceGT, Int.reduceLE, Int.reduceGE, Nat.reduceAdd, Nat.reduceMul, Nat.reduceLeDiff, hl.len, c1, x1, x2, List.drop_zero, x3', e5, e6, w1], i + 1, T1, q1, by omega, rfl, ?_⟩
    rw [codes_take hi]
    exact r1.1
end Go.Ab.tV
