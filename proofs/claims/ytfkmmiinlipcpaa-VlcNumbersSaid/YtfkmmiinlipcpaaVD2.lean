/- The statements VlcComplete and VlcLengths. -/
import Derived.Test.YtfkmmiinlipcpaaVD1
set_option maxRecDepth 100000
set_option linter.unusedSimpArgs false
set_option linter.unusedVariables false
set_option linter.unusedSectionVars false
namespace Go.Ab.tV
open Go Go.Proofs

theorem bits_len (bs : List Bool) : (bitStr bs).size = bs.length := by rw [bitStr, strB_size, List.length_map]
theorem wrap8 (w : Int) (h : 0 ≤ w) : IntKind.wrap .u8 (1 + Int.tmod w 2) = 1 + Int.tmod w 2 := by
  have h0 := Int.tmod_nonneg (a := w) 2 h
  have h1 := Int.tmod_lt_of_pos w (show (0 : Int) < 2 by omega)
  exact wb _ (by omega)
theorem tmod12 (w : Int) (h : 0 ≤ w) : Int.tmod (1 + Int.tmod w 2) 3 = 1 + Int.tmod w 2 := by
  have h0 := Int.tmod_nonneg (a := w) 2 h
  have h1 := Int.tmod_lt_of_pos w (show (0 : Int) < 2 by omega)
  rw [Int.tmod_eq_emod_of_nonneg (by omega)]; omega
theorem lengths_law {x : Cal} (hx : x.ok) : ∃ S', Cn Bk 9 f_spindlelaw18_VlcLengths 0 [.agg x.cells] S0 = some (.bool true, S') := by
  have hB := Bk_silent
  rw [c_spindlelaw18_VlcLengths _ _ _ _ (hB.no _ _ _ _ (kn_no (by decide))), T_spindlelaw18_VlcLengths]
  have e0 := fun S => known18_c hB 8 (S := S)
  obtain ⟨xw, xa, xb, xc, xd⟩ := x
  have hw := hx.w.1
  simp only at hw
  have w0 := wrap8 xw hw
  have w00 := tmod12 xw hw
  obtain ⟨w, hwd⟩ : ∃ w, w = 1 + Int.tmod xw 2 := ⟨_, rfl⟩
  have hw12 : w = 1 ∨ w = 2 := by
    have h0 := Int.tmod_nonneg (a := xw) 2 hw
    have h1 := Int.tmod_lt_of_pos xw (show (0 : Int) < 2 by omega)
    omega
  rw [← hwd] at w0 w00
  have e1 := fit_c hB 6 (S := S0) ⟨w, xa, xb, xc, xd⟩
  have hg := fit_good (x := ⟨w, xa, xb, xc, xd⟩) (by simp only; omega)
  obtain ⟨S1, e2, f2⟩ := lcode_c hB 1 (S := S0) hg
  have hfw : (fitC ⟨w, xa, xb, xc, xd⟩).w = w := by
    unfold fitC; simp only
    split
    · exact w00
    · split <;> exact w00
  generalize hy : fitC ⟨w, xa, xb, xc, xd⟩ = y at e1 e2 hg hfw
  obtain ⟨yw, ya, yb, yc, yd⟩ := y
  simp only at hfw
  subst hfw
  simp only [Cal.cells] at e1 e2
  rcases hw12 with h1 | h1
  · subst h1
    obtain ⟨⟨c1, c2⟩, d1, d2⟩ := hg.t1 rfl
    have hbb := hg.b
    simp only at c1 c2 d1 d2 hbb
    have hP : (calP ⟨1, ya, yb, yc, yd⟩).2 = (zerP yb yc yd).2 := rfl
    rw [hP] at e2
    obtain ⟨m, hm⟩ := Int.eq_ofNat_of_zero_le (show 0 ≤ yb - yc by omega)
    obtain ⟨z, rfl⟩ := Int.eq_ofNat_of_zero_le d1
    obtain ⟨f1, f2', f3, f4, f5, f6⟩ := cut_facts ⟨m, by omega⟩
    simp only at f1 f2' f3 f4 f5 f6
    have hdd : cutD m + (m + 1) = 2 ^ (cutB m + 1) := by unfold cutD; omega
    have hlen : (zerP yb yc z).2.length = if z < cutD m then cutB m else cutB m + 1 := by
      unfold zerP
      rw [if_neg (by simp only [not_or]; exact ⟨by simp [(sizedI_iff yb).2 hbb], by omega, by omega, by omega, by omega⟩), hm]
      simp only [Int.toNat_natCast]
      split <;> rw [bitsN_len]
    have w1 : IntKind.wrap .i64 (yb - yc) = (m : Int) := by rw [wr _ (by omega)]; exact hm
    have w2 : IntKind.wrap .i64 ((m : Int) + 1) = ((m + 1 : Nat) : Int) := by rw [wr _ (by omega)]; omega
    have c9 : ((1 : Int) == 2) = false := rfl
    simp only [eql_ptr31, eql_nilp31, eql_ptr38, eql_nilp38, eql_ptr54, eql_nilp54, eql_ptr62, eql_nilp62, eql_ptr137, eql_nilp137, eql_ptr149, eql_nilp149, eql_b4, neq_b4, len_nils37, len_is37, len_hs37, len_nils71, len_is71, len_hs71, len_nils76, len_is76, len_hs76, len_nils81, len_is81, len_hs81, len_nils100, len_is100, len_hs100, len_nils103, len_is103, len_hs103, bO_s, gB_t, asBool_b, asInt_i, asAgg_a, asTup_a, asStr_s, asCons_c, asNil_n, nthA_0, nthA_s, aggCells_a, addV_p, addV_i, seeV_p, seeV_i, same_nil, same_1, same_2, tr_v, decide_true, decide_false, Bool.false_eq_true, if_false, if_true, Bool.not_true, Bool.not_false, Bool.and_true, Bool.true_and, Bool.and_self, List.getElem?_cons_zero, List.getElem?_cons_succ, Nat.zero_add, Nat.add_zero, beq_self_eq_true, bne_self_eq_false, Int.reduceBNe, Int.reduceBEq, Int.reduceLT, Int.reduceGT, Int.reduceLE, Int.reduceGE, Nat.reduceAdd, Nat.reduceMul, Nat.reduceLeDiff, Cal.cells, List.length_cons, List.length_nil, setCells, List.set_cons_zero, List.set_cons_succ, List.drop_zero, List.take_succ_cons, List.take_zero, List.all_cons, List.all_nil, cell, w0, ← hwd, e1, e2, c9, w1, bits_len]
    refine loop_meas (fun o => ∃ S', o = some (AV.bool true, S')) (fun t st => ∃ i, i + t = cutB m ∧ st = ([.agg [.int .u8 1, .int .i64 ya, .int .i64 yb, .int .i64 yc, .int .i64 (z : Int)], .int .i64 ((zerP yb yc z).2.length : Int), .int .i64 (m : Int), .int .i64 (i : Int)], S1)) (cutB m) ⟨0, by omega, rfl⟩ ?_
    rintro t st ⟨i, hit, rfl⟩
    have w3 : IntKind.wrap .u64 (i : Int) = (i : Int) := wu _ (by omega)
    have hp6 : 2 ^ (i + 1) ≤ 2 ^ 5 := Nat.pow_le_pow_right (by omega) (by omega)
    have w4 : shlI .i64 2 (i : Int) = ((2 ^ (i + 1) : Nat) : Int) := by
      have : min i 64 = i := by omega
      have e : (2 : Int) * ((2 ^ i : Nat) : Int) = ((2 ^ (i + 1) : Nat) : Int) := by rw [Nat.pow_succ]; omega
      simp only [shlI, Int.toNat_natCast, IntKind.bits, this, pow2N, e]
      have hp0 : 0 < 2 ^ (i + 1) := Nat.pow_pos (by omega)
      generalize 2 ^ (i + 1) = y at hp0 hp6
      exact wr (y : Int) (by omega)
    have w5 : IntKind.wrap .i64 ((i : Int) + 1) = ((i + 1 : Nat) : Int) := by rw [wr _ (by omega)]; omega
    cases t with
    | succ t =>
      have hpi : 2 ^ (i + 1) ≤ 2 ^ cutB m := Nat.pow_le_pow_right (by omega) (by omega)
      have c5 : ((2 ^ (i + 1) : Nat) : Int) ≤ ((m + 1 : Nat) : Int) := by omega
      exact .inr ⟨t, _, by omega, by simp only [eql_ptr31, eql_nilp31, eql_ptr38, eql_nilp38, eql_ptr54, eql_nilp54, eql_ptr62, eql_nilp62, eql_ptr137, eql_nilp137, eql_ptr149, eql_nilp149, eql_b4, neq_b4, len_nils37, len_is37, len_hs37, len_nils71, len_is71, len_hs71, len_nils76, len_is76, len_hs76, len_nils81, len_is81, len_hs81, len_nils100, len_is100, len_hs100, len_nils103, len_is103, len_hs103, bO_s, gB_t, asBool_b, asInt_i, asAgg_a, asTup_a, asStr_s, asCons_c, asNil_n, nthA_0, nthA_s, aggCells_a, addV_p, addV_i, seeV_p, seeV_i, same_nil, same_1, same_2, tr_v, decide_true, decide_false, Bool.false_eq_true, if_false, if_true, Bool.not_true, Bool.not_false, Bool.and_true, Bool.true_and, Bool.and_self, List.getElem?_cons_zero, List.getElem?_cons_succ, Nat.zero_add, Nat.add_zero, beq_self_eq_true, bne_self_eq_false, Int.reduceBNe, Int.reduceBEq, Int.reduceLT, Int.reduceGT, Int.reduceLE, Int.reduceGE, Nat.reduceAdd, Nat.reduceMul, Nat.reduceLeDiff, w3, aShl, w4, w2, c5, w5], i + 1, by omega, rfl⟩
    | zero =>
      have hi : i = cutB m := by omega
      subst hi
      have c5 : ¬ ((2 ^ (cutB m + 1) : Nat) : Int) ≤ ((m + 1 : Nat) : Int) := by omega
      have w6 : IntKind.wrap .i64 (IntKind.wrap .i64 (((2 ^ (cutB m + 1) : Nat) : Int) - (m : Int)) - 1) = ((cutD m : Nat) : Int) := by
        rw [wr (((2 ^ (cutB m + 1) : Nat) : Int) - (m : Int)) (by omega), wr _ (by omega)]; omega
      refine .inl ⟨(0, [.agg [.int .u8 1, .int .i64 ya, .int .i64 yb, .int .i64 yc, .int .i64 (z : Int)], .int .i64 ((zerP yb yc z).2.length : Int), .int .i64 (m : Int), .int .i64 ((cutB m : Nat) : Int)], S1), by simp only [eql_ptr31, eql_nilp31, eql_ptr38, eql_nilp38, eql_ptr54, eql_nilp54, eql_ptr62, eql_nilp62, eql_ptr137, eql_nilp137, eql_ptr149, eql_nilp149, eql_b4, neq_b4, len_nils37, len_is37, len_hs37, len_nils71, len_is71, len_hs71, len_nils76, len_is76, len_hs76, len_nils81, len_is81, len_hs81, len_nils100, len_is100, len_hs100, len_nils103, len_is103, len_hs103, bO_s, gB_t, asBool_b, asInt_i, asAgg_a, asTup_a, asStr_s, asCons_c, asNil_n, nthA_0, nthA_s, aggCells_a, addV_p, addV_i, seeV_p, seeV_i, same_nil, same_1, same_2, tr_v, decide_true, decide_false, Bool.false_eq_true, if_false, if_true, Bool.not_true, Bool.not_false, Bool.and_true, Bool.true_and, Bool.and_self, List.getElem?_cons_zero, List.getElem?_cons_succ, Nat.zero_add, Nat.add_zero, beq_self_eq_true, bne_self_eq_false, Int.reduceBNe, Int.reduceBEq, Int.reduceLT, Int.reduceGT, Int.reduceLE, Int.reduceGE, Nat.reduceAdd, Nat.reduceMul, Nat.reduceLeDiff, w3, aShl, w4, w2, c5], ?_⟩
      rw [hlen]
      have hm0 : m = 0 → cutB m = 0 ∧ z < cutD m := by
        intro h0
        have : cutB 0 = 0 ∧ cutD 0 = 1 := by decide
        subst h0
        exact ⟨this.1, by rw [this.2]; omega⟩
      by_cases hz : z < cutD m
      · have c6 : (z : Int) < ((cutD m : Nat) : Int) := by omega
        rw [if_pos hz]
        by_cases h0 : m = 0
        · have c7 : ¬ (m : Int) > 0 := by omega
          have c8 : (((cutB m : Nat) : Int) == 0) = true := by rw [(hm0 h0).1]; rfl
          exact ⟨S1, by simp only [eql_ptr31, eql_nilp31, eql_ptr38, eql_nilp38, eql_ptr54, eql_nilp54, eql_ptr62, eql_nilp62, eql_ptr137, eql_nilp137, eql_ptr149, eql_nilp149, eql_b4, neq_b4, len_nils37, len_is37, len_hs37, len_nils71, len_is71, len_hs71, len_nils76, len_is76, len_hs76, len_nils81, len_is81, len_hs81, len_nils100, len_is100, len_hs100, len_nils103, len_is103, len_hs103, bO_s, gB_t, asBool_b, asInt_i, asAgg_a, asTup_a, asStr_s, asCons_c, asNil_n, nthA_0, nthA_s, aggCells_a, addV_p, addV_i, seeV_p, seeV_i, same_nil, same_1, same_2, tr_v, decide_true, decide_false, Bool.false_eq_true, if_false, if_true, Bool.not_true, Bool.not_false, Bool.and_true, Bool.true_and, Bool.and_self, List.getElem?_cons_zero, List.getElem?_cons_succ, Nat.zero_add, Nat.add_zero, beq_self_eq_true, bne_self_eq_false, Int.reduceBNe, Int.reduceBEq, Int.reduceLT, Int.reduceGT, Int.reduceLE, Int.reduceGE, Nat.reduceAdd, Nat.reduceMul, Nat.reduceLeDiff, sel, w3, aShl, w4, w6, c6, c7, c8, e0]⟩
        · have c7 : (m : Int) > 0 := by omega
          exact ⟨S1, by simp only [eql_ptr31, eql_nilp31, eql_ptr38, eql_nilp38, eql_ptr54, eql_nilp54, eql_ptr62, eql_nilp62, eql_ptr137, eql_nilp137, eql_ptr149, eql_nilp149, eql_b4, neq_b4, len_nils37, len_is37, len_hs37, len_nils71, len_is71, len_hs71, len_nils76, len_is76, len_hs76, len_nils81, len_is81, len_hs81, len_nils100, len_is100, len_hs100, len_nils103, len_is103, len_hs103, bO_s, gB_t, asBool_b, asInt_i, asAgg_a, asTup_a, asStr_s, asCons_c, asNil_n, nthA_0, nthA_s, aggCells_a, addV_p, addV_i, seeV_p, seeV_i, same_nil, same_1, same_2, tr_v, decide_true, decide_false, Bool.false_eq_true, if_false, if_true, Bool.not_true, Bool.not_false, Bool.and_true, Bool.true_and, Bool.and_self, List.getElem?_cons_zero, List.getElem?_cons_succ, Nat.zero_add, Nat.add_zero, beq_self_eq_true, bne_self_eq_false, Int.reduceBNe, Int.reduceBEq, Int.reduceLT, Int.reduceGT, Int.reduceLE, Int.reduceGE, Nat.reduceAdd, Nat.reduceMul, Nat.reduceLeDiff, sel, w3, aShl, w4, w6, c6, c7, e0]⟩
      · have c6 : ¬ (z : Int) < ((cutD m : Nat) : Int) := by omega
        have h0 : ¬ m = 0 := fun h => hz (hm0 h).2
        have c7 : (m : Int) > 0 := by omega
        rw [if_neg hz]
        exact ⟨S1, by simp only [eql_ptr31, eql_nilp31, eql_ptr38, eql_nilp38, eql_ptr54, eql_nilp54, eql_ptr62, eql_nilp62, eql_ptr137, eql_nilp137, eql_ptr149, eql_nilp149, eql_b4, neq_b4, len_nils37, len_is37, len_hs37, len_nils71, len_is71, len_hs71, len_nils76, len_is76, len_hs76, len_nils81, len_is81, len_hs81, len_nils100, len_is100, len_hs100, len_nils103, len_is103, len_hs103, bO_s, gB_t, asBool_b, asInt_i, asAgg_a, asTup_a, asStr_s, asCons_c, asNil_n, nthA_0, nthA_s, aggCells_a, addV_p, addV_i, seeV_p, seeV_i, same_nil, same_1, same_2, tr_v, decide_true, decide_false, Bool.false_eq_true, if_false, if_true, Bool.not_true, Bool.not_false, Bool.and_true, Bool.true_and, Bool.and_self, List.getElem?_cons_zero, List.getElem?_cons_succ, Nat.zero_add, Nat.add_zero, beq_self_eq_true, bne_self_eq_false, Int.reduceBNe, Int.reduceBEq, Int.reduceLT, Int.reduceGT, Int.reduceLE, Int.reduceGE, Nat.reduceAdd, Nat.reduceMul, Nat.reduceLeDiff, sel, w3, aShl, w4, w6, c6, c7, w5, e0]⟩
  · subst h1
    obtain ⟨⟨a1, a2⟩, d1, d2⟩ := hg.t2 rfl
    simp only at a1 a2 d1 d2
    have hP : (calP ⟨2, ya, yb, yc, yd⟩).2 = (runP ya yd).2 := rfl
    rw [hP] at e2
    have c9 : ((2 : Int) == 2) = true := rfl
    have w1 : IntKind.wrap .i64 (yd + 1) = yd + 1 := wr _ (by omega)
    have hlen : (((runP ya yd).2.length : Nat) : Int) = if ya < yd + 1 then ya else yd + 1 := by
      unfold runP
      rw [if_neg (by simp only [not_or]; exact ⟨by omega, by omega, by omega, by omega⟩)]
      by_cases h : yd = ya
      · rw [if_pos h, if_pos (by omega), bitsN_len]; omega
      · rw [if_neg h, if_neg (by omega), bitsN_len]; omega
    exact ⟨S1, by simp only [eql_ptr31, eql_nilp31, eql_ptr38, eql_nilp38, eql_ptr54, eql_nilp54, eql_ptr62, eql_nilp62, eql_ptr137, eql_nilp137, eql_ptr149, eql_nilp149, eql_b4, neq_b4, len_nils37, len_is37, len_hs37, len_nils71, len_is71, len_hs71, len_nils76, len_is76, len_hs76, len_nils81, len_is81, len_hs81, len_nils100, len_is100, len_hs100, len_nils103, len_is103, len_hs103, bO_s, gB_t, asBool_b, asInt_i, asAgg_a, asTup_a, asStr_s, asCons_c, asNil_n, nthA_0, nthA_s, aggCells_a, addV_p, addV_i, seeV_p, seeV_i, same_nil, same_1, same_2, tr_v, decide_true, decide_false, Bool.false_eq_true, if_false, if_true, Bool.not_true, Bool.not_false, Bool.and_true, Bool.true_and, Bool.and_self, List.getElem?_cons_zero, List.getElem?_cons_succ, Nat.zero_add, Nat.add_zero, beq_self_eq_true, bne_self_eq_false, Int.reduceBNe, Int.reduceBEq, Int.reduceLT, Int.reduceGT, Int.reduceLE, Int.reduceGE, Nat.reduceAdd, Nat.reduceMul, Nat.reduceLeDiff, Cal.cells, List.length_cons, List.length_nil, setCells, List.set_cons_zero, List.set_cons_succ, List.drop_zero, List.take_succ_cons, List.take_zero, List.all_cons, List.all_nil, cell, w0, ← hwd, e1, e2, c9, w1, bits_len, hlen, e0]⟩
theorem complete_law {s : ByteArray} {x : Cal} (hx : x.ok) : ∃ S', Cn Bk 9 f_spindlelaw18_VlcComplete 0 [.str s, .agg x.cells] S0 = some (.bool true, S') := by
  have hB := Bk_silent
  rw [c_spindlelaw18_VlcComplete _ _ _ _ _ (hB.no _ _ _ _ (kn_no (by decide))), T_spindlelaw18_VlcComplete]
  have e0 := fun S => known18_c hB 8 (S := S)
  obtain ⟨xw, xa, xb, xc, xd⟩ := x
  have hw := hx.w.1
  simp only at hw
  by_cases g1 : (s.size : Int) > 100
  · exact ⟨S0, by simp only [eql_ptr31, eql_nilp31, eql_ptr38, eql_nilp38, eql_ptr54, eql_nilp54, eql_ptr62, eql_nilp62, eql_ptr137, eql_nilp137, eql_ptr149, eql_nilp149, eql_b4, neq_b4, len_nils37, len_is37, len_hs37, len_nils71, len_is71, len_hs71, len_nils76, len_is76, len_hs76, len_nils81, len_is81, len_hs81, len_nils100, len_is100, len_hs100, len_nils103, len_is103, len_hs103, bO_s, gB_t, asBool_b, asInt_i, asAgg_a, asTup_a, asStr_s, asCons_c, asNil_n, nthA_0, nthA_s, aggCells_a, addV_p, addV_i, seeV_p, seeV_i, same_nil, same_1, same_2, tr_v, decide_true, decide_false, Bool.false_eq_true, if_false, if_true, Bool.not_true, Bool.not_false, Bool.and_true, Bool.true_and, Bool.and_self, List.getElem?_cons_zero, List.getElem?_cons_succ, Nat.zero_add, Nat.add_zero, beq_self_eq_true, bne_self_eq_false, Int.reduceBNe, Int.reduceBEq, Int.reduceLT, Int.reduceGT, Int.reduceLE, Int.reduceGE, Nat.reduceAdd, Nat.reduceMul, Nat.reduceLeDiff, Cal.cells, List.length_cons, List.length_nil, g1, e0]⟩
  have w0 := wrap8 xw hw
  have w00 := tmod12 xw hw
  obtain ⟨w, hwd⟩ : ∃ w, w = 1 + Int.tmod xw 2 := ⟨_, rfl⟩
  have hw12 : w = 1 ∨ w = 2 := by
    have h0 := Int.tmod_nonneg (a := xw) 2 hw
    have h1 := Int.tmod_lt_of_pos xw (show (0 : Int) < 2 by omega)
    omega
  rw [← hwd] at w0 w00
  have e1 := fit_c hB 6 (S := S0) ⟨w, xa, xb, xc, xd⟩
  have hg := fit_good (x := ⟨w, xa, xb, xc, xd⟩) (by simp only; omega)
  have hfw : (fitC ⟨w, xa, xb, xc, xd⟩).w = w := by
    unfold fitC; simp only
    split
    · exact w00
    · split <;> exact w00
  generalize hy : fitC ⟨w, xa, xb, xc, xd⟩ = y at e1 hg hfw
  obtain ⟨yw, ya, yb, yc, yd⟩ := y
  simp only at hfw
  subst hfw
  simp only [Cal.cells] at e1
  obtain ⟨S1, e2, h2, f2, n2⟩ := read_c hB 7 (S := S0) s (by omega)
  obtain ⟨S2, e3, h3, f3⟩ := write_c hB 7 (S := S1)
  have h2' := h2.fr f3 (by simp)
  simp only [eql_ptr31, eql_nilp31, eql_ptr38, eql_nilp38, eql_ptr54, eql_nilp54, eql_ptr62, eql_nilp62, eql_ptr137, eql_nilp137, eql_ptr149, eql_nilp149, eql_b4, neq_b4, len_nils37, len_is37, len_hs37, len_nils71, len_is71, len_hs71, len_nils76, len_is76, len_hs76, len_nils81, len_is81, len_hs81, len_nils100, len_is100, len_hs100, len_nils103, len_is103, len_hs103, bO_s, gB_t, asBool_b, asInt_i, asAgg_a, asTup_a, asStr_s, asCons_c, asNil_n, nthA_0, nthA_s, aggCells_a, addV_p, addV_i, seeV_p, seeV_i, same_nil, same_1, same_2, tr_v, decide_true, decide_false, Bool.false_eq_true, if_false, if_true, Bool.not_true, Bool.not_false, Bool.and_true, Bool.true_and, Bool.and_self, List.getElem?_cons_zero, List.getElem?_cons_succ, Nat.zero_add, Nat.add_zero, beq_self_eq_true, bne_self_eq_false, Int.reduceBNe, Int.reduceBEq, Int.reduceLT, Int.reduceGT, Int.reduceLE, Int.reduceGE, Nat.reduceAdd, Nat.reduceMul, Nat.reduceLeDiff, Cal.cells, List.length_cons, List.length_nil, g1, setCells, List.set_cons_zero, List.set_cons_succ, List.drop_zero, List.take_succ_cons, List.take_zero, List.all_cons, List.all_nil, cell, w0, ← hwd, e1, e2, e3]
  obtain ⟨r, hr⟩ : ∃ r, r = S0.next := ⟨_, rfl⟩
  obtain ⟨p, hp⟩ : ∃ p, p = S1.next := ⟨_, rfl⟩
  rw [← hr] at h2' n2 ⊢
  rw [← hp] at h3 n2 ⊢
  have hne : r ≠ p := by omega
  refine loop_meas (fun o => ∃ S', o = some (AV.bool true, S')) (fun t st => ∃ i T q bs d, i + t = 100 ∧ st = ([.str s, .agg [.int .u8 yw, .int .i64 ya, .int .i64 yb, .int .i64 yc, .int .i64 d], .ptr r 0, .ptr p 0, .int .i64 (i : Int)], T) ∧ Rdr T r s bs.length ∧ Wr T p q bs ∧ q ≠ r ∧ Has s 0 bs) 100
    ⟨0, S2, p, [], yd, by omega, rfl, h2', h3, Ne.symm hne, Has.nil (by omega)⟩ ?_
  rintro t st ⟨i, T, q, bs, d, hit, rfl, hR, hW, hqr, hH⟩
  have hble := hR.le
  -- the second part: the bits are the same
  have fin : ∀ T : Heap, Wr T p q bs → ∃ S', sel [(fun v64 S65 => asStr (nthA v64 0) fun s66 => bO (Cn Bk 8 f_bits_Read 0 [.str s66] S65) fun t67 => bO (Cn Bk 8 f_bits_Writer_Bytes 0 [nthA v64 1] t67.2) fun t68 => asStr t68.1 fun s69 => bO (Cn Bk 8 f_bits_Read 0 [.str s69] t68.2) fun t70 => bO (ctlV.loop (fun s71 => asInt .i64 (nthA s71.1 3) fun i72 => bO (Cn Bk 8 f_bits_Writer_Len 0 [nthA s71.1 0] s71.2) fun t73 => asInt .i64 t73.1 fun i74 => if decide ((i72 : Int) < i74) = true then bO (Cn Bk 8 f_bits_Reader_Bit 0 [nthA s71.1 1] t73.2) fun t75 => asTup t75.1 fun l76 => asCons l76 fun a77 l78 => asInt .u8 a77 fun i79 => asCons l78 fun a80 l81 => asInt .i64 a80 fun i82 => bO (Cn Bk 8 f_bits_Reader_Bit 0 [nthA s71.1 2] t75.2) fun t83 => asTup t83.1 fun l84 => asCons l84 fun a85 l86 => asInt .u8 a85 fun i87 => asCons l86 fun a88 l89 => asInt .i64 a88 fun i90 => if ((i79 : Int) != i87) = true then some (.inr (1, [.bool false], t83.2)) else some (.inl ([nthA s71.1 0, nthA s71.1 1, nthA s71.1 2, .int .i64 (IntKind.wrap .i64 (i72 + 1))], t83.2)) else some (.inr (0, [], t73.2))) ([nthA v64 1, t67.1, t70.1, .int .i64 0], t70.2)) fun r91 => sel [(fun v92 S93 => bO (Cn Bk 8 f_spindlelaw18_known 0 [] S93) fun t94 => asBool t94.1 fun b95 => some (ctlV.tr S0 (.bool b95) t94.2)), (fun v96 S97 => asBool (nthA v96 0) fun b98 => some (ctlV.tr S0 (.bool b98) S97))] r91.1 r91.2.1 r91.2.2), (fun v99 S100 => asBool (nthA v99 0) fun b101 => some (ctlV.tr S0 (.bool b101) S100))] 0 [.str s, .ptr p 0] T = some (AV.bool true, S') := by
    intro T hW
    obtain ⟨U1, k1, u1, v1, n1⟩ := read_c hB 7 (S := T) s (by omega)
    have hW1 := hW.fr v1 (by simp) (by simp)
    obtain ⟨W, part, n, hX, hbs⟩ := id hW1
    have hblen := congrArg List.length hbs
    rw [bitsW_len] at hblen
    have hn8 := hX.n8
    have k2 := wbytes_c hB 7 hX (by omega)
    have hpl : (pad W part n).length ≤ W.length + 1 := by unfold pad; split <;> simp
    have hH2 : Has (strB (pad W part n)) 0 bs := by
      rw [hbs]
      exact has_pad hX.b8 hX.n8 hX.pt (fun j hj => by rw [strB_get, List.getElem?_eq_getElem hj]; rfl) (by rw [strB_size]; exact Nat.le_refl _)
    have hsz2 : (strB (pad W part n)).size ≤ 1099511627776 := by rw [strB_size]; omega
    generalize strB (pad W part n) = s2 at k2 hH2 hsz2
    obtain ⟨U2, k3, u2, v2, n2⟩ := read_c hB 7 (S := U1) s2 hsz2
    have u1' := u1.fr v2 (by simp)
    have hW2 := hW1.fr v2 (by simp) (by simp)
    have lp := hW.lt
    have lu := u1.lt
    simp only [eql_ptr31, eql_nilp31, eql_ptr38, eql_nilp38, eql_ptr54, eql_nilp54, eql_ptr62, eql_nilp62, eql_ptr137, eql_nilp137, eql_ptr149, eql_nilp149, eql_b4, neq_b4, len_nils37, len_is37, len_hs37, len_nils71, len_is71, len_hs71, len_nils76, len_is76, len_hs76, len_nils81, len_is81, len_hs81, len_nils100, len_is100, len_hs100, len_nils103, len_is103, len_hs103, bO_s, gB_t, asBool_b, asInt_i, asAgg_a, asTup_a, asStr_s, asCons_c, asNil_n, nthA_0, nthA_s, aggCells_a, addV_p, addV_i, seeV_p, seeV_i, same_nil, same_1, same_2, tr_v, decide_true, decide_false, Bool.false_eq_true, if_false, if_true, Bool.not_true, Bool.not_false, Bool.and_true, Bool.true_and, Bool.and_self, List.getElem?_cons_zero, List.getElem?_cons_succ, Nat.zero_add, Nat.add_zero, beq_self_eq_true, bne_self_eq_false, Int.reduceBNe, Int.reduceBEq, Int.reduceLT, Int.reduceGT, Int.reduceLE, Int.reduceGE, Nat.reduceAdd, Nat.reduceMul, Nat.reduceLeDiff, sel, k1, k2, k3]
    have d1 : T.next ≠ U1.next := by omega
    have d2 : p ≠ T.next ∧ q ≠ T.next := by omega
    have d3 : p ≠ U1.next ∧ q ≠ U1.next := by omega
    generalize T.next = ra at u1' d1 d2 ⊢
    generalize U1.next = rb at u2 d1 d3 ⊢
    refine loop_meas (fun o => ∃ S', o = some (AV.bool true, S')) (fun t st => ∃ i U, i + t = bs.length ∧ st = ([.ptr p 0, .ptr ra 0, .ptr rb 0, .int .i64 (i : Int)], U) ∧ Wr U p q bs ∧ Rdr U ra s i ∧ Rdr U rb s2 i) bs.length
      ⟨0, U2, by omega, rfl, hW2, u1', u2⟩ ?_
    rintro t st ⟨i, U, hit, rfl, hU, ha, hb⟩
    have k4 := wlen_c hB 7 hU (by omega)
    cases t with
    | zero =>
      have c1 : ¬ ((i : Int) < (bs.length : Int)) := by omega
      exact .inl ⟨(0, [], U), by simp only [eql_ptr31, eql_nilp31, eql_ptr38, eql_nilp38, eql_ptr54, eql_nilp54, eql_ptr62, eql_nilp62, eql_ptr137, eql_nilp137, eql_ptr149, eql_nilp149, eql_b4, neq_b4, len_nils37, len_is37, len_hs37, len_nils71, len_is71, len_hs71, len_nils76, len_is76, len_hs76, len_nils81, len_is81, len_hs81, len_nils100, len_is100, len_hs100, len_nils103, len_is103, len_hs103, bO_s, gB_t, asBool_b, asInt_i, asAgg_a, asTup_a, asStr_s, asCons_c, asNil_n, nthA_0, nthA_s, aggCells_a, addV_p, addV_i, seeV_p, seeV_i, same_nil, same_1, same_2, tr_v, decide_true, decide_false, Bool.false_eq_true, if_false, if_true, Bool.not_true, Bool.not_false, Bool.and_true, Bool.true_and, Bool.and_self, List.getElem?_cons_zero, List.getElem?_cons_succ, Nat.zero_add, Nat.add_zero, beq_self_eq_true, bne_self_eq_false, Int.reduceBNe, Int.reduceBEq, Int.reduceLT, Int.reduceGT, Int.reduceLE, Int.reduceGE, Nat.reduceAdd, Nat.reduceMul, Nat.reduceLeDiff, k4, c1], U, by simp only [eql_ptr31, eql_nilp31, eql_ptr38, eql_nilp38, eql_ptr54, eql_nilp54, eql_ptr62, eql_nilp62, eql_ptr137, eql_nilp137, eql_ptr149, eql_nilp149, eql_b4, neq_b4, len_nils37, len_is37, len_hs37, len_nils71, len_is71, len_hs71, len_nils76, len_is76, len_hs76, len_nils81, len_is81, len_hs81, len_nils100, len_is100, len_hs100, len_nils103, len_is103, len_hs103, bO_s, gB_t, asBool_b, asInt_i, asAgg_a, asTup_a, asStr_s, asCons_c, asNil_n, nthA_0, nthA_s, aggCells_a, addV_p, addV_i, seeV_p, seeV_i, same_nil, same_1, same_2, tr_v, decide_true, decide_false, Bool.false_eq_true, if_false, if_true, Bool.not_true, Bool.not_false, Bool.and_true, Bool.true_and, Bool.and_self, List.getElem?_cons_zero, List.getElem?_cons_succ, Nat.zero_add, Nat.add_zero, beq_self_eq_true, bne_self_eq_false, Int.reduceBNe, Int.reduceBEq, Int.reduceLT, Int.reduceGT, Int.reduceLE, Int.reduceGE, Nat.reduceAdd, Nat.reduceMul, Nat.reduceLeDiff, sel, e0]⟩
    | succ t =>
      have hi : i < bs.length := by omega
      have c1 : (i : Int) < (bs.length : Int) := by omega
      have y1 := hH.2 i hi
      have y2 := hH2.2 i hi
      rw [Nat.zero_add] at y1 y2
      have z1 := hH.1
      have z2 := hH2.1
      obtain ⟨V1, k5, v3, g3⟩ := bit_ok hB 5 ha (by omega)
      obtain ⟨V2, k6, v4, g4⟩ := bit_ok hB 5 (hb.fr g3 (by simp [Ne.symm d1])) (by omega)
      have w1 : IntKind.wrap .i64 ((i : Int) + 1) = ((i + 1 : Nat) : Int) := by rw [wr _ (by omega)]; omega
      rw [y1, ← y2] at k5
      exact .inr ⟨t, _, by omega, by simp only [eql_ptr31, eql_nilp31, eql_ptr38, eql_nilp38, eql_ptr54, eql_nilp54, eql_ptr62, eql_nilp62, eql_ptr137, eql_nilp137, eql_ptr149, eql_nilp149, eql_b4, neq_b4, len_nils37, len_is37, len_hs37, len_nils71, len_is71, len_hs71, len_nils76, len_is76, len_hs76, len_nils81, len_is81, len_hs81, len_nils100, len_is100, len_hs100, len_nils103, len_is103, len_hs103, bO_s, gB_t, asBool_b, asInt_i, asAgg_a, asTup_a, asStr_s, asCons_c, asNil_n, nthA_0, nthA_s, aggCells_a, addV_p, addV_i, seeV_p, seeV_i, same_nil, same_1, same_2, tr_v, decide_true, decide_false, Bool.false_eq_true, if_false, if_true, Bool.not_true, Bool.not_false, Bool.and_true, Bool.true_and, Bool.and_self, List.getElem?_cons_zero, List.getElem?_cons_succ, Nat.zero_add, Nat.add_zero, beq_self_eq_true, bne_self_eq_false, Int.reduceBNe, Int.reduceBEq, Int.reduceLT, Int.reduceGT, Int.reduceLE, Int.reduceGE, Nat.reduceAdd, Nat.reduceMul, Nat.reduceLeDiff, k4, c1, k5, k6, w1], i + 1, V2, by omega, rfl, (hU.fr g3 (by simp [d2]) (by simp [d2])).fr g4 (by simp [d3]) (by simp [d3]), v3.fr g4 (by simp [d1]), v4⟩
  cases t with
  | zero =>
    have c1 : ¬ ((i : Int) < 100) := by omega
    refine .inl ⟨(0, [.str s, .ptr p 0], T), by simp only [eql_ptr31, eql_nilp31, eql_ptr38, eql_nilp38, eql_ptr54, eql_nilp54, eql_ptr62, eql_nilp62, eql_ptr137, eql_nilp137, eql_ptr149, eql_nilp149, eql_b4, neq_b4, len_nils37, len_is37, len_hs37, len_nils71, len_is71, len_hs71, len_nils76, len_is76, len_hs76, len_nils81, len_is81, len_hs81, len_nils100, len_is100, len_hs100, len_nils103, len_is103, len_hs103, bO_s, gB_t, asBool_b, asInt_i, asAgg_a, asTup_a, asStr_s, asCons_c, asNil_n, nthA_0, nthA_s, aggCells_a, addV_p, addV_i, seeV_p, seeV_i, same_nil, same_1, same_2, tr_v, decide_true, decide_false, Bool.false_eq_true, if_false, if_true, Bool.not_true, Bool.not_false, Bool.and_true, Bool.true_and, Bool.and_self, List.getElem?_cons_zero, List.getElem?_cons_succ, Nat.zero_add, Nat.add_zero, beq_self_eq_true, bne_self_eq_false, Int.reduceBNe, Int.reduceBEq, Int.reduceLT, Int.reduceGT, Int.reduceLE, Int.reduceGE, Nat.reduceAdd, Nat.reduceMul, Nat.reduceLeDiff, c1], ?_⟩
    exact fin T hW
  | succ t =>
    have c1 : (i : Int) < 100 := by omega
    have k1 := pos_c hB 7 hR
    have w1 : IntKind.wrap .i64 ((i : Int) + 1) = ((i + 1 : Nat) : Int) := by rw [wr _ (by omega)]; omega
    have hb100 : bs.length ≤ 800 := by omega
    rcases hw12 with h1 | h1
    · have c2 : (yw == 1) = true := by simp [h1]
      obtain ⟨hc, _⟩ := hg.t1 h1
      replace hc : 1 ≤ yc ∧ yc ≤ yb := hc
      obtain ⟨T1, k2, u1, v1⟩ := zeros_c hB 5 hR yb yc
      have hW1 := hW.fr v1 (by simp [Ne.symm hne]) (by simp [hqr])
      rcases zer_back (size := yb) (total := yc) hg.b hc hble with ⟨b1, b2, b3⟩ | ⟨b1, b2, b3, b4⟩
      · rw [b2] at u1
        rw [b1] at k2
        have k3 := pos_c hB 7 u1
        have k4 := left_c hB 7 u1
        have c3 : ¬ (((8 * s.size - bs.length : Nat) : Int) ≥ 15) := by omega
        refine .inl ⟨(0, [.str s, .ptr p 0], T1), by simp only [eql_ptr31, eql_nilp31, eql_ptr38, eql_nilp38, eql_ptr54, eql_nilp54, eql_ptr62, eql_nilp62, eql_ptr137, eql_nilp137, eql_ptr149, eql_nilp149, eql_b4, neq_b4, len_nils37, len_is37, len_hs37, len_nils71, len_is71, len_hs71, len_nils76, len_is76, len_hs76, len_nils81, len_is81, len_hs81, len_nils100, len_is100, len_hs100, len_nils103, len_is103, len_hs103, bO_s, gB_t, asBool_b, asInt_i, asAgg_a, asTup_a, asStr_s, asCons_c, asNil_n, nthA_0, nthA_s, aggCells_a, addV_p, addV_i, seeV_p, seeV_i, same_nil, same_1, same_2, tr_v, decide_true, decide_false, Bool.false_eq_true, if_false, if_true, Bool.not_true, Bool.not_false, Bool.and_true, Bool.true_and, Bool.and_self, List.getElem?_cons_zero, List.getElem?_cons_succ, Nat.zero_add, Nat.add_zero, beq_self_eq_true, bne_self_eq_false, Int.reduceBNe, Int.reduceBEq, Int.reduceLT, Int.reduceGT, Int.reduceLE, Int.reduceGE, Nat.reduceAdd, Nat.reduceMul, Nat.reduceLeDiff, c1, k1, c2, k2, k3, k4, c3], ?_⟩
        exact fin T1 hW1
      · rw [b1] at k2
        obtain ⟨T2, q2, k3, r3⟩ := lput_c hB 2 hW1 (by omega) ⟨yw, ya, yb, yc, (zerR s bs.length yb yc).1⟩
        have hP : calP ⟨yw, ya, yb, yc, (zerR s bs.length yb yc).1⟩ = zerP yb yc (zerR s bs.length yb yc).1 := by subst h1; rfl
        rw [hP] at k3 r3
        rw [(zer_good hg.b hc b2).1] at k3
        have hzl := zerP_len yb yc (zerR s bs.length yb yc).1
        have k4 := wlen_c hB 7 r3.1 (by rw [List.length_append]; omega)
        have u2 := u1.fr r3.2.1 (by simp [hne, Ne.symm hqr])
        have k5 := pos_c hB 7 u2
        rw [b4, ← List.length_append] at k5 u2
        simp only [Cal.cells] at k3
        have hnq : q2 ≠ r := by
          have := u1.lt
          rcases r3.2.2 with h | h
          · rw [h]; exact hqr
          · omega
        refine .inr ⟨t, _, by omega, by simp only [eql_ptr31, eql_nilp31, eql_ptr38, eql_nilp38, eql_ptr54, eql_nilp54, eql_ptr62, eql_nilp62, eql_ptr137, eql_nilp137, eql_ptr149, eql_nilp149, eql_b4, neq_b4, len_nils37, len_is37, len_hs37, len_nils71, len_is71, len_hs71, len_nils76, len_is76, len_hs76, len_nils81, len_is81, len_hs81, len_nils100, len_is100, len_hs100, len_nils103, len_is103, len_hs103, bO_s, gB_t, asBool_b, asInt_i, asAgg_a, asTup_a, asStr_s, asCons_c, asNil_n, nthA_0, nthA_s, aggCells_a, addV_p, addV_i, seeV_p, seeV_i, same_nil, same_1, same_2, tr_v, decide_true, decide_false, Bool.false_eq_true, if_false, if_true, Bool.not_true, Bool.not_false, Bool.and_true, Bool.true_and, Bool.and_self, List.getElem?_cons_zero, List.getElem?_cons_succ, Nat.zero_add, Nat.add_zero, beq_self_eq_true, bne_self_eq_false, Int.reduceBNe, Int.reduceBEq, Int.reduceLT, Int.reduceGT, Int.reduceLE, Int.reduceGE, Nat.reduceAdd, Nat.reduceMul, Nat.reduceLeDiff, c1, k1, c2, k2, setCells, List.set_cons_zero, List.set_cons_succ, List.length_cons, List.length_nil, List.drop_zero, List.take_succ_cons, List.take_zero, k3, k4, k5, w1] <;> rfl, i + 1, T2, q2, bs ++ (zerP yb yc (zerR s bs.length yb yc).1).2, (zerR s bs.length yb yc).1, by omega, rfl, u2, r3.1, hnq, ?_⟩
        rw [Has.app, Nat.zero_add]
        exact ⟨hH, b3⟩
    · have c2 : (yw == 1) = false := by simp [h1]
      obtain ⟨hc, _⟩ := hg.t2 (show yw = 2 from h1)
      replace hc : 0 ≤ ya ∧ ya ≤ 15 := hc
      obtain ⟨T1, k2, u1, v1⟩ := run_c hB 4 hR ya
      have hW1 := hW.fr v1 (by simp [Ne.symm hne]) (by simp [hqr])
      rcases run_back (left := ya) hc hble with ⟨b1, b2, b3⟩ | ⟨b1, b2, b3, b4⟩
      · rw [b2] at u1
        rw [b1] at k2
        have k3 := pos_c hB 7 u1
        have k4 := left_c hB 7 u1
        have c3 : ¬ (((8 * s.size - bs.length : Nat) : Int) ≥ 15) := by omega
        refine .inl ⟨(0, [.str s, .ptr p 0], T1), by simp only [eql_ptr31, eql_nilp31, eql_ptr38, eql_nilp38, eql_ptr54, eql_nilp54, eql_ptr62, eql_nilp62, eql_ptr137, eql_nilp137, eql_ptr149, eql_nilp149, eql_b4, neq_b4, len_nils37, len_is37, len_hs37, len_nils71, len_is71, len_hs71, len_nils76, len_is76, len_hs76, len_nils81, len_is81, len_hs81, len_nils100, len_is100, len_hs100, len_nils103, len_is103, len_hs103, bO_s, gB_t, asBool_b, asInt_i, asAgg_a, asTup_a, asStr_s, asCons_c, asNil_n, nthA_0, nthA_s, aggCells_a, addV_p, addV_i, seeV_p, seeV_i, same_nil, same_1, same_2, tr_v, decide_true, decide_false, Bool.false_eq_true, if_false, if_true, Bool.not_true, Bool.not_false, Bool.and_true, Bool.true_and, Bool.and_self, List.getElem?_cons_zero, List.getElem?_cons_succ, Nat.zero_add, Nat.add_zero, beq_self_eq_true, bne_self_eq_false, Int.reduceBNe, Int.reduceBEq, Int.reduceLT, Int.reduceGT, Int.reduceLE, Int.reduceGE, Nat.reduceAdd, Nat.reduceMul, Nat.reduceLeDiff, c1, k1, c2, k2, k3, k4, c3], ?_⟩
        exact fin T1 hW1
      · rw [b1] at k2
        obtain ⟨T2, q2, k3, r3⟩ := lput_c hB 2 hW1 (by omega) ⟨yw, ya, yb, yc, (runR s bs.length ya).1⟩
        have hP : calP ⟨yw, ya, yb, yc, (runR s bs.length ya).1⟩ = runP ya (runR s bs.length ya).1 := by subst h1; rfl
        rw [hP] at k3 r3
        rw [(run_good hc b2).1] at k3
        have hzl := runP_len ya (runR s bs.length ya).1
        have k4 := wlen_c hB 7 r3.1 (by rw [List.length_append]; omega)
        have u2 := u1.fr r3.2.1 (by simp [hne, Ne.symm hqr])
        have k5 := pos_c hB 7 u2
        rw [b4, ← List.length_append] at k5 u2
        simp only [Cal.cells] at k3
        have hnq : q2 ≠ r := by
          have := u1.lt
          rcases r3.2.2 with h | h
          · rw [h]; exact hqr
          · omega
        refine .inr ⟨t, _, by omega, by simp only [eql_ptr31, eql_nilp31, eql_ptr38, eql_nilp38, eql_ptr54, eql_nilp54, eql_ptr62, eql_nilp62, eql_ptr137, eql_nilp137, eql_ptr149, eql_nilp149, eql_b4, neq_b4, len_nils37, len_is37, len_hs37, len_nils71, len_is71, len_hs71, len_nils76, len_is76, len_hs76, len_nils81, len_is81, len_hs81, len_nils100, len_is100, len_hs100, len_nils103, len_is103, len_hs103, bO_s, gB_t, asBool_b, asInt_i, asAgg_a, asTup_a, asStr_s, asCons_c, asNil_n, nthA_0, nthA_s, aggCells_a, addV_p, addV_i, seeV_p, seeV_i, same_nil, same_1, same_2, tr_v, decide_true, decide_false, Bool.false_eq_true, if_false, if_true, Bool.not_true, Bool.not_false, Bool.and_true, Bool.true_and, Bool.and_self, List.getElem?_cons_zero, List.getElem?_cons_succ, Nat.zero_add, Nat.add_zero, beq_self_eq_true, bne_self_eq_false, Int.reduceBNe, Int.reduceBEq, Int.reduceLT, Int.reduceGT, Int.reduceLE, Int.reduceGE, Nat.reduceAdd, Nat.reduceMul, Nat.reduceLeDiff, c1, k1, c2, k2, setCells, List.set_cons_zero, List.set_cons_succ, List.length_cons, List.length_nil, List.drop_zero, List.take_succ_cons, List.take_zero, k3, k4, k5, w1] <;> rfl, i + 1, T2, q2, bs ++ (runP ya (runR s bs.length ya).1).2, (runR s bs.length ya).1, by omega, rfl, u2, r3.1, hnq, ?_⟩
        rw [Has.app, Nat.zero_add]
        exact ⟨hH, b3⟩
end Go.Ab.tV
