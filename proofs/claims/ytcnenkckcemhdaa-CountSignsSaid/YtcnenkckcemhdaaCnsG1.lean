/- What spindlelaw15.turn does to a macroblock in the heap. -/
import Derived.Test.YtcnenkckcemhdaaCnsF2
set_option maxRecDepth 100000
set_option linter.unusedSimpArgs false
set_option linter.unusedVariables false
set_option linter.unusedSectionVars false
namespace Go.Ab.tNearU
open Go Go.Proofs

theorem tr_or (S S' : Heap) (v : AV) : ctlW.tr S v S' = (v, S') ∨ (ctlW.tr S v S' = (v, S) ∧ ∀ i, i < S.next → S'.blk i = S.blk i) := by
  simp only [ctlW, trim]
  split
  · rename_i h; exact .inr ⟨rfl, h.2.2⟩
  · exact .inl rfl
theorem putV_row {T : Heap} {id k : Nat} {cs : List AV} {v : AV} (hb : T.blk id = some cs) (hk : k < cs.length) : putV (.ptr id k) [v] T = some (T.set id (some (cs.set k v))) := by
  simp only [putV, hb, List.length_cons, List.length_nil, setCells]
  rw [if_pos (by omega)]
theorem set_set (T : Heap) (i : Nat) (a b : Option (List AV)) : (T.set i a).set i b = T.set i b := by
  refine heap_ext (funext fun j => ?_) rfl rfl
  by_cases h : j = i <;> simp [Heap.set, h]
theorem set_same {T : Heap} {i : Nat} {a : Option (List AV)} (h : T.blk i = a) : T.set i a = T := by
  refine heap_ext (funext fun j => ?_) rfl rfl
  by_cases hj : j = i
  · subst hj; rw [set_blk, h]
  · rw [set_other _ _ hj]
def iz (a : AV) : Nat := if isNz a = true then 1 else 0
theorem nzL_set' (l : List AV) {k : Nat} (h : k < l.length) (a : AV) : nzL (l.set k a) + iz l[k] = nzL l + iz a := nzL_set l h a
theorem nzL_swap {l : List AV} {i j : Nat} (hi : i < l.length) (hj : j < l.length) (hij : i ≠ j) : nzL ((l.set i l[j]).set j l[i]) = nzL l := by
  have h1 := nzL_set' l hi l[j]
  have hj' : j < (l.set i l[j]).length := by rw [List.length_set]; exact hj
  have h2 := nzL_set' (l.set i l[j]) hj' l[i]
  rw [List.getElem_set_ne hij] at h2
  omega
theorem sq_ne {y : Int} (hy : -128 ≤ y ∧ y ≤ 127) : IntKind.wrap .i64 (1 + IntKind.wrap .i64 (IntKind.wrap .i64 y * IntKind.wrap .i64 y)) ≠ 0 := by
  have h1 : IntKind.wrap .i64 y = y := wr _ (by omega)
  have h2 := Int.natAbs_mul_self (a := y)
  have h3 : y.natAbs ≤ 128 := by omega
  have h4 : y.natAbs * y.natAbs ≤ 128 * 128 := Nat.mul_le_mul h3 h3
  have h5 : 0 ≤ y * y ∧ y * y ≤ 16384 := by rw [← h2]; omega
  rw [h1, wr (y * y) (by omega), wr (1 + y * y) (by omega)]
  omega
theorem aIdx_row {id n k : Nat} (h : k < n) : aIdx 1 (.hs id 0 n 1) (k : Int) = some (.ptr id k) := by
  simp only [aIdx, Int.toNat_natCast]
  rw [if_pos ⟨by omega, by omega, trivial⟩, Nat.mul_one, Nat.zero_add]
set_option maxHeartbeats 1000000 in
theorem turn_c {B : CallF} (hB : Silent B) (k : Nat) {T : Heap} {d m : M} {ids : List Nat} (h : DM true T d m ids) (hg : Good 1000 m) (hlt : ∀ j ∈ ids, j < T.next) {y : Int} (hy : -128 ≤ y ∧ y ≤ 127) :
    ∃ T' b', Cn B (k + 1) f_spindlelaw15_turn 0 [.agg d.cells, .int .i8 y] T = some (.tup [], T') ∧ DM true T' d { m with b := b' } ids ∧ Rows 1000 b' ∧ RelB (· = ·) m.b b' ∧ T'.next = T.next ∧ T'.cx = T.cx ∧ ∀ j, j ∉ ids → T'.blk j = T.blk j := by
  rw [c_spindlelaw15_turn _ _ _ _ _ (hB _ _ _ _ (by decide)), T_spindlelaw15_turn]
  have hdp : d.pre.length = 23 := by rw [h.pre]; exact hg.pre
  have ld := M.len hdp
  have g27 := M.g27 hdp
  have hn1000 := hg.b.rl
  simp only [bO_s, gB_t, asBool_b, asInt_i, asAgg_a, asTup_a, asStr_s, asCons_c, nthA_0, nthA_s, aggCells_a, addV_p, seeV_p, seeV_i, same_nil, tr_same, eql4, neq4, decide_true, decide_false, Bool.false_eq_true, if_false, if_true, Bool.not_true, Bool.not_false, Bool.and_true, Bool.true_and, Bool.and_self, List.getElem?_cons_zero, List.getElem?_cons_succ, Nat.zero_add, Nat.add_zero, beq_self_eq_true, bne_self_eq_false, Int.reduceBNe, Int.reduceBEq, Int.reduceLT, Int.reduceGT, Int.reduceLE, Int.reduceGE, Nat.reduceAdd, Nat.reduceMul, Nat.reduceLeDiff, ld]
  refine loop_ex (fun (o : Option (AV × Heap)) => ∃ T' b', o = some (.tup [], T') ∧ DM true T' d { m with b := b' } ids ∧ Rows 1000 b' ∧ RelB (· = ·) m.b b' ∧ T'.next = T.next ∧ T'.cx = T.cx ∧ ∀ j, j ∉ ids → T'.blk j = T.blk j)
    (fun i s => ∃ T' b', s = ([.int .i8 y, .agg d.cells, .int .i64 (i : Int)], T') ∧ DM true T' d { m with b := b' } ids ∧ Rows 1000 b' ∧ RelB (· = ·) m.b b' ∧ T'.next = T.next ∧ T'.cx = T.cx ∧ ∀ j, j ∉ ids → T'.blk j = T.blk j)
    (fun x => ∃ T' b', x = (0, [], T') ∧ DM true T' d { m with b := b' } ids ∧ Rows 1000 b' ∧ RelB (· = ·) m.b b' ∧ T'.next = T.next ∧ T'.cx = T.cx ∧ ∀ j, j ∉ ids → T'.blk j = T.blk j) (cut m.b).length
    ⟨T, m.b, rfl, h, hg.b, RelB.refl (fun _ => rfl) _, rfl, rfl, fun _ _ => rfl⟩ ?_ ?_
  · rintro i s hi ⟨T1, b', rfl, hd, hR, hrel, hnx, hcx, hfr⟩
    have hg1 : Good 1000 { m with b := b' } := ⟨hg.pre, hg.r, hg.v, hR⟩
    have hdl := dm_len hd hg1
    have hcl : (cut b').length = (cut m.b).length := hrel.1
    simp only [hcl] at hdl
    by_cases hin : i < (cut m.b).length
    · have hlt' : (i : Int) < ((cut m.b).length : Int) := by omega
      have hw : IntKind.wrap .i64 ((i : Int) + 1) = ((i + 1 : Nat) : Int) := by rw [wr _ (by omega)]; omega
      have hj : i < (cut b').length := by omega
      obtain ⟨qb, outs, x, p1, p2, p3, p4⟩ := hd.writeB hj
      have hixb : aIdx 1 d.b (i : Int) = some (.ptr qb i) := by rw [p1]; exact aIdx_row (by show i < (cut b').length; omega)
      rcases p4 with ⟨rfl, hno⟩ | ⟨id, n, cs, rfl, r1, r2, r3, r4, r5⟩
      · have l25 : aLen Try.prog 25 .nils = some (.int .i64 0) := by kernel_rfl
        have w0 : IntKind.wrap .i64 (Int.tdiv 0 2) = 0 := by decide
        have n0 : ¬ ((0 : Int) < 0) := by omega
        refine .inr ⟨hin, ([.int .i8 y, .agg d.cells, .int .i64 ((i + 1 : Nat) : Int)], T1), ?_, T1, b', rfl, hd, hR, hrel, hnx, hcx, hfr⟩
        simp only [bO_s, gB_t, asBool_b, asInt_i, asAgg_a, asTup_a, asStr_s, asCons_c, nthA_0, nthA_s, aggCells_a, addV_p, seeV_p, seeV_i, same_nil, tr_same, eql4, neq4, decide_true, decide_false, Bool.false_eq_true, if_false, if_true, Bool.not_true, Bool.not_false, Bool.and_true, Bool.true_and, Bool.and_self, List.getElem?_cons_zero, List.getElem?_cons_succ, Nat.zero_add, Nat.add_zero, beq_self_eq_true, bne_self_eq_false, Int.reduceBNe, Int.reduceBEq, Int.reduceLT, Int.reduceGT, Int.reduceLE, Int.reduceGE, Nat.reduceAdd, Nat.reduceMul, Nat.reduceLeDiff, g27, hdl, hlt', hixb, p2, p3]
        rw [bloop]
        simp only [bO_s, gB_t, asBool_b, asInt_i, asAgg_a, asTup_a, asStr_s, asCons_c, nthA_0, nthA_s, aggCells_a, addV_p, seeV_p, seeV_i, same_nil, tr_same, eql4, neq4, decide_true, decide_false, Bool.false_eq_true, if_false, if_true, Bool.not_true, Bool.not_false, Bool.and_true, Bool.true_and, Bool.and_self, List.getElem?_cons_zero, List.getElem?_cons_succ, Nat.zero_add, Nat.add_zero, beq_self_eq_true, bne_self_eq_false, Int.reduceBNe, Int.reduceBEq, Int.reduceLT, Int.reduceGT, Int.reduceLE, Int.reduceGE, Nat.reduceAdd, Nat.reduceMul, Nat.reduceLeDiff, l25, w0, n0, sel]
        rw [bloop]
        simp only [bO_s, gB_t, asBool_b, asInt_i, asAgg_a, asTup_a, asStr_s, asCons_c, nthA_0, nthA_s, aggCells_a, addV_p, seeV_p, seeV_i, same_nil, tr_same, eql4, neq4, decide_true, decide_false, Bool.false_eq_true, if_false, if_true, Bool.not_true, Bool.not_false, Bool.and_true, Bool.true_and, Bool.and_self, List.getElem?_cons_zero, List.getElem?_cons_succ, Nat.zero_add, Nat.add_zero, beq_self_eq_true, bne_self_eq_false, Int.reduceBNe, Int.reduceBEq, Int.reduceLT, Int.reduceGT, Int.reduceLE, Int.reduceGE, Nat.reduceAdd, Nat.reduceMul, Nat.reduceLeDiff, l25, n0, sel, hw]
      · have l25 : aLen Try.prog 25 (.hs id 0 n 1) = some (.int .i64 (n : Int)) := by kernel_rfl
        have hRi := hR.mem _ (List.getElem_mem hj)
        rw [r1] at hRi
        have hI : ints cs ∧ n ≤ 1000 := by
          obtain h0 | ⟨n', cs', h0, h1, _, h3⟩ := hRi
          · cases h0
          · cases h0; exact ⟨h3, h1⟩
        have hIn := hI.2
        have hdiv : Int.tdiv (n : Int) 2 = ((n / 2 : Nat) : Int) := rfl
        have hw2 : IntKind.wrap .i64 ((n / 2 : Nat) : Int) = ((n / 2 : Nat) : Int) := wr _ (by omega)
        have hwn : IntKind.wrap .i64 ((n : Int) - 1) = (n : Int) - 1 := wr _ (by omega)
        -- what is left after both loops
        have key : ∀ cs' : List AV, cs'.length = n → ints cs' → nzL cs' = nzL cs → ∃ T' b2, T1.set id (some cs') = T' ∧ DM true T' d { m with b := b2 } ids ∧ Rows 1000 b2 ∧ RelB (· = ·) m.b b2 ∧ T'.next = T.next ∧ T'.cx = T.cx ∧ ∀ j, j ∉ ids → T'.blk j = T.blk j := by
          intro cs' e1 e2 e3
          obtain ⟨s1, s2⟩ := relB_set (ρ := (· = ·)) (fun _ => rfl) hR hj r1 (cs' := cs') (by omega) e2 e3.symm
          exact ⟨_, _, rfl, r5 cs' e1 (ints_plain e2), s1, hrel.trans (fun a b => a.trans b) s2, hnx, hcx, fun j hj => by rw [set_other _ _ (fun he => hj (by rw [he]; exact r4))]; exact hfr j hj⟩
        refine .inr ⟨hin, ?_⟩
        simp only [bO_s, gB_t, asBool_b, asInt_i, asAgg_a, asTup_a, asStr_s, asCons_c, nthA_0, nthA_s, aggCells_a, addV_p, seeV_p, seeV_i, same_nil, tr_same, eql4, neq4, decide_true, decide_false, Bool.false_eq_true, if_false, if_true, Bool.not_true, Bool.not_false, Bool.and_true, Bool.true_and, Bool.and_self, List.getElem?_cons_zero, List.getElem?_cons_succ, Nat.zero_add, Nat.add_zero, beq_self_eq_true, bne_self_eq_false, Int.reduceBNe, Int.reduceBEq, Int.reduceLT, Int.reduceGT, Int.reduceLE, Int.reduceGE, Nat.reduceAdd, Nat.reduceMul, Nat.reduceLeDiff, g27, hdl, hlt', hixb, p2, p3]
        refine loop_ex (fun (o : Option (LSt ⊕ (Nat × LSt))) => ∃ s', o = some (.inl s') ∧ ∃ T' b', s' = ([.int .i8 y, .agg d.cells, .int .i64 ((i + 1 : Nat) : Int)], T') ∧ DM true T' d { m with b := b' } ids ∧ Rows 1000 b' ∧ RelB (· = ·) m.b b' ∧ T'.next = T.next ∧ T'.cx = T.cx ∧ ∀ j, j ∉ ids → T'.blk j = T.blk j)
          (fun kk s => ∃ cs' : List AV, s = ([.int .i8 y, .agg d.cells, .int .i64 (i : Int), .hs id 0 n 1, .int .i64 (kk : Int)], T1.set id (some cs')) ∧ cs'.length = n ∧ ints cs' ∧ nzL cs' = nzL cs)
          (fun x => ∃ cs' : List AV, x = (0, [.int .i8 y, .agg d.cells, .int .i64 (i : Int), .hs id 0 n 1], T1.set id (some cs')) ∧ cs'.length = n ∧ ints cs' ∧ nzL cs' = nzL cs) (n / 2)
          ⟨cs, by rw [set_same r2]; rfl, r3, hI.1, rfl⟩ ?_ ?_
        · rintro kk s hk ⟨cs', rfl, c1, c2, c3⟩
          by_cases hkn : kk < n / 2
          · have hkl : (kk : Int) < ((n / 2 : Nat) : Int) := by omega
            have hwk : IntKind.wrap .i64 ((kk : Int) + 1) = ((kk + 1 : Nat) : Int) := by rw [wr _ (by omega)]; omega
            have hwj : IntKind.wrap .i64 ((n : Int) - 1 - (kk : Int)) = ((n - 1 - kk : Nat) : Int) := by rw [wr _ (by omega)]; omega
            have e1 : kk < cs'.length := by omega
            have e2 : n - 1 - kk < cs'.length := by omega
            obtain ⟨u, hu⟩ := c2 _ (List.getElem_mem e1)
            obtain ⟨v, hv⟩ := c2 _ (List.getElem_mem e2)
            have gu : cs'[kk]? = some (.int .i64 u) := by rw [List.getElem?_eq_getElem e1, hu]
            have gv : cs'[n - 1 - kk]? = some (.int .i64 v) := by rw [List.getElem?_eq_getElem e2, hv]
            have i1 := aIdx_row (id := id) (show kk < n by omega)
            have i2 := aIdx_row (id := id) (show n - 1 - kk < n by omega)
            have hb1 : (T1.set id (some cs')).blk id = some cs' := set_blk _ _ _
            have w1 := putV_row (v := .int .i64 v) hb1 e1
            rw [set_set] at w1
            have hb2 : (T1.set id (some (cs'.set kk (.int .i64 v)))).blk id = some (cs'.set kk (.int .i64 v)) := set_blk _ _ _
            have w2 := putV_row (v := .int .i64 u) hb2 (k := n - 1 - kk) (by rw [List.length_set]; exact e2)
            rw [set_set] at w2
            refine .inr ⟨hkn, _, ?_, (cs'.set kk (.int .i64 v)).set (n - 1 - kk) (.int .i64 u), rfl, by rw [List.length_set, List.length_set]; exact c1, ints_set (ints_set c2 _ _) _ _, ?_⟩
            · simp only [bO_s, gB_t, asBool_b, asInt_i, asAgg_a, asTup_a, asStr_s, asCons_c, nthA_0, nthA_s, aggCells_a, addV_p, seeV_p, seeV_i, same_nil, tr_same, eql4, neq4, decide_true, decide_false, Bool.false_eq_true, if_false, if_true, Bool.not_true, Bool.not_false, Bool.and_true, Bool.true_and, Bool.and_self, List.getElem?_cons_zero, List.getElem?_cons_succ, Nat.zero_add, Nat.add_zero, beq_self_eq_true, bne_self_eq_false, Int.reduceBNe, Int.reduceBEq, Int.reduceLT, Int.reduceGT, Int.reduceLE, Int.reduceGE, Nat.reduceAdd, Nat.reduceMul, Nat.reduceLeDiff, l25, hdiv, hw2, hkl, hwn, hwj, i1, i2, hb1, gu, gv, w1, w2, hwk]
            · have := nzL_swap e1 e2 (by omega)
              rw [hu, hv] at this
              rw [this]; exact c3
          · have hkl : ¬ (kk : Int) < ((n / 2 : Nat) : Int) := by omega
            exact .inl ⟨_, by simp only [bO_s, gB_t, asBool_b, asInt_i, asAgg_a, asTup_a, asStr_s, asCons_c, nthA_0, nthA_s, aggCells_a, addV_p, seeV_p, seeV_i, same_nil, tr_same, eql4, neq4, decide_true, decide_false, Bool.false_eq_true, if_false, if_true, Bool.not_true, Bool.not_false, Bool.and_true, Bool.true_and, Bool.and_self, List.getElem?_cons_zero, List.getElem?_cons_succ, Nat.zero_add, Nat.add_zero, beq_self_eq_true, bne_self_eq_false, Int.reduceBNe, Int.reduceBEq, Int.reduceLT, Int.reduceGT, Int.reduceLE, Int.reduceGE, Nat.reduceAdd, Nat.reduceMul, Nat.reduceLeDiff, l25, hdiv, hw2, hkl], cs', rfl, c1, c2, c3⟩
        · rintro x ⟨cs1, rfl, c1, c2, c3⟩
          simp only [bO_s, gB_t, asBool_b, asInt_i, asAgg_a, asTup_a, asStr_s, asCons_c, nthA_0, nthA_s, aggCells_a, addV_p, seeV_p, seeV_i, same_nil, tr_same, eql4, neq4, decide_true, decide_false, Bool.false_eq_true, if_false, if_true, Bool.not_true, Bool.not_false, Bool.and_true, Bool.true_and, Bool.and_self, List.getElem?_cons_zero, List.getElem?_cons_succ, Nat.zero_add, Nat.add_zero, beq_self_eq_true, bne_self_eq_false, Int.reduceBNe, Int.reduceBEq, Int.reduceLT, Int.reduceGT, Int.reduceLE, Int.reduceGE, Nat.reduceAdd, Nat.reduceMul, Nat.reduceLeDiff, sel]
          refine loop_ex (fun (o : Option (LSt ⊕ (Nat × LSt))) => ∃ s', o = some (.inl s') ∧ ∃ T' b', s' = ([.int .i8 y, .agg d.cells, .int .i64 ((i + 1 : Nat) : Int)], T') ∧ DM true T' d { m with b := b' } ids ∧ Rows 1000 b' ∧ RelB (· = ·) m.b b' ∧ T'.next = T.next ∧ T'.cx = T.cx ∧ ∀ j, j ∉ ids → T'.blk j = T.blk j)
            (fun kk s => ∃ cs' : List AV, s = ([.int .i8 y, .agg d.cells, .int .i64 (i : Int), .hs id 0 n 1, .int .i64 (kk : Int)], T1.set id (some cs')) ∧ cs'.length = n ∧ ints cs' ∧ nzL cs' = nzL cs)
            (fun x => ∃ cs' : List AV, x = (0, [.int .i8 y, .agg d.cells, .int .i64 (i : Int)], T1.set id (some cs')) ∧ cs'.length = n ∧ ints cs' ∧ nzL cs' = nzL cs) n
            ⟨cs1, rfl, c1, c2, c3⟩ ?_ ?_
          · rintro kk s hk ⟨cs', rfl, c1, c2, c3⟩
            by_cases hkn : kk < n
            · have hkl : (kk : Int) < (n : Int) := by omega
              have hwk : IntKind.wrap .i64 ((kk : Int) + 1) = ((kk + 1 : Nat) : Int) := by rw [wr _ (by omega)]; omega
              have e1 : kk < cs'.length := by omega
              obtain ⟨u, hu⟩ := c2 _ (List.getElem_mem e1)
              have gu : cs'[kk]? = some (.int .i64 u) := by rw [List.getElem?_eq_getElem e1, hu]
              have i1 := aIdx_row (id := id) hkn
              have hb1 : (T1.set id (some cs')).blk id = some cs' := set_blk _ _ _
              by_cases hu0 : u = 0
              · have hub : (u != 0) = false := by simp [hu0]
                refine .inr ⟨hkn, _, ?_, cs', rfl, c1, c2, c3⟩
                simp only [bO_s, gB_t, asBool_b, asInt_i, asAgg_a, asTup_a, asStr_s, asCons_c, nthA_0, nthA_s, aggCells_a, addV_p, seeV_p, seeV_i, same_nil, tr_same, eql4, neq4, decide_true, decide_false, Bool.false_eq_true, if_false, if_true, Bool.not_true, Bool.not_false, Bool.and_true, Bool.true_and, Bool.and_self, List.getElem?_cons_zero, List.getElem?_cons_succ, Nat.zero_add, Nat.add_zero, beq_self_eq_true, bne_self_eq_false, Int.reduceBNe, Int.reduceBEq, Int.reduceLT, Int.reduceGT, Int.reduceLE, Int.reduceGE, Nat.reduceAdd, Nat.reduceMul, Nat.reduceLeDiff, l25, hkl, i1, hb1, gu, hub, hwk]
              · have hub : (u != 0) = true := by simp [hu0]
                obtain ⟨z, hz⟩ : ∃ z, IntKind.wrap .i64 (1 + IntKind.wrap .i64 (IntKind.wrap .i64 y * IntKind.wrap .i64 y)) = z := ⟨_, rfl⟩
                have hz0 : z ≠ 0 := hz ▸ sq_ne hy
                have w1 := putV_row (v := .int .i64 z) hb1 e1
                rw [set_set] at w1
                refine .inr ⟨hkn, ([.int .i8 y, .agg d.cells, .int .i64 (i : Int), .hs id 0 n 1, .int .i64 ((kk + 1 : Nat) : Int)], T1.set id (some (cs'.set kk (.int .i64 z)))), ?_, cs'.set kk (.int .i64 z), rfl, (List.length_set ..).trans c1, ints_set c2 kk _, ?_⟩
                · simp only [bO_s, gB_t, asBool_b, asInt_i, asAgg_a, asTup_a, asStr_s, asCons_c, nthA_0, nthA_s, aggCells_a, addV_p, seeV_p, seeV_i, same_nil, tr_same, eql4, neq4, decide_true, decide_false, Bool.false_eq_true, if_false, if_true, Bool.not_true, Bool.not_false, Bool.and_true, Bool.true_and, Bool.and_self, List.getElem?_cons_zero, List.getElem?_cons_succ, Nat.zero_add, Nat.add_zero, beq_self_eq_true, bne_self_eq_false, Int.reduceBNe, Int.reduceBEq, Int.reduceLT, Int.reduceGT, Int.reduceLE, Int.reduceGE, Nat.reduceAdd, Nat.reduceMul, Nat.reduceLeDiff, l25, hkl, i1, hb1, gu, hub, hz, w1, hwk]
                · have h1 := nzL_set cs' e1 (.int .i64 z)
                  rw [hu, isNz_int, isNz_int, if_pos (decide_eq_true hu0), if_pos (decide_eq_true hz0)] at h1
                  omega
            · have hkl : ¬ (kk : Int) < (n : Int) := by omega
              exact .inl ⟨_, by simp only [bO_s, gB_t, asBool_b, asInt_i, asAgg_a, asTup_a, asStr_s, asCons_c, nthA_0, nthA_s, aggCells_a, addV_p, seeV_p, seeV_i, same_nil, tr_same, eql4, neq4, decide_true, decide_false, Bool.false_eq_true, if_false, if_true, Bool.not_true, Bool.not_false, Bool.and_true, Bool.true_and, Bool.and_self, List.getElem?_cons_zero, List.getElem?_cons_succ, Nat.zero_add, Nat.add_zero, beq_self_eq_true, bne_self_eq_false, Int.reduceBNe, Int.reduceBEq, Int.reduceLT, Int.reduceGT, Int.reduceLE, Int.reduceGE, Nat.reduceAdd, Nat.reduceMul, Nat.reduceLeDiff, l25, hkl], cs', rfl, c1, c2, c3⟩
          · rintro x ⟨cs2, rfl, c1, c2, c3⟩
            simp only [bO_s, gB_t, asBool_b, asInt_i, asAgg_a, asTup_a, asStr_s, asCons_c, nthA_0, nthA_s, aggCells_a, addV_p, seeV_p, seeV_i, same_nil, tr_same, eql4, neq4, decide_true, decide_false, Bool.false_eq_true, if_false, if_true, Bool.not_true, Bool.not_false, Bool.and_true, Bool.true_and, Bool.and_self, List.getElem?_cons_zero, List.getElem?_cons_succ, Nat.zero_add, Nat.add_zero, beq_self_eq_true, bne_self_eq_false, Int.reduceBNe, Int.reduceBEq, Int.reduceLT, Int.reduceGT, Int.reduceLE, Int.reduceGE, Nat.reduceAdd, Nat.reduceMul, Nat.reduceLeDiff, sel, hw]
            obtain ⟨T', b2, rfl, z⟩ := key cs2 c1 c2 c3
            exact ⟨_, rfl, _, b2, rfl, z⟩
    · have hlt' : ¬ (i : Int) < ((cut m.b).length : Int) := by omega
      exact .inl ⟨_, by simp only [bO_s, gB_t, asBool_b, asInt_i, asAgg_a, asTup_a, asStr_s, asCons_c, nthA_0, nthA_s, aggCells_a, addV_p, seeV_p, seeV_i, same_nil, tr_same, eql4, neq4, decide_true, decide_false, Bool.false_eq_true, if_false, if_true, Bool.not_true, Bool.not_false, Bool.and_true, Bool.true_and, Bool.and_self, List.getElem?_cons_zero, List.getElem?_cons_succ, Nat.zero_add, Nat.add_zero, beq_self_eq_true, bne_self_eq_false, Int.reduceBNe, Int.reduceBEq, Int.reduceLT, Int.reduceGT, Int.reduceLE, Int.reduceGE, Nat.reduceAdd, Nat.reduceMul, Nat.reduceLeDiff, g27, hdl, hlt'], T1, b', rfl, hd, hR, hrel, hnx, hcx, hfr⟩
  · rintro x ⟨T1, b', rfl, hd, hR, hrel, hnx, hcx, hfr⟩
    simp only [bO_s, gB_t, asBool_b, asInt_i, asAgg_a, asTup_a, asStr_s, asCons_c, nthA_0, nthA_s, aggCells_a, addV_p, seeV_p, seeV_i, same_nil, tr_same, eql4, neq4, decide_true, decide_false, Bool.false_eq_true, if_false, if_true, Bool.not_true, Bool.not_false, Bool.and_true, Bool.true_and, Bool.and_self, List.getElem?_cons_zero, List.getElem?_cons_succ, Nat.zero_add, Nat.add_zero, beq_self_eq_true, bne_self_eq_false, Int.reduceBNe, Int.reduceBEq, Int.reduceLT, Int.reduceGT, Int.reduceLE, Int.reduceGE, Nat.reduceAdd, Nat.reduceMul, Nat.reduceLeDiff, sel]
    rcases tr_or T T1 (.tup []) with e | ⟨e, he⟩
    · rw [e]
      exact ⟨T1, b', rfl, hd, hR, hrel, hnx, hcx, hfr⟩
    · rw [e]
      exact ⟨T, b', rfl, hd.keep fun j hj => (he j (hlt j hj)).symm, hR, hrel, rfl, rfl, fun _ _ => rfl⟩
end Go.Ab.tNearU
