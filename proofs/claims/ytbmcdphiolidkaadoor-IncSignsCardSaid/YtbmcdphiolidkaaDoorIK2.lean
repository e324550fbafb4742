/- What spindlelaw16.negate does to a macroblock in the heap. -/
import Derived.Test.YtbmcdphiolidkaaDoorIK1
set_option maxRecDepth 100000
set_option linter.unusedSimpArgs false
set_option linter.unusedVariables false
set_option linter.unusedSectionVars false
namespace Go.Ab.tNearU
open Go Go.Proofs

def InR (c : AV) : Prop := -9223372036854775808 ≤ intOf (some c) ∧ intOf (some c) ≤ 9223372036854775807
/-- All coefficients are whole numbers of 64 bits. -/
def Bnd (m : M) : Prop := ∀ r ∈ cut m.b, ∀ c ∈ cut r, InR c
def ng (z : Int) : Int := IntKind.wrap .i64 (0 - z)
theorem ng_0 {z : Int} (h : -9223372036854775808 ≤ z ∧ z ≤ 9223372036854775807) (h0 : z ≠ 0) : ng z ≠ 0 := by
  unfold ng
  by_cases hm : z = -9223372036854775808
  · subst hm; decide
  · rw [wr _ (by omega)]; omega
/-- The same differences with other signs. -/
def NegV (v v' : AV) : Prop := (v = .nils ∧ v' = .nils) ∨ ∃ n cs cs', v = .is n cs ∧ v' = .is n cs' ∧ cs.length = n * 2 ∧ cs'.length = n * 2 ∧ ints cs ∧ ints cs' ∧ ∀ u, u < n * 2 → intOf cs'[u]? = ng (intOf cs[u]?)
theorem DM.writeV {T : Heap} {d m : M} {ids : List Nat} (h : DM true T d m ids) (hg : Good 1000 m) :
    (d.v = .nils ∧ m.v = .nils) ∨ ∃ id n cs, d.v = .hs id 0 n 2 ∧ m.v = .is n cs ∧ T.blk id = some cs ∧ cs.length = n * 2 ∧ id ∈ ids ∧ ints cs ∧ n ≤ 1000 ∧
      ∀ cs' : List AV, cs'.length = n * 2 → cs'.all plain1 = true → DM true (T.set id (some cs')) d { m with v := .is n cs' } ids := by
  obtain ⟨i1, i2, rfl, h2, h3, h4⟩ := h.own
  rcases h3 with ⟨_, h5, _, h6⟩ | ⟨id, n, cs, e1, e2, rfl, e4, e5, e6⟩
  · exact .inl ⟨h6 rfl, by rw [h5]; exact h6 rfl⟩
  · have hI : ints cs ∧ n ≤ 1000 := by
      obtain h0 | ⟨n', cs', h0, hn, _, h3⟩ := hg.v
      · rw [e2] at h0; cases h0
      · rw [e2] at h0; cases h0; exact ⟨h3, hn⟩
    refine .inr ⟨id, n, cs, e1, e2, e4, e5, by simp, hI.1, hI.2, fun cs' hl hp => ⟨h.pre, h.cb, h.qp, h.s, h.r, [id], i2, rfl, h2, .inr ⟨id, n, cs', e1, rfl, rfl, set_blk _ _ _, hl, hp⟩, h4.keep fun j hj => set_other _ _ fun he => h2 id (List.mem_singleton.2 rfl) (by rw [← he]; exact hj)⟩⟩
set_option maxHeartbeats 2000000 in
theorem negate_c {B : CallF} (hB : Silent B) (k : Nat) {T : Heap} {d m : M} {ids : List Nat} (h : DM true T d m ids) (hg : Good 1000 m) (hbd : Bnd m) (hlt : ∀ j ∈ ids, j < T.next) :
    ∃ T' v' b', Cn B (k + 1) f_spindlelaw16_negate 0 [.agg d.cells] T = some (.tup [], T') ∧ DM true T' d { m with v := v', b := b' } ids ∧ Row 1000 2 v' ∧ NegV m.v v' ∧ Rows 1000 b' ∧ RelB (· = ·) m.b b' ∧ T'.next = T.next ∧ T'.cx = T.cx ∧ ∀ j, j ∉ ids → T'.blk j = T.blk j := by
  rw [c_spindlelaw16_negate _ _ _ _ (hB _ _ _ _ (by decide)), T_spindlelaw16_negate]
  have hdp : d.pre.length = 23 := by rw [h.pre]; exact hg.pre
  have ld := M.len hdp
  have g27 := M.g27 hdp
  have g24 := M.g24 hdp
  have hn1000 := hg.b.rl
  -- the second loop, and the end
  have rest : ∀ (T2 : Heap) (v' : AV), DM true T2 d { m with v := v' } ids → Row 1000 2 v' → NegV m.v v' → T2.next = T.next → T2.cx = T.cx → (∀ j, j ∉ ids → T2.blk j = T.blk j) →
      ∃ T' v' b', (bO (ctlW.loop (fun s25 => asInt .i64 (nthA s25.1 1) fun i26 => bO ((aggCells (nthA s25.1 0))[27]?) fun t27 => bO (aLen Tryd.prog 27 (t27)) fun t28 => asInt .i64 t28 fun i29 => if decide ((i26 : Int) < i29) then bO (ctlW.loop (fun s30 => asInt .i64 (nthA s30.1 1) fun i31 => asInt .i64 (nthA s30.1 2) fun i32 => bO ((aggCells (nthA s30.1 0))[27]?) fun t33 => bO (aIdx 1 t33 i31) fun t34 => bO (seeV t34 s30.2) fun t35 => bO (t35.1[t35.2]?) fun t36 => bO (aLen Tryd.prog 25 (t36)) fun t37 => asInt .i64 t37 fun i38 => if decide ((i32 : Int) < i38) then bO ((aggCells (nthA s30.1 0))[27]?) fun t39 => gB (ctlW.same []) (bO (aIdx 1 t39 i31) fun t40 => bO (seeV t40 s30.2) fun t41 => bO (t41.1[t41.2]?) fun t42 => gB (ctlW.same []) (bO ((aggCells (nthA s30.1 0))[27]?) fun t43 => gB (ctlW.same []) (bO (aIdx 1 t43 i31) fun t44 => bO (seeV t44 s30.2) fun t45 => bO (t45.1[t45.2]?) fun t46 => gB (ctlW.same []) (bO (aIdx 1 t46 i32) fun t47 => bO (seeV t47 s30.2) fun t48 => bO (t48.1[t48.2]?) fun t49 => asInt .i64 t49 fun i50 => gB (ctlW.same []) (bO (aIdx 1 t42 i32) fun t51 => bO (putV t51 [.int .i64 (IntKind.wrap .i64 (0 - i50))] s30.2) fun t52 => gB (ctlW.same []) (some (.inl ([.agg (aggCells (nthA s30.1 0)), .int .i64 i31, .int .i64 (IntKind.wrap .i64 (i32 + 1))], t52)))))))) else some (.inr (0, [.agg (aggCells (nthA s30.1 0)), .int .i64 i31], s30.2))) ([.agg (aggCells (nthA s25.1 0)), .int .i64 i26, .int .i64 0], s25.2)) fun r53 => sel [(fun v54 S55 => asInt .i64 (nthA v54 1) fun i56 => some (.inl ([.agg (aggCells (nthA v54 0)), .int .i64 (IntKind.wrap .i64 (i56 + 1))], S55)))] r53.1 r53.2.1 r53.2.2 else some (.inr (0, [], s25.2))) ([.agg d.cells, .int .i64 0], T2)) fun r57 => sel [(fun v58 S59 => some (ctlW.tr T (.tup []) S59))] r57.1 r57.2.1 r57.2.2) = some (.tup [], T') ∧ DM true T' d { m with v := v', b := b' } ids ∧ Row 1000 2 v' ∧ NegV m.v v' ∧ Rows 1000 b' ∧ RelB (· = ·) m.b b' ∧ T'.next = T.next ∧ T'.cx = T.cx ∧ ∀ j, j ∉ ids → T'.blk j = T.blk j := by
    intro T2 v' h2 hv' hnv hnx2 hcx2 hfr2
    refine loop_ex (fun (o : Option (AV × Heap)) => ∃ T' v' b', o = some (.tup [], T') ∧ DM true T' d { m with v := v', b := b' } ids ∧ Row 1000 2 v' ∧ NegV m.v v' ∧ Rows 1000 b' ∧ RelB (· = ·) m.b b' ∧ T'.next = T.next ∧ T'.cx = T.cx ∧ ∀ j, j ∉ ids → T'.blk j = T.blk j)
      (fun i s => ∃ T' b', s = ([.agg d.cells, .int .i64 (i : Int)], T') ∧ DM true T' d { m with v := v', b := b' } ids ∧ Rows 1000 b' ∧ RelB (· = ·) m.b b' ∧ T'.next = T.next ∧ T'.cx = T.cx ∧ (∀ j, j ∉ ids → T'.blk j = T.blk j) ∧ ∀ j (h1 : j < (cut b').length) (h2 : j < (cut m.b).length), i ≤ j → (cut b')[j] = (cut m.b)[j])
      (fun x => ∃ T' b', x = (0, [], T') ∧ DM true T' d { m with v := v', b := b' } ids ∧ Rows 1000 b' ∧ RelB (· = ·) m.b b' ∧ T'.next = T.next ∧ T'.cx = T.cx ∧ ∀ j, j ∉ ids → T'.blk j = T.blk j) (cut m.b).length
      ⟨T2, m.b, rfl, h2, hg.b, RelB.refl (fun _ => rfl) _, hnx2, hcx2, hfr2, fun _ _ _ _ => rfl⟩ ?_ ?_
    · rintro i s hi ⟨T1, b', rfl, hd, hR, hrel, hnx, hcx, hfr, hsame⟩
      have hg1 : Good 1000 { m with v := v', b := b' } := ⟨hg.pre, hg.r, hv', hR⟩
      have hdl := dm_len hd hg1
      have hcl : (cut b').length = (cut m.b).length := hrel.1
      simp only [hcl] at hdl
      by_cases hin : i < (cut m.b).length
      · have hlt' : (i : Int) < ((cut m.b).length : Int) := by omega
        have hw : IntKind.wrap .i64 ((i : Int) + 1) = ((i + 1 : Nat) : Int) := by rw [wr _ (by omega)]; omega
        have hj : i < (cut b').length := by omega
        obtain ⟨qb, outs, x, p1, p2, p3, p4⟩ := hd.writeB hj
        have hixb : aIdx 1 d.b (i : Int) = some (.ptr qb i) := by rw [p1]; exact aIdx_row (by show i < (cut b').length; omega)
        have hsm := hsame i hj hin (Nat.le_refl _)
        rcases p4 with ⟨rfl, hno⟩ | ⟨id, n, cs, rfl, r1, r2, r3, r4, r5⟩
        · have l25 : aLen Tryd.prog 25 .nils = some (.int .i64 0) := by kernel_rfl
          have n0 : ¬ ((0 : Int) < 0) := by omega
          refine .inr ⟨hin, ([.agg d.cells, .int .i64 ((i + 1 : Nat) : Int)], T1), ?_, T1, b', rfl, hd, hR, hrel, hnx, hcx, hfr, fun j h1 h2 h3 => hsame j h1 h2 (by omega)⟩
          simp only [bO_s, gB_t, asBool_b, asInt_i, asAgg_a, asTup_a, asStr_s, asCons_c, nthA_0, nthA_s, aggCells_a, addV_p, seeV_p, seeV_i, same_nil, tr_same, eql4, neq4, decide_true, decide_false, Bool.false_eq_true, if_false, if_true, Bool.not_true, Bool.not_false, Bool.and_true, Bool.true_and, Bool.and_self, List.getElem?_cons_zero, List.getElem?_cons_succ, Nat.zero_add, Nat.add_zero, beq_self_eq_true, bne_self_eq_false, Int.reduceBNe, Int.reduceBEq, Int.reduceLT, Int.reduceGT, Int.reduceLE, Int.reduceGE, Nat.reduceAdd, Nat.reduceMul, Nat.reduceLeDiff, g27, hdl, hlt']
          rw [bloop]
          simp only [bO_s, gB_t, asBool_b, asInt_i, asAgg_a, asTup_a, asStr_s, asCons_c, nthA_0, nthA_s, aggCells_a, addV_p, seeV_p, seeV_i, same_nil, tr_same, eql4, neq4, decide_true, decide_false, Bool.false_eq_true, if_false, if_true, Bool.not_true, Bool.not_false, Bool.and_true, Bool.true_and, Bool.and_self, List.getElem?_cons_zero, List.getElem?_cons_succ, Nat.zero_add, Nat.add_zero, beq_self_eq_true, bne_self_eq_false, Int.reduceBNe, Int.reduceBEq, Int.reduceLT, Int.reduceGT, Int.reduceLE, Int.reduceGE, Nat.reduceAdd, Nat.reduceMul, Nat.reduceLeDiff, g27, hixb, p2, p3, l25, n0, sel, hw]
        · have l25 : aLen Tryd.prog 25 (.hs id 0 n 1) = some (.int .i64 (n : Int)) := by kernel_rfl
          have hRi := hR.mem _ (List.getElem_mem hj)
          have r1' : (cut b')[i] = .is n cs := r1
          rw [r1'] at hRi
          have hI : ints cs ∧ n ≤ 1000 := by
            obtain h0 | ⟨n', cs', h0, h1, _, h3⟩ := hRi
            · cases h0
            · cases h0; exact ⟨h3, h1⟩
          have hbr : ∀ c ∈ cs, InR c := fun c hc => by
            have hmem : (cut m.b)[i] ∈ cut m.b := List.getElem_mem hin
            rw [← hsm, r1'] at hmem
            exact hbd _ hmem c hc
          have hqb : qb ≠ id := fun he => by
            rw [he] at p2
            rw [p2] at r2
            cases r2
            obtain ⟨z, hz⟩ := hI.1 _ (List.mem_of_getElem? p3)
            cases hz
          have key : ∀ cs' : List AV, cs'.length = n → ints cs' → nzL cs' = nzL cs → ∃ T' b2, T1.set id (some cs') = T' ∧ DM true T' d { m with v := v', b := b2 } ids ∧ Rows 1000 b2 ∧ RelB (· = ·) m.b b2 ∧ T'.next = T.next ∧ T'.cx = T.cx ∧ (∀ j, j ∉ ids → T'.blk j = T.blk j) ∧ ∀ j (h1 : j < (cut b2).length) (h2 : j < (cut m.b).length), i + 1 ≤ j → (cut b2)[j] = (cut m.b)[j] := by
            intro cs' e1 e2 e3
            obtain ⟨s1, s2⟩ := relB_set (ρ := (· = ·)) (fun _ => rfl) hR hj r1' (cs' := cs') (by omega) e2 e3.symm
            refine ⟨_, _, rfl, r5 cs' e1 (ints_plain e2), s1, hrel.trans (fun a b => a.trans b) s2, hnx, hcx, fun j hj => by rw [set_other _ _ (fun he => hj (by rw [he]; exact r4))]; exact hfr j hj, fun j h1 h2 h3 => ?_⟩
            have h1' : j < ((cut b').set i (AV.is n cs')).length := h1
            show ((cut b').set i (AV.is n cs'))[j]'h1' = _
            rw [List.getElem_set_ne (by omega)]
            exact hsame j (by rw [List.length_set] at h1'; exact h1') h2 (by omega)
          refine .inr ⟨hin, ?_⟩
          simp only [bO_s, gB_t, asBool_b, asInt_i, asAgg_a, asTup_a, asStr_s, asCons_c, nthA_0, nthA_s, aggCells_a, addV_p, seeV_p, seeV_i, same_nil, tr_same, eql4, neq4, decide_true, decide_false, Bool.false_eq_true, if_false, if_true, Bool.not_true, Bool.not_false, Bool.and_true, Bool.true_and, Bool.and_self, List.getElem?_cons_zero, List.getElem?_cons_succ, Nat.zero_add, Nat.add_zero, beq_self_eq_true, bne_self_eq_false, Int.reduceBNe, Int.reduceBEq, Int.reduceLT, Int.reduceGT, Int.reduceLE, Int.reduceGE, Nat.reduceAdd, Nat.reduceMul, Nat.reduceLeDiff, g27, hdl, hlt']
          refine loop_ex (fun (o : Option (LSt ⊕ (Nat × LSt))) => ∃ s', o = some (.inl s') ∧ ∃ T' b', s' = ([.agg d.cells, .int .i64 ((i + 1 : Nat) : Int)], T') ∧ DM true T' d { m with v := v', b := b' } ids ∧ Rows 1000 b' ∧ RelB (· = ·) m.b b' ∧ T'.next = T.next ∧ T'.cx = T.cx ∧ (∀ j, j ∉ ids → T'.blk j = T.blk j) ∧ ∀ j (h1 : j < (cut b').length) (h2 : j < (cut m.b).length), i + 1 ≤ j → (cut b')[j] = (cut m.b)[j])
            (fun kk s => ∃ cs' : List AV, s = ([.agg d.cells, .int .i64 (i : Int), .int .i64 (kk : Int)], T1.set id (some cs')) ∧ cs'.length = n ∧ ints cs' ∧ nzL cs' = nzL cs ∧ ∀ u, kk ≤ u → cs'[u]? = cs[u]?)
            (fun x => ∃ cs' : List AV, x = (0, [.agg d.cells, .int .i64 (i : Int)], T1.set id (some cs')) ∧ cs'.length = n ∧ ints cs' ∧ nzL cs' = nzL cs) n
            ⟨cs, by rw [set_same r2]; rfl, r3, hI.1, rfl, fun _ _ => rfl⟩ ?_ ?_
          · rintro kk s hk ⟨cs', rfl, c1, c2, c3, c4⟩
            have hb1 : (T1.set id (some cs')).blk id = some cs' := set_blk _ _ _
            have hb2 : (T1.set id (some cs')).blk qb = some outs := by rw [set_other _ _ hqb]; exact p2
            by_cases hkn : kk < n
            · have hkl : (kk : Int) < (n : Int) := by omega
              have hIn := hI.2
              have hwk : IntKind.wrap .i64 ((kk : Int) + 1) = ((kk + 1 : Nat) : Int) := by rw [wr _ (by omega)]; omega
              have e1 : kk < cs'.length := by omega
              obtain ⟨u, hu⟩ := c2 _ (List.getElem_mem e1)
              have gu : cs'[kk]? = some (.int .i64 u) := by rw [List.getElem?_eq_getElem e1, hu]
              have hur : -9223372036854775808 ≤ u ∧ u ≤ 9223372036854775807 := by
                have hg2 := c4 kk (Nat.le_refl _)
                rw [gu] at hg2
                exact hbr _ (List.mem_of_getElem? hg2.symm)
              have i1 := aIdx_row (id := id) hkn
              have w1 := putV_row (v := .int .i64 (ng u)) hb1 e1
              rw [set_set] at w1
              have hng : IntKind.wrap .i64 (0 - u) = ng u := rfl
              refine .inr ⟨hkn, ([.agg d.cells, .int .i64 (i : Int), .int .i64 ((kk + 1 : Nat) : Int)], T1.set id (some (cs'.set kk (.int .i64 (ng u))))), ?_, cs'.set kk (.int .i64 (ng u)), rfl, (List.length_set ..).trans c1, ints_set c2 kk _, ?_, fun x hx => ?_⟩
              · simp only [bO_s, gB_t, asBool_b, asInt_i, asAgg_a, asTup_a, asStr_s, asCons_c, nthA_0, nthA_s, aggCells_a, addV_p, seeV_p, seeV_i, same_nil, tr_same, eql4, neq4, decide_true, decide_false, Bool.false_eq_true, if_false, if_true, Bool.not_true, Bool.not_false, Bool.and_true, Bool.true_and, Bool.and_self, List.getElem?_cons_zero, List.getElem?_cons_succ, Nat.zero_add, Nat.add_zero, beq_self_eq_true, bne_self_eq_false, Int.reduceBNe, Int.reduceBEq, Int.reduceLT, Int.reduceGT, Int.reduceLE, Int.reduceGE, Nat.reduceAdd, Nat.reduceMul, Nat.reduceLeDiff, g27, hixb, hb2, p3, l25, hkl, i1, hb1, gu, hng, w1, hwk]
              · have h1 := nzL_set cs' e1 (.int .i64 (ng u))
                rw [hu, isNz_int, isNz_int] at h1
                by_cases hu0 : u = 0
                · have hz : ng u = 0 := by rw [hu0]; rfl
                  rw [hz, hu0] at h1
                  rw [hz]
                  simp at h1
                  omega
                · rw [if_pos (decide_eq_true hu0), if_pos (decide_eq_true (ng_0 hur hu0))] at h1
                  omega
              · rw [List.getElem?_set_ne (by omega)]
                exact c4 x (by omega)
            · have hkl : ¬ (kk : Int) < (n : Int) := by omega
              exact .inl ⟨_, by simp only [bO_s, gB_t, asBool_b, asInt_i, asAgg_a, asTup_a, asStr_s, asCons_c, nthA_0, nthA_s, aggCells_a, addV_p, seeV_p, seeV_i, same_nil, tr_same, eql4, neq4, decide_true, decide_false, Bool.false_eq_true, if_false, if_true, Bool.not_true, Bool.not_false, Bool.and_true, Bool.true_and, Bool.and_self, List.getElem?_cons_zero, List.getElem?_cons_succ, Nat.zero_add, Nat.add_zero, beq_self_eq_true, bne_self_eq_false, Int.reduceBNe, Int.reduceBEq, Int.reduceLT, Int.reduceGT, Int.reduceLE, Int.reduceGE, Nat.reduceAdd, Nat.reduceMul, Nat.reduceLeDiff, g27, hixb, hb2, p3, l25, hkl], cs', rfl, c1, c2, c3⟩
          · rintro x ⟨cs1, rfl, c1, c2, c3⟩
            simp only [bO_s, gB_t, asBool_b, asInt_i, asAgg_a, asTup_a, asStr_s, asCons_c, nthA_0, nthA_s, aggCells_a, addV_p, seeV_p, seeV_i, same_nil, tr_same, eql4, neq4, decide_true, decide_false, Bool.false_eq_true, if_false, if_true, Bool.not_true, Bool.not_false, Bool.and_true, Bool.true_and, Bool.and_self, List.getElem?_cons_zero, List.getElem?_cons_succ, Nat.zero_add, Nat.add_zero, beq_self_eq_true, bne_self_eq_false, Int.reduceBNe, Int.reduceBEq, Int.reduceLT, Int.reduceGT, Int.reduceLE, Int.reduceGE, Nat.reduceAdd, Nat.reduceMul, Nat.reduceLeDiff, sel, hw]
            obtain ⟨T', b2, rfl, z⟩ := key cs1 c1 c2 c3
            exact ⟨_, rfl, _, b2, rfl, z⟩
      · have hlt' : ¬ (i : Int) < ((cut m.b).length : Int) := by omega
        exact .inl ⟨_, by simp only [bO_s, gB_t, asBool_b, asInt_i, asAgg_a, asTup_a, asStr_s, asCons_c, nthA_0, nthA_s, aggCells_a, addV_p, seeV_p, seeV_i, same_nil, tr_same, eql4, neq4, decide_true, decide_false, Bool.false_eq_true, if_false, if_true, Bool.not_true, Bool.not_false, Bool.and_true, Bool.true_and, Bool.and_self, List.getElem?_cons_zero, List.getElem?_cons_succ, Nat.zero_add, Nat.add_zero, beq_self_eq_true, bne_self_eq_false, Int.reduceBNe, Int.reduceBEq, Int.reduceLT, Int.reduceGT, Int.reduceLE, Int.reduceGE, Nat.reduceAdd, Nat.reduceMul, Nat.reduceLeDiff, g27, hdl, hlt'], T1, b', rfl, hd, hR, hrel, hnx, hcx, hfr⟩
    · rintro x ⟨T1, b', rfl, hd, hR, hrel, hnx, hcx, hfr⟩
      simp only [bO_s, gB_t, asBool_b, asInt_i, asAgg_a, asTup_a, asStr_s, asCons_c, nthA_0, nthA_s, aggCells_a, addV_p, seeV_p, seeV_i, same_nil, tr_same, eql4, neq4, decide_true, decide_false, Bool.false_eq_true, if_false, if_true, Bool.not_true, Bool.not_false, Bool.and_true, Bool.true_and, Bool.and_self, List.getElem?_cons_zero, List.getElem?_cons_succ, Nat.zero_add, Nat.add_zero, beq_self_eq_true, bne_self_eq_false, Int.reduceBNe, Int.reduceBEq, Int.reduceLT, Int.reduceGT, Int.reduceLE, Int.reduceGE, Nat.reduceAdd, Nat.reduceMul, Nat.reduceLeDiff, sel]
      rcases tr_or T T1 (.tup []) with e | ⟨e, he⟩
      · rw [e]
        exact ⟨T1, v', b', rfl, hd, hv', hnv, hR, hrel, hnx, hcx, hfr⟩
      · rw [e]
        exact ⟨T, v', b', rfl, hd.keep fun j hj => (he j (hlt j hj)).symm, hv', hnv, hR, hrel, rfl, rfl, fun _ _ => rfl⟩
  simp only [bO_s, gB_t, asBool_b, asInt_i, asAgg_a, asTup_a, asStr_s, asCons_c, nthA_0, nthA_s, aggCells_a, addV_p, seeV_p, seeV_i, same_nil, tr_same, eql4, neq4, decide_true, decide_false, Bool.false_eq_true, if_false, if_true, Bool.not_true, Bool.not_false, Bool.and_true, Bool.true_and, Bool.and_self, List.getElem?_cons_zero, List.getElem?_cons_succ, Nat.zero_add, Nat.add_zero, beq_self_eq_true, bne_self_eq_false, Int.reduceBNe, Int.reduceBEq, Int.reduceLT, Int.reduceGT, Int.reduceLE, Int.reduceGE, Nat.reduceAdd, Nat.reduceMul, Nat.reduceLeDiff, ld]
  rcases h.writeV hg with ⟨hv1, hv2⟩ | ⟨id, n, cs, e1, e2, e3, e4, e5, e6, e7, e8⟩
  · have l26 : aLen Tryd.prog 26 .nils = some (.int .i64 0) := by kernel_rfl
    have n0 : ¬ ((0 : Int) < 0) := by omega
    rw [hv1] at g24
    rw [bloop]
    have := rest T m.v h hg.v (.inl ⟨hv2, hv2⟩) rfl rfl (fun _ _ => rfl)
    simp only [bO_s, gB_t, asBool_b, asInt_i, asAgg_a, asTup_a, asStr_s, asCons_c, nthA_0, nthA_s, aggCells_a, addV_p, seeV_p, seeV_i, same_nil, tr_same, eql4, neq4, decide_true, decide_false, Bool.false_eq_true, if_false, if_true, Bool.not_true, Bool.not_false, Bool.and_true, Bool.true_and, Bool.and_self, List.getElem?_cons_zero, List.getElem?_cons_succ, Nat.zero_add, Nat.add_zero, beq_self_eq_true, bne_self_eq_false, Int.reduceBNe, Int.reduceBEq, Int.reduceLT, Int.reduceGT, Int.reduceLE, Int.reduceGE, Nat.reduceAdd, Nat.reduceMul, Nat.reduceLeDiff, g24, l26, n0, sel] at this ⊢
    exact this
  · have l26 : aLen Tryd.prog 26 (.hs id 0 n 2) = some (.int .i64 (n : Int)) := by kernel_rfl
    rw [e1] at g24
    refine loop_ex (fun (o : Option (AV × Heap)) => ∃ T' v' b', o = some (.tup [], T') ∧ DM true T' d { m with v := v', b := b' } ids ∧ Row 1000 2 v' ∧ NegV m.v v' ∧ Rows 1000 b' ∧ RelB (· = ·) m.b b' ∧ T'.next = T.next ∧ T'.cx = T.cx ∧ ∀ j, j ∉ ids → T'.blk j = T.blk j)
      (fun i s => ∃ cs' : List AV, s = ([.agg d.cells, .int .i64 (i : Int)], T.set id (some cs')) ∧ cs'.length = n * 2 ∧ ints cs' ∧ (∀ u, u < i * 2 → intOf cs'[u]? = ng (intOf cs[u]?)) ∧ ∀ u, i * 2 ≤ u → cs'[u]? = cs[u]?)
      (fun x => ∃ cs' : List AV, x = (0, [.agg d.cells], T.set id (some cs')) ∧ cs'.length = n * 2 ∧ ints cs' ∧ ∀ u, u < n * 2 → intOf cs'[u]? = ng (intOf cs[u]?)) n
      ⟨cs, by rw [set_same e3]; rfl, e4, e6, fun u hu => absurd hu (by omega), fun _ _ => rfl⟩ ?_ ?_
    · rintro i s hi ⟨cs', rfl, c1, c2, c3, c4⟩
      by_cases hin : i < n
      · have hlt' : (i : Int) < (n : Int) := by omega
        have hw : IntKind.wrap .i64 ((i : Int) + 1) = ((i + 1 : Nat) : Int) := by rw [wr _ (by omega)]; omega
        have hix : aIdx 2 (.hs id 0 n 2) (i : Int) = some (.ptr id (i * 2)) := by
          simp only [aIdx, Int.toNat_natCast]
          rw [if_pos ⟨by omega, by omega, trivial⟩, Nat.zero_add]
        have hb1 : (T.set id (some cs')).blk id = some cs' := set_blk _ _ _
        have o1 : i * 2 < cs'.length := by omega
        have o2 : i * 2 + 1 < cs'.length := by omega
        obtain ⟨x, hx⟩ := c2 _ (List.getElem_mem o1)
        obtain ⟨y, hy⟩ := c2 _ (List.getElem_mem o2)
        have gx : cs'[i * 2]? = some (.int .i64 x) := by rw [List.getElem?_eq_getElem o1, hx]
        have gy : cs'[i * 2 + 1]? = some (.int .i64 y) := by rw [List.getElem?_eq_getElem o2, hy]
        have hnx : IntKind.wrap .i64 (0 - x) = ng x := rfl
        have hny : IntKind.wrap .i64 (0 - y) = ng y := rfl
        have hput : putV (.ptr id (i * 2)) [.int .i64 (ng x), .int .i64 (ng y)] (T.set id (some cs')) = some (T.set id (some ((cs'.set (i * 2) (.int .i64 (ng x))).set (i * 2 + 1) (.int .i64 (ng y))))) := by
          simp only [putV, hb1, List.length_cons, List.length_nil, setCells]
          rw [if_pos (by omega), set_set]
        refine .inr ⟨hin, ([.agg d.cells, .int .i64 ((i + 1 : Nat) : Int)], T.set id (some ((cs'.set (i * 2) (.int .i64 (ng x))).set (i * 2 + 1) (.int .i64 (ng y))))), ?_, _, rfl, by rw [List.length_set, List.length_set]; exact c1, ints_set (ints_set c2 _ _) _ _, fun u hu => ?_, fun u hu => ?_⟩
        · simp only [bO_s, gB_t, asBool_b, asInt_i, asAgg_a, asTup_a, asStr_s, asCons_c, nthA_0, nthA_s, aggCells_a, addV_p, seeV_p, seeV_i, same_nil, tr_same, eql4, neq4, decide_true, decide_false, Bool.false_eq_true, if_false, if_true, Bool.not_true, Bool.not_false, Bool.and_true, Bool.true_and, Bool.and_self, List.getElem?_cons_zero, List.getElem?_cons_succ, Nat.zero_add, Nat.add_zero, beq_self_eq_true, bne_self_eq_false, Int.reduceBNe, Int.reduceBEq, Int.reduceLT, Int.reduceGT, Int.reduceLE, Int.reduceGE, Nat.reduceAdd, Nat.reduceMul, Nat.reduceLeDiff, g24, l26, hlt', hix, hb1, gx, gy, hnx, hny, hput, hw]
        · by_cases h1 : u = i * 2 + 1
          · subst h1
            rw [List.getElem?_set_self (by rw [List.length_set]; exact o2), ← c4 _ (by omega), gy]; rfl
          · rw [List.getElem?_set_ne (by omega)]
            by_cases h2 : u = i * 2
            · subst h2
              rw [List.getElem?_set_self o1, ← c4 _ (by omega), gx]; rfl
            · rw [List.getElem?_set_ne (by omega)]
              exact c3 u (by omega)
        · rw [List.getElem?_set_ne (by omega), List.getElem?_set_ne (by omega)]
          exact c4 u (by omega)
      · have hlt' : ¬ (i : Int) < (n : Int) := by omega
        have : i = n := by omega
        subst this
        exact .inl ⟨_, by simp only [bO_s, gB_t, asBool_b, asInt_i, asAgg_a, asTup_a, asStr_s, asCons_c, nthA_0, nthA_s, aggCells_a, addV_p, seeV_p, seeV_i, same_nil, tr_same, eql4, neq4, decide_true, decide_false, Bool.false_eq_true, if_false, if_true, Bool.not_true, Bool.not_false, Bool.and_true, Bool.true_and, Bool.and_self, List.getElem?_cons_zero, List.getElem?_cons_succ, Nat.zero_add, Nat.add_zero, beq_self_eq_true, bne_self_eq_false, Int.reduceBNe, Int.reduceBEq, Int.reduceLT, Int.reduceGT, Int.reduceLE, Int.reduceGE, Nat.reduceAdd, Nat.reduceMul, Nat.reduceLeDiff, g24, l26, hlt'], cs', rfl, c1, c2, c3⟩
    · rintro x ⟨cs', rfl, c1, c2, c3⟩
      have hr := rest (T.set id (some cs')) (.is n cs') (e8 cs' c1 (ints_plain c2)) (.inr ⟨n, cs', rfl, e7, c1, c2⟩) (.inr ⟨n, cs, cs', e2, rfl, e4, c1, e6, c2, c3⟩) rfl rfl (fun j hj => set_other _ _ fun he => hj (by rw [he]; exact e5))
      simp only [bO_s, gB_t, asBool_b, asInt_i, asAgg_a, asTup_a, asStr_s, asCons_c, nthA_0, nthA_s, aggCells_a, addV_p, seeV_p, seeV_i, same_nil, tr_same, eql4, neq4, decide_true, decide_false, Bool.false_eq_true, if_false, if_true, Bool.not_true, Bool.not_false, Bool.and_true, Bool.true_and, Bool.and_self, List.getElem?_cons_zero, List.getElem?_cons_succ, Nat.zero_add, Nat.add_zero, beq_self_eq_true, bne_self_eq_false, Int.reduceBNe, Int.reduceBEq, Int.reduceLT, Int.reduceGT, Int.reduceLE, Int.reduceGE, Nat.reduceAdd, Nat.reduceMul, Nat.reduceLeDiff, sel] at hr ⊢
      exact hr
end Go.Ab.tNearU
