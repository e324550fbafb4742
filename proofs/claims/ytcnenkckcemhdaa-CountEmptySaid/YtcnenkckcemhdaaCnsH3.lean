/- CountEmpty: the law. -/
import Derived.Test.YtcnenkckcemhdaaCnsH2
set_option maxRecDepth 100000
set_option linter.unusedSimpArgs false
set_option linter.unusedVariables false
set_option linter.unusedSectionVars false
namespace Go.Ab.tNearU
open Go Go.Proofs

theorem addV_i0 (cs : List AV) : addV (.iptr cs) 0 = some (.iptr cs) := (rfl)
set_option maxHeartbeats 2000000 in
theorem countEmpty_c {B : CallF} (hB : Known B) (k : Nat) {a : AV} {ms : List M} (ha : ∀ S, Rd S a ms) (hl : ms.length ≤ maxLen) (hA : ∀ m ∈ ms, Arg m) {m : M} (hm : Arg m) (fi w : Int) :
    ∃ S', Cn B (k + 9) f_spindlelaw15_CountEmpty 0 [.int .i64 fi, .int .i64 w, a, .agg m.cells] S0 = some (.bool true, S') := by
  rw [c_spindlelaw15_CountEmpty _ _ _ _ _ _ _ (hB.no _ _ _ _ (by decide)), T_spindlelaw15_CountEmpty]
  have hgM := hm.good
  have l29 := M.len hgM.pre
  have t29 : List.take 29 m.cells = m.cells := M.t29 hgM.pre
  have h29 : (29 : Nat) ≤ 29 := by omega
  have z29 := M.z hgM.pre
  obtain ⟨b1, f1, f1'⟩ := few_c hB.no (k + 7) (ha S0) (fun x hx => (hA x hx).good) hl 8
  obtain ⟨b2, f2, f2'⟩ := few_c hB.no (k + 7) (rd_one m S0) (fun x hx => by rw [List.mem_singleton] at hx; subst hx; exact hgM) (by rw [List.length_singleton]; have := maxLen_is; omega) 1
  cases b1 with
  | false =>
    simp only [bO_s, gB_t, asBool_b, asInt_i, asAgg_a, asTup_a, asStr_s, asCons_c, nthA_0, nthA_s, aggCells_a, addV_p, seeV_p, seeV_i, same_nil, tr_same, eql4, neq4, decide_true, decide_false, Bool.false_eq_true, if_false, if_true, Bool.not_true, Bool.not_false, Bool.and_true, Bool.true_and, Bool.and_self, List.getElem?_cons_zero, List.getElem?_cons_succ, Nat.zero_add, Nat.add_zero, beq_self_eq_true, bne_self_eq_false, Int.reduceBNe, Int.reduceBEq, Int.reduceLT, Int.reduceGT, Int.reduceLE, Int.reduceGE, Nat.reduceAdd, Nat.reduceMul, Nat.reduceLeDiff, l29, f1]
    exact ⟨_, rfl⟩
  | true =>
    cases b2 with
    | false =>
      simp only [bO_s, gB_t, asBool_b, asInt_i, asAgg_a, asTup_a, asStr_s, asCons_c, nthA_0, nthA_s, aggCells_a, addV_p, seeV_p, seeV_i, same_nil, tr_same, eql4, neq4, decide_true, decide_false, Bool.false_eq_true, if_false, if_true, Bool.not_true, Bool.not_false, Bool.and_true, Bool.true_and, Bool.and_self, List.getElem?_cons_zero, List.getElem?_cons_succ, Nat.zero_add, Nat.add_zero, beq_self_eq_true, bne_self_eq_false, Int.reduceBNe, Int.reduceBEq, Int.reduceLT, Int.reduceGT, Int.reduceLE, Int.reduceGE, Nat.reduceAdd, Nat.reduceMul, Nat.reduceLeDiff, l29, f1, List.drop_zero, t29, h29, z29, f2]
      exact ⟨_, rfl⟩
    | true =>
      obtain ⟨len8, g60⟩ := f1' rfl
      obtain ⟨_, gm60⟩ := f2' rfl
      have hg : Good 1000 m := (gm60 m (List.mem_singleton.2 rfl)).mono (by omega)
      have hgs : ∀ x ∈ ms, Good 1000 x := fun x hx => (g60 x hx).mono (by omega)
      have hb : Byt m := hm.byt hgM.pre
      have hgn : ∀ x ∈ ms.map M.norm, Good 1000 x := fun x hx => by
        obtain ⟨y, hy, rfl⟩ := List.mem_map.1 hx
        exact (hgs y hy).norm
      have hbs : ∀ x ∈ ms.map M.norm, Byt x := fun x hx => by
        obtain ⟨y, hy, rfl⟩ := List.mem_map.1 hx
        exact ⟨((hA y hy).byt (hA y hy).good.pre).k, (hA y hy).cb⟩
      have hnl : (ms.map M.norm).length = ms.length := List.length_map _
      obtain ⟨x1, T1, ds1, ids1, e1, hx1, hpd1, hin1, hE1⟩ := copyMbs1_c hB.no (k + 4) (DMs.arg ha S0) (fun j hj => by cases hj) hgs (by omega)
      obtain ⟨x2, T2, ids2, e2, hx2, hin2⟩ := app_plain hx1 hg hpd1 (fun j hj => (hin1 j hj).2) (by omega)
      have hg2 : ∀ x ∈ ms.map M.norm ++ [m], Good 1000 x := fun x hx => by
        rcases List.mem_append.1 hx with hx | hx
        · exact hgn x hx
        · rw [List.mem_singleton] at hx; subst hx; exact hg
      have hb2 : ∀ x ∈ ms.map M.norm ++ [m], Byt x := fun x hx => by
        rcases List.mem_append.1 hx with hx | hx
        · exact hbs x hx
        · rw [List.mem_singleton] at hx; subst hx; exact hb
      have hl2 : (ms.map M.norm ++ [m]).length = ms.length + 1 := by rw [List.length_append, hnl]; rfl
      obtain ⟨x3, T3, ds, ids3, e3, hx3, hpd, hin3, hE3⟩ := copyMbs1_c hB.no (k + 4) hx2 hin2 hg2 (by omega)
      obtain ⟨ms3, hms3⟩ : ∃ ms3, ms3 = (ms.map M.norm ++ [m]).map M.norm := ⟨_, rfl⟩
      rw [← hms3] at hx3
      have hl3 : ms3.length = ms.length + 1 := by rw [hms3, List.length_map, hl2]
      have hg3 : ∀ x ∈ ms3, Good 1000 x := fun x hx => by
        rw [hms3] at hx
        obtain ⟨y, hy, rfl⟩ := List.mem_map.1 hx
        exact (hg2 y hy).norm
      have hb3 : ∀ x ∈ ms3, Byt x := fun x hx => by
        rw [hms3] at hx
        obtain ⟨y, hy, rfl⟩ := List.mem_map.1 hx
        exact ⟨(hb2 y hy).k, (hb2 y hy).c⟩
      obtain ⟨N, hN⟩ : ∃ N, N = ms.length + 1 := ⟨_, rfl⟩
      rw [← hN] at hl3
      obtain ⟨q, rfl, hst, hdl, hdb⟩ : ∃ q, x3 = .hs q 0 N 29 ∧ ZSt T3 q ds ms3 ∧ ds.length = N ∧ ∀ i (h : i < ds.length), ds[i].b = .nils ∨ ∃ qb n, ds[i].b = .hs qb 0 n 1 := by
        rcases hx3 with ⟨h0, _⟩ | ⟨h0, q, ids', h1, h2, h3, h4, h5⟩
        · rw [h0] at hl3; simp at hl3; omega
        · refine ⟨q, by rw [← hl3]; exact h1, ⟨ids', h3, h4, h5.zl⟩, h5.len.trans hl3, fun i hi => ?_⟩
          obtain ⟨idx, f1, _⟩ := h5.at i hi (by rw [← h5.len]; exact hi)
          obtain ⟨i1, i2, _, _, _, hd2⟩ := f1.own
          rcases hd2 with ⟨_, _, _, h6⟩ | ⟨id, n, cs, cs', ids', h6, _⟩
          · exact .inl (h6 rfl)
          · exact .inr ⟨id, n, h6⟩
      have l22 : aLen Try.prog 22 (.hs q 0 N 29) = some (.int .i64 (N : Int)) := by kernel_rfl
      simp only [bO_s, gB_t, asBool_b, asInt_i, asAgg_a, asTup_a, asStr_s, asCons_c, nthA_0, nthA_s, aggCells_a, addV_p, seeV_p, seeV_i, same_nil, tr_same, eql4, neq4, decide_true, decide_false, Bool.false_eq_true, if_false, if_true, Bool.not_true, Bool.not_false, Bool.and_true, Bool.true_and, Bool.and_self, List.getElem?_cons_zero, List.getElem?_cons_succ, Nat.zero_add, Nat.add_zero, beq_self_eq_true, bne_self_eq_false, Int.reduceBNe, Int.reduceBEq, Int.reduceLT, Int.reduceGT, Int.reduceLE, Int.reduceGE, Nat.reduceAdd, Nat.reduceMul, Nat.reduceLeDiff, l29, f1, List.drop_zero, t29, h29, z29, f2, e1, e2, e3]
      refine loop_ex (fun (o : Option (AV × Heap)) => ∃ S', o = some (.bool true, S'))
        (fun i s => ∃ T' ms', s = ([.int .i64 fi, .int .i64 w, .hs q 0 N 29, .int .i64 (i : Int)], T') ∧ ZS T' q ds ms' N i)
        (fun x => (∃ T' ms', x = (0, [.int .i64 fi, .int .i64 w, .hs q 0 N 29], T') ∧ ZS T' q ds ms' N N) ∨ ∃ T', x = (1, [.bool true], T')) N
        ⟨T3, ms3, rfl, hst, hl3, hg3, hb3, fun j _ hj => absurd hj (Nat.not_lt_zero _)⟩ ?_ ?_
      · rintro i s hi ⟨T', ms', rfl, hz⟩
        by_cases hin : i < N
        · have hlt : (i : Int) < (N : Int) := by omega
          have hw : IntKind.wrap .i64 ((i : Int) + 1) = ((i + 1 : Nat) : Int) := by rw [wr _ (by omega)]; omega
          have hlz := hz.len
          have hi' : i < ms'.length := by omega
          have hid : i < ds.length := by omega
          have hq : T'.blk q = some (flat ds) := by obtain ⟨ids', h1, _⟩ := hz.st; exact h1
          have hix : aIdx 29 (.hs q 0 N 29) (i : Int) = some (.ptr q (i * 29)) := by
            simp only [aIdx, Int.toNat_natCast]
            rw [if_pos ⟨by omega, by omega, trivial⟩, Nat.zero_add]
          have hgi := hz.good _ (List.getElem_mem hi')
          have hbi := hz.byt _ (List.getElem_mem hi')
          have g0 : (flat ds)[i * 29]? = some (.int .u8 (ms'[i].kind : Int)) := by
            have h1 := flat_get hpd hid (show 0 < 29 by omega)
            rw [Nat.add_zero] at h1
            rw [h1, ← kind_0 hgi hbi]
            obtain ⟨ids', _, _, h3⟩ := hz.st
            obtain ⟨idx, f1, _⟩ := zL_upd h3 i hid hi'
            have hp := f1.pre
            have hp23 := hgi.pre
            unfold M.cells
            rw [hp, List.getElem?_append_left (by rw [List.length_map]; omega), List.getElem?_append_left (by rw [List.length_map]; omega)]
          by_cases hk2 : ms'[i].kind = 2
          · have hk : (((ms'[i].kind : Nat) : Int) == 2) = true := by rw [hk2]; rfl
            exact .inl ⟨_, by simp only [bO_s, gB_t, asBool_b, asInt_i, asAgg_a, asTup_a, asStr_s, asCons_c, nthA_0, nthA_s, aggCells_a, addV_p, seeV_p, seeV_i, same_nil, tr_same, eql4, neq4, decide_true, decide_false, Bool.false_eq_true, if_false, if_true, Bool.not_true, Bool.not_false, Bool.and_true, Bool.true_and, Bool.and_self, List.getElem?_cons_zero, List.getElem?_cons_succ, Nat.zero_add, Nat.add_zero, beq_self_eq_true, bne_self_eq_false, Int.reduceBNe, Int.reduceBEq, Int.reduceLT, Int.reduceGT, Int.reduceLE, Int.reduceGE, Nat.reduceAdd, Nat.reduceMul, Nat.reduceLeDiff, l22, hlt, hix, hq, g0, hk], .inr ⟨T', rfl⟩⟩
          · have hk : (((ms'[i].kind : Nat) : Int) == 2) = false := by rw [beq_eq_false_iff_ne]; omega
            refine .inr ⟨hin, ?_⟩
            simp only [bO_s, gB_t, asBool_b, asInt_i, asAgg_a, asTup_a, asStr_s, asCons_c, nthA_0, nthA_s, aggCells_a, addV_p, seeV_p, seeV_i, same_nil, tr_same, eql4, neq4, decide_true, decide_false, Bool.false_eq_true, if_false, if_true, Bool.not_true, Bool.not_false, Bool.and_true, Bool.true_and, Bool.and_self, List.getElem?_cons_zero, List.getElem?_cons_succ, Nat.zero_add, Nat.add_zero, beq_self_eq_true, bne_self_eq_false, Int.reduceBNe, Int.reduceBEq, Int.reduceLT, Int.reduceGT, Int.reduceLE, Int.reduceGE, Nat.reduceAdd, Nat.reduceMul, Nat.reduceLeDiff, l22, hlt, hix, hq, g0, hk]
            refine zero_step hpd hdl (by omega) hdb (fi := fi) (w := w) hz hin hi' hk2 (fun (o : Option (LSt ⊕ (Nat × LSt))) => ∃ s', o = some (.inl s') ∧ ∃ T' ms', s' = ([.int .i64 fi, .int .i64 w, .hs q 0 N 29, .int .i64 ((i + 1 : Nat) : Int)], T') ∧ ZS T' q ds ms' N (i + 1)) (fun T2 ms2 h2 => ?_) k (fun s => ?_)
            · simp only [bO_s, gB_t, asBool_b, asInt_i, asAgg_a, asTup_a, asStr_s, asCons_c, nthA_0, nthA_s, aggCells_a, addV_p, seeV_p, seeV_i, same_nil, tr_same, eql4, neq4, decide_true, decide_false, Bool.false_eq_true, if_false, if_true, Bool.not_true, Bool.not_false, Bool.and_true, Bool.true_and, Bool.and_self, List.getElem?_cons_zero, List.getElem?_cons_succ, Nat.zero_add, Nat.add_zero, beq_self_eq_true, bne_self_eq_false, Int.reduceBNe, Int.reduceBEq, Int.reduceLT, Int.reduceGT, Int.reduceLE, Int.reduceGE, Nat.reduceAdd, Nat.reduceMul, Nat.reduceLeDiff, sel, hw]
              exact ⟨_, rfl, T2, ms2, rfl, h2⟩
            · simp only [bO_s, gB_t, asBool_b, asInt_i, asAgg_a, asTup_a, asStr_s, asCons_c, nthA_0, nthA_s, aggCells_a, addV_p, seeV_p, seeV_i, same_nil, tr_same, eql4, neq4, decide_true, decide_false, Bool.false_eq_true, if_false, if_true, Bool.not_true, Bool.not_false, Bool.and_true, Bool.true_and, Bool.and_self, List.getElem?_cons_zero, List.getElem?_cons_succ, Nat.zero_add, Nat.add_zero, beq_self_eq_true, bne_self_eq_false, Int.reduceBNe, Int.reduceBEq, Int.reduceLT, Int.reduceGT, Int.reduceLE, Int.reduceGE, Nat.reduceAdd, Nat.reduceMul, Nat.reduceLeDiff]
        · have hlt : ¬ (i : Int) < (N : Int) := by omega
          have : i = N := by omega
          subst this
          exact .inl ⟨_, by simp only [bO_s, gB_t, asBool_b, asInt_i, asAgg_a, asTup_a, asStr_s, asCons_c, nthA_0, nthA_s, aggCells_a, addV_p, seeV_p, seeV_i, same_nil, tr_same, eql4, neq4, decide_true, decide_false, Bool.false_eq_true, if_false, if_true, Bool.not_true, Bool.not_false, Bool.and_true, Bool.true_and, Bool.and_self, List.getElem?_cons_zero, List.getElem?_cons_succ, Nat.zero_add, Nat.add_zero, beq_self_eq_true, bne_self_eq_false, Int.reduceBNe, Int.reduceBEq, Int.reduceLT, Int.reduceGT, Int.reduceLE, Int.reduceGE, Nat.reduceAdd, Nat.reduceMul, Nat.reduceLeDiff, l22, hlt], .inl ⟨T', ms', rfl, hz⟩⟩
      · rintro z (⟨T', ms', rfl, hz⟩ | ⟨T', rfl⟩)
        · have hlz := hz.len
          obtain ⟨T4, e4⟩ := hz.st.fz hz.good hpd
          rw [hlz] at e4
          have l22' : aLen Try.prog 22 (.is N (flat ms')) = some (.int .i64 (N : Int)) := by kernel_rfl
          have hw1 : IntKind.wrap .i64 ((N : Int) - 1) = ((N - 1 : Nat) : Int) := by rw [wr _ (by omega)]; omega
          have hi1 : N - 1 < ms'.length := by omega
          obtain ⟨p1, p2, p3⟩ := ix_is (Pre.of hz.good) hi1
          rw [hlz] at p1
          have hgx := hz.good _ (List.getElem_mem hi1)
          have hbx := hz.byt _ (List.getElem_mem hi1)
          have hzx := hz.zero _ hi1 (by omega)
          have lx := M.len hgx.pre
          have cx := hgx.cell
          have zx := M.z hgx.pre
          have tx : List.take 29 ms'[N - 1].cells = ms'[N - 1].cells := M.t29 hgx.pre
          have hsl := slice22 (n := N) (h := N - 1) (L := flat ms') (by rw [flat_len (Pre.of hz.good), hlz]) (by omega)
          rw [flat_take (Pre.of hz.good) (N - 1) (by omega)] at hsl
          have htl : (ms'.take (N - 1)).length = N - 1 := by rw [List.length_take]; omega
          have hrd : ∀ S, Rd S (.is (N - 1) (flat (ms'.take (N - 1)))) (ms'.take (N - 1)) := fun S => .inr (.inl (by rw [htl]))
          have hgt : ∀ x ∈ ms'.take (N - 1), Good 1000 x := fun x hx => hz.good x (List.mem_of_mem_take hx)
          have hzt : ∀ x ∈ (ms'.take (N - 1)).map M.norm, Zero x := fun x hx => by
            obtain ⟨y, hy, rfl⟩ := List.mem_map.1 hx
            obtain ⟨j, hj, rfl⟩ := List.getElem_of_mem (List.mem_of_mem_take hy)
            exact (hz.zero j hj (by omega)).norm (hz.good _ (List.getElem_mem hj))
          have hbt : ∀ x ∈ (ms'.take (N - 1)).map M.norm, Byt x := fun x hx => by
            obtain ⟨y, hy, rfl⟩ := List.mem_map.1 hx
            have := hz.byt y (List.mem_of_mem_take hy)
            exact ⟨this.k, this.c⟩
          generalize ms'[N - 1] = x at p3 hgx hbx hzx lx cx zx tx
          have e9 := fun T => awake_c hB (k + 8) T
          simp only [bO_s, gB_t, asBool_b, asInt_i, asAgg_a, asTup_a, asStr_s, asCons_c, nthA_0, nthA_s, aggCells_a, addV_p, seeV_p, seeV_i, same_nil, tr_same, eql4, neq4, decide_true, decide_false, Bool.false_eq_true, if_false, if_true, Bool.not_true, Bool.not_false, Bool.and_true, Bool.true_and, Bool.and_self, List.getElem?_cons_zero, List.getElem?_cons_succ, Nat.zero_add, Nat.add_zero, beq_self_eq_true, bne_self_eq_false, Int.reduceBNe, Int.reduceBEq, Int.reduceLT, Int.reduceGT, Int.reduceLE, Int.reduceGE, Nat.reduceAdd, Nat.reduceMul, Nat.reduceLeDiff, sel, e4, l22', hw1, p1, List.drop_zero, p2, p3, lx, cx, zx, hsl]
          rcases both_c (fi := fi) (w := w) hB.no (k + 2) (S := T4) hrd hgt (by omega) with ⟨hok, T5, q1, q1', c1, hT, hE⟩ | ⟨hno, c1⟩
          · have d1 := lawBlocks_c hB (k + 7) hgx hbx T5
            have hlen := blA_len x.bls
            have hb27 : x.bls.length ≤ 27 := bls_len x.kind x.cbp
            simp only [bO_s, gB_t, asBool_b, asInt_i, asAgg_a, asTup_a, asStr_s, asCons_c, nthA_0, nthA_s, aggCells_a, addV_p, seeV_p, seeV_i, same_nil, tr_same, eql4, neq4, decide_true, decide_false, Bool.false_eq_true, if_false, if_true, Bool.not_true, Bool.not_false, Bool.and_true, Bool.true_and, Bool.and_self, List.getElem?_cons_zero, List.getElem?_cons_succ, Nat.zero_add, Nat.add_zero, beq_self_eq_true, bne_self_eq_false, Int.reduceBNe, Int.reduceBEq, Int.reduceLT, Int.reduceGT, Int.reduceLE, Int.reduceGE, Nat.reduceAdd, Nat.reduceMul, Nat.reduceLeDiff, c1, eql_ptr, lx, h29, List.drop_zero, tx, d1]
            refine loop_ex (fun (o : Option (AV × Heap)) => ∃ S', o = some (.bool true, S')) (fun i s => s = ([.agg x.cells, .ptr T4.next 0, blA x.bls, .int .i64 (i : Int)], T5)) (fun x => x = (0, [], T5)) x.bls.length rfl ?_ ?_
            · rintro i s hi2 rfl
              by_cases hin2 : i < x.bls.length
              · have hlt : (i : Int) < (x.bls.length : Int) := by omega
                obtain ⟨p1, p2, p3⟩ := blA_at hin2
                have hw : IntKind.wrap .i64 ((i : Int) + 1) = ((i + 1 : Nat) : Int) := by rw [wr _ (by omega)]; omega
                have hmem : x.bls[i] ∈ x.bls := List.getElem_mem hin2
                have k1 := class_c hB (k + 2) hT.a hbt hgx hbx hmem
                rw [cls_zero hzx (lf_zero hzt) (fa_zero hzt _)] at k1
                have h3 : (3 : Nat) ≤ 3 := by omega
                have p4 : ((cells3 x.bls).drop (i * 3))[0]? = some (.int .u8 (x.bls[i].1 : Int)) := by
                  have h := p3
                  rw [← List.getElem?_take_of_lt (show 0 < 3 by omega), h]; rfl
                refine .inr ⟨hin2, ([.agg x.cells, .ptr T4.next 0, blA x.bls, .int .i64 ((i + 1 : Nat) : Int)], T5), ?_, rfl⟩
                by_cases hc3 : x.bls[i].1 = 3
                · rw [if_pos hc3] at k1
                  rw [hc3] at p4
                  have n1 : (((4 : Nat) : Int) != 4) = false := rfl
                  have n2 : (((4 : Nat) : Int) != 0) = true := rfl
                  have n3 : (((3 : Nat) : Int) != 3) = false := rfl
                  simp only [bO_s, gB_t, asBool_b, asInt_i, asAgg_a, asTup_a, asStr_s, asCons_c, nthA_0, nthA_s, aggCells_a, addV_p, seeV_p, seeV_i, same_nil, tr_same, eql4, neq4, decide_true, decide_false, Bool.false_eq_true, if_false, if_true, Bool.not_true, Bool.not_false, Bool.and_true, Bool.true_and, Bool.and_self, List.getElem?_cons_zero, List.getElem?_cons_succ, Nat.zero_add, Nat.add_zero, beq_self_eq_true, bne_self_eq_false, Int.reduceBNe, Int.reduceBEq, Int.reduceLT, Int.reduceGT, Int.reduceLE, Int.reduceGE, Nat.reduceAdd, Nat.reduceMul, Nat.reduceLeDiff, hlen, hlt, lx, h29, tx, List.drop_zero, p1, p2, p3, addV_i0, p4, k1, n1, n2, n3, hw]
                · rw [if_neg hc3] at k1
                  have n1 : (((0 : Nat) : Int) != 4) = true := rfl
                  have n2 : (((0 : Nat) : Int) != 0) = false := rfl
                  have n3 : ((x.bls[i].1 : Int) == 3) = false := by rw [beq_eq_false_iff_ne]; omega
                  simp only [bO_s, gB_t, asBool_b, asInt_i, asAgg_a, asTup_a, asStr_s, asCons_c, nthA_0, nthA_s, aggCells_a, addV_p, seeV_p, seeV_i, same_nil, tr_same, eql4, neq4, decide_true, decide_false, Bool.false_eq_true, if_false, if_true, Bool.not_true, Bool.not_false, Bool.and_true, Bool.true_and, Bool.and_self, List.getElem?_cons_zero, List.getElem?_cons_succ, Nat.zero_add, Nat.add_zero, beq_self_eq_true, bne_self_eq_false, Int.reduceBNe, Int.reduceBEq, Int.reduceLT, Int.reduceGT, Int.reduceLE, Int.reduceGE, Nat.reduceAdd, Nat.reduceMul, Nat.reduceLeDiff, hlen, hlt, lx, h29, tx, List.drop_zero, p1, p2, p3, addV_i0, p4, k1, n1, n2, n3, hw]
              · have hlt : ¬ (i : Int) < (x.bls.length : Int) := by omega
                exact .inl ⟨(0, [], T5), by simp only [bO_s, gB_t, asBool_b, asInt_i, asAgg_a, asTup_a, asStr_s, asCons_c, nthA_0, nthA_s, aggCells_a, addV_p, seeV_p, seeV_i, same_nil, tr_same, eql4, neq4, decide_true, decide_false, Bool.false_eq_true, if_false, if_true, Bool.not_true, Bool.not_false, Bool.and_true, Bool.true_and, Bool.and_self, List.getElem?_cons_zero, List.getElem?_cons_succ, Nat.zero_add, Nat.add_zero, beq_self_eq_true, bne_self_eq_false, Int.reduceBNe, Int.reduceBEq, Int.reduceLT, Int.reduceGT, Int.reduceLE, Int.reduceGE, Nat.reduceAdd, Nat.reduceMul, Nat.reduceLeDiff, hlen, hlt], rfl⟩
            · rintro x rfl
              simp only [bO_s, gB_t, asBool_b, asInt_i, asAgg_a, asTup_a, asStr_s, asCons_c, nthA_0, nthA_s, aggCells_a, addV_p, seeV_p, seeV_i, same_nil, tr_same, eql4, neq4, decide_true, decide_false, Bool.false_eq_true, if_false, if_true, Bool.not_true, Bool.not_false, Bool.and_true, Bool.true_and, Bool.and_self, List.getElem?_cons_zero, List.getElem?_cons_succ, Nat.zero_add, Nat.add_zero, beq_self_eq_true, bne_self_eq_false, Int.reduceBNe, Int.reduceBEq, Int.reduceLT, Int.reduceGT, Int.reduceLE, Int.reduceGE, Nat.reduceAdd, Nat.reduceMul, Nat.reduceLeDiff, sel, e9]
              exact some_tr _ _ _
          · simp only [bO_s, gB_t, asBool_b, asInt_i, asAgg_a, asTup_a, asStr_s, asCons_c, nthA_0, nthA_s, aggCells_a, addV_p, seeV_p, seeV_i, same_nil, tr_same, eql4, neq4, decide_true, decide_false, Bool.false_eq_true, if_false, if_true, Bool.not_true, Bool.not_false, Bool.and_true, Bool.true_and, Bool.and_self, List.getElem?_cons_zero, List.getElem?_cons_succ, Nat.zero_add, Nat.add_zero, beq_self_eq_true, bne_self_eq_false, Int.reduceBNe, Int.reduceBEq, Int.reduceLT, Int.reduceGT, Int.reduceLE, Int.reduceGE, Nat.reduceAdd, Nat.reduceMul, Nat.reduceLeDiff, c1, eql_nilp, e9]
            exact some_tr _ _ _
        · simp only [bO_s, gB_t, asBool_b, asInt_i, asAgg_a, asTup_a, asStr_s, asCons_c, nthA_0, nthA_s, aggCells_a, addV_p, seeV_p, seeV_i, same_nil, tr_same, eql4, neq4, decide_true, decide_false, Bool.false_eq_true, if_false, if_true, Bool.not_true, Bool.not_false, Bool.and_true, Bool.true_and, Bool.and_self, List.getElem?_cons_zero, List.getElem?_cons_succ, Nat.zero_add, Nat.add_zero, beq_self_eq_true, bne_self_eq_false, Int.reduceBNe, Int.reduceBEq, Int.reduceLT, Int.reduceGT, Int.reduceLE, Int.reduceGE, Nat.reduceAdd, Nat.reduceMul, Nat.reduceLeDiff, sel]
          exact some_tr _ _ _
theorem countEmpty_law (xs : List AV) (h : argsOk Try.prog maxLen 16 Try.f10.params.toList xs) : ∃ (C : CallF) (S' : Heap), NOk Try.prog (fun _ => none) C ∧ C 10 0 xs S0 = some (.bool true, S') := by
  rw [Try.params10] at h
  obtain ⟨a, r, rfl, h1, b, r2, rfl, h2, c, r3, rfl, h3, d, r4, rfl, h4, rfl⟩ := h
  obtain ⟨fi, rfl, hfi⟩ := arg3 h1
  obtain ⟨w, rfl, _⟩ := arg3 h2
  obtain ⟨ms, ha, hl, hA⟩ := arg22 h3
  obtain ⟨m, rfl, hm⟩ := arg29 h4
  obtain ⟨S', hS⟩ := countEmpty_c Bq_known 0 ha hl hA hm fi w
  exact ⟨Cn Bq 9, S', Cq_ok 9, hS⟩
end Go.Ab.tNearU
