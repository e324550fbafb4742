/- IncSigns: the law. -/
import Derived.Test.YtbmcdphiolidkaaDoorIK3
import Derived.Test.YtbmcdphiolidkaaDoorIJ5
set_option maxRecDepth 100000
set_option linter.unusedSimpArgs false
set_option linter.unusedVariables false
set_option linter.unusedSectionVars false
namespace Go.Ab.tNearU
open Go Go.Proofs

set_option maxHeartbeats 4000000 in
theorem incSigns_c {B : CallF} (hB : KnownP B) (k : Nat) {a : AV} {ms : List M} (ha : ∀ S, Rd S a ms) (hl : ms.length ≤ maxLen) (hA : ∀ m ∈ ms, Arg m) (hBs : ∀ m ∈ ms, Bnd m) {m : M} (hm : Arg m) (hBm : Bnd m) (fi w y : Int) :
    ∃ S', Cn B (k + 9) f_spindlelaw16_IncSigns 0 [.int .i64 fi, .int .i64 w, a, .agg m.cells, .int .u8 y] S0 = some (.bool true, S') := by
  have hK := hB.toKnown
  rw [c_spindlelaw16_IncSigns _ _ _ _ _ _ _ _ (hB.no _ _ _ _ (by decide)), T_spindlelaw16_IncSigns]
  have hgM := hm.good
  have l29 := M.len hgM.pre
  have t29 : List.take 29 m.cells = m.cells := M.t29 hgM.pre
  have h29 : (29 : Nat) ≤ 29 := by omega
  have z29 := M.z hgM.pre
  have hmx := maxLen_is
  obtain ⟨b1, f1, f1'⟩ := few_c hB.no (k + 7) (ha S0) (fun x hx => (hA x hx).good) hl 8
  obtain ⟨b2, f2, f2'⟩ := few_c hB.no (k + 7) (rd_one m S0) (fun x hx => by rw [List.mem_singleton] at hx; subst hx; exact hgM) (by rw [List.length_singleton]; omega) 1
  cases b1 with
  | false =>
    simp only [bO_s, gB_t, asBool_b, asInt_i, asAgg_a, asTup_a, asStr_s, asCons_c, nthA_0, nthA_s, aggCells_a, addV_p, seeV_p, seeV_i, same_nil, tr_same, eql4, neq4, decide_true, decide_false, Bool.false_eq_true, if_false, if_true, Bool.not_true, Bool.not_false, Bool.and_true, Bool.true_and, Bool.and_self, List.getElem?_cons_zero, List.getElem?_cons_succ, Nat.zero_add, Nat.add_zero, beq_self_eq_true, bne_self_eq_false, Int.reduceBNe, Int.reduceBEq, Int.reduceLT, Int.reduceGT, Int.reduceLE, Int.reduceGE, Nat.reduceAdd, Nat.reduceMul, Nat.reduceLeDiff, l29, f1]
    exact ⟨_, rfl⟩
  | true =>
    cases b2 with
    | false =>
      simp only [bO_s, gB_t, asBool_b, asInt_i, asAgg_a, asTup_a, asStr_s, asCons_c, nthA_0, nthA_s, aggCells_a, addV_p, seeV_p, seeV_i, same_nil, tr_same, eql4, neq4, decide_true, decide_false, Bool.false_eq_true, if_false, if_true, Bool.not_true, Bool.not_false, Bool.and_true, Bool.true_and, Bool.and_self, List.getElem?_cons_zero, List.getElem?_cons_succ, Nat.zero_add, Nat.add_zero, beq_self_eq_true, bne_self_eq_false, Int.reduceBNe, Int.reduceBEq, Int.reduceLT, Int.reduceGT, Int.reduceLE, Int.reduceGE, Nat.reduceAdd, Nat.reduceMul, Nat.reduceLeDiff, l29, f1, List.drop_zero, t29, h29, z29, f2]
      exact ⟨_, rfl⟩
    | true =>
      obtain ⟨len8, g60⟩ := f1' rfl
      obtain ⟨_, gm60⟩ := f2' rfl
      have hg : Good 1000 m := (gm60 m (List.mem_singleton.2 rfl)).mono (by omega)
      have hgs : ∀ x ∈ ms, Good 1000 x := fun x hx => (g60 x hx).mono (by omega)
      have hb : Byt m := hm.byt hgM.pre
      obtain ⟨z, U0, ap, hrd, hE0⟩ := app_two ha hgs (by omega) (l2 := [m]) (fun y hy => by
        rw [List.mem_singleton] at hy
        subst hy
        exact hg) (by simp) S0
      have hgall : ∀ y ∈ [m] ++ ms, Good 1000 y := fun y hy => by
        rcases List.mem_append.1 hy with hy | hy
        · rw [List.mem_singleton] at hy
          subst hy
          exact hg
        · exact hgs y hy
      obtain ⟨b3, f3, f3'⟩ := still_c hB.no (k + 7) hrd hgall (by simp; omega)
      have l1' : ([m] : List M).length = 1 := rfl
      have fl1 : flat [m] = m.cells := by unfold flat; rw [List.flatMap_cons, List.flatMap_nil, List.append_nil]
      rw [l1', fl1] at ap
      have e9 := fun T => awake_c hK (k + 8) T
      simp only [bO_s, gB_t, asBool_b, asInt_i, asAgg_a, asTup_a, asStr_s, asCons_c, nthA_0, nthA_s, aggCells_a, addV_p, seeV_p, seeV_i, same_nil, tr_same, eql4, neq4, decide_true, decide_false, Bool.false_eq_true, if_false, if_true, Bool.not_true, Bool.not_false, Bool.and_true, Bool.true_and, Bool.and_self, List.getElem?_cons_zero, List.getElem?_cons_succ, Nat.zero_add, Nat.add_zero, beq_self_eq_true, bne_self_eq_false, Int.reduceBNe, Int.reduceBEq, Int.reduceLT, Int.reduceGT, Int.reduceLE, Int.reduceGE, Nat.reduceAdd, Nat.reduceMul, Nat.reduceLeDiff, l29, f1, List.drop_zero, t29, h29, z29, f2, ap, f3]
      cases b3 with
      | false =>
        simp only [bO_s, gB_t, asBool_b, asInt_i, asAgg_a, asTup_a, asStr_s, asCons_c, nthA_0, nthA_s, aggCells_a, addV_p, seeV_p, seeV_i, same_nil, tr_same, eql4, neq4, decide_true, decide_false, Bool.false_eq_true, if_false, if_true, Bool.not_true, Bool.not_false, Bool.and_true, Bool.true_and, Bool.and_self, List.getElem?_cons_zero, List.getElem?_cons_succ, Nat.zero_add, Nat.add_zero, beq_self_eq_true, bne_self_eq_false, Int.reduceBNe, Int.reduceBEq, Int.reduceLT, Int.reduceGT, Int.reduceLE, Int.reduceGE, Nat.reduceAdd, Nat.reduceMul, Nat.reduceLeDiff]
        first | exact ⟨_, rfl⟩ | exact some_tr _ _ _
      | true =>
        have hstl := f3' rfl
        have hsm : Stl m := hstl m (List.mem_append_left _ (List.mem_singleton.2 rfl))
        have hsms : ∀ x ∈ ms, Stl x := fun x hx => hstl x (List.mem_append_right _ hx)
        have hnl : (ms.map M.norm).length = ms.length := List.length_map _
        have hgn : ∀ y ∈ ms.map M.norm, Good 1000 y := fun y hy => by
          obtain ⟨u, hu, rfl⟩ := List.mem_map.1 hy
          exact (hgs u hu).norm
        have hbs : ∀ y ∈ ms.map M.norm, Byt y := fun y hy => by
          obtain ⟨u, hu, rfl⟩ := List.mem_map.1 hy
          exact ⟨((hA u hu).byt (hA u hu).good.pre).k, (hA u hu).cb⟩
        have hss : ∀ y ∈ ms.map M.norm, Bys y := fun y hy => by
          obtain ⟨u, hu, rfl⟩ := List.mem_map.1 hy
          exact (hA u hu).pre
        have hbd : ∀ y ∈ ms.map M.norm, Bnd y := fun y hy => by
          obtain ⟨u, hu, rfl⟩ := List.mem_map.1 hy
          exact (hBs u hu).norm (hgs u hu)
        have hst : ∀ y ∈ ms.map M.norm, Stl y := fun y hy => by
          obtain ⟨u, hu, rfl⟩ := List.mem_map.1 hy
          exact (hsms u hu).norm
        obtain ⟨x, T, ds, ids, e1, hx, hpd, hin, hE⟩ := copyMbs1_c hB.no (k + 4) (S := U0) (DMs.arg ha U0) (fun j hj => by cases hj) hgs (by omega)
        obtain ⟨dt, T1, idt, e2, hdt, hint, hE1⟩ := copyMb1_c hB.no (k + 5) (DM.self (S := T) hg) (fun j hj => by cases hj) hg
        have hdp : dt.pre.length = 23 := by rw [hdt.pre]; exact hg.pre
        have ld := M.len hdp
        have zd := M.z hdp
        have cd := hdt.cell hg.norm
        have td : List.take 29 dt.cells = dt.cells := M.t29 hdp
        have hfl := flat_len hpd
        have hx1 := hx.keep (T := T1) fun j hj => hE1.2.2 j (hin j hj).2
        have hdis : ∀ j ∈ ids, j ∉ idt := fun j hj hj' => by have := (hin j hj).2; have := (hint j hj').1; omega
        simp only [bO_s, gB_t, asBool_b, asInt_i, asAgg_a, asTup_a, asStr_s, asCons_c, nthA_0, nthA_s, aggCells_a, addV_p, seeV_p, seeV_i, same_nil, tr_same, eql4, neq4, decide_true, decide_false, Bool.false_eq_true, if_false, if_true, Bool.not_true, Bool.not_false, Bool.and_true, Bool.true_and, Bool.and_self, List.getElem?_cons_zero, List.getElem?_cons_succ, Nat.zero_add, Nat.add_zero, beq_self_eq_true, bne_self_eq_false, Int.reduceBNe, Int.reduceBEq, Int.reduceLT, Int.reduceGT, Int.reduceLE, Int.reduceGE, Nat.reduceAdd, Nat.reduceMul, Nat.reduceLeDiff, l29, List.drop_zero, t29, h29, e1, e2, ld, cd, zd]
        refine loop_ex (fun (o : Option (AV × Heap)) => ∃ S', o = some (.bool true, S'))
          (fun i s => ∃ T' ms', s = ([.int .i64 fi, .int .i64 w, a, .int .u8 y, .agg m.cells, x, .agg dt.cells, .int .i64 (i : Int)], T') ∧ SoM T' x ds ms' ids ∧ (ms'.length = ms.length ∧ (∀ j (h1 : j < (ms.map M.norm).length) (h2 : j < ms'.length), j < i → Neg (ms.map M.norm)[j] ms'[j]) ∧ ∀ j (h1 : j < (ms.map M.norm).length) (h2 : j < ms'.length), i ≤ j → ms'[j] = (ms.map M.norm)[j]) ∧ DM true T' dt m.norm idt ∧ T'.next = T1.next ∧ T'.cx = T1.cx)
          (fun z => ∃ T' ms', z = (0, [.int .i64 fi, .int .i64 w, a, .int .u8 y, .agg m.cells, x, .agg dt.cells], T') ∧ SoM T' x ds ms' ids ∧ NegL (ms.map M.norm) ms' ∧ DM true T' dt m.norm idt ∧ T'.next = T1.next ∧ T'.cx = T1.cx) ms.length
          ⟨T1, _, rfl, hx1, ⟨hnl, fun j _ _ h => absurd h (Nat.not_lt_zero _), fun j _ _ _ => rfl⟩, hdt, rfl, rfl⟩ ?_ ?_
        · rintro i s hi ⟨T', ms', rfl, hx', ⟨hl', hq1, hq2⟩, hdt', hnx, hcx⟩
          have hlen' := hx'.dms.len
          rw [hl'] at hlen'
          by_cases hin2 : i < ms.length
          · have hlt : (i : Int) < (ms.length : Int) := by omega
            have hw : IntKind.wrap .i64 ((i : Int) + 1) = ((i + 1 : Nat) : Int) := by rw [wr _ (by omega)]; omega
            have hi2 : i < ms'.length := by omega
            have hi3 : i < (ms.map M.norm).length := by omega
            obtain ⟨q, hid, idx, hxq, hq, hd, hidx, hupd⟩ := hx'.upd hi2
            have hsame := hq2 i hi3 hi2 (Nat.le_refl _)
            rw [hsame] at hd
            have hmi : (ms.map M.norm)[i] ∈ ms.map M.norm := List.getElem_mem hi3
            have hix : aIdx 29 x (i : Int) = some (.ptr q (i * 29)) := by
              rw [hxq]
              simp only [aIdx, Int.toNat_natCast]
              rw [if_pos ⟨by omega, by omega, trivial⟩, Nat.zero_add]
            have hle : i * 29 + 29 ≤ (flat ds).length := by rw [hfl]; omega
            have hat := flat_at hpd hid
            obtain ⟨U, v', b', t1, t2, t3, t4, t5, t6, t7, t8, t9⟩ := negate_c hB.no (k + 7) hd (hgn _ hmi) (hbd _ hmi) (fun j hj => by have := (hin j (hidx j hj)).2; have := hE1.1; omega)
            refine .inr ⟨hin2, ([.int .i64 fi, .int .i64 w, a, .int .u8 y, .agg m.cells, x, .agg dt.cells, .int .i64 ((i + 1 : Nat) : Int)], U), ?_, U, _, rfl, hupd U _ t9 t2, ⟨by rw [List.length_set]; exact hl', fun j h1 h2 h3 => ?_, fun j h1 h2 h3 => ?_⟩, hdt'.keep fun j hj => t9 j fun hj' => hdis j (hidx j hj') hj, by omega, by rw [t8]; exact hcx⟩
            · simp only [bO_s, gB_t, asBool_b, asInt_i, asAgg_a, asTup_a, asStr_s, asCons_c, nthA_0, nthA_s, aggCells_a, addV_p, seeV_p, seeV_i, same_nil, tr_same, eql4, neq4, decide_true, decide_false, Bool.false_eq_true, if_false, if_true, Bool.not_true, Bool.not_false, Bool.and_true, Bool.true_and, Bool.and_self, List.getElem?_cons_zero, List.getElem?_cons_succ, Nat.zero_add, Nat.add_zero, beq_self_eq_true, bne_self_eq_false, Int.reduceBNe, Int.reduceBEq, Int.reduceLT, Int.reduceGT, Int.reduceLE, Int.reduceGE, Nat.reduceAdd, Nat.reduceMul, Nat.reduceLeDiff, hlen', hlt, hix, hq, hle, hat, t1, hw]
            · by_cases hj : j = i
              · subst hj
                rw [List.getElem_set_self]
                exact ⟨v', b', rfl, t3, t4, t5, t6⟩
              · rw [List.getElem_set_ne (by omega)]
                exact hq1 j h1 (by rw [List.length_set] at h2; exact h2) (by omega)
            · rw [List.getElem_set_ne (by omega)]
              exact hq2 j h1 (by rw [List.length_set] at h2; exact h2) (by omega)
          · have hlt : ¬ (i : Int) < (ms.length : Int) := by omega
            exact .inl ⟨_, by simp only [bO_s, gB_t, asBool_b, asInt_i, asAgg_a, asTup_a, asStr_s, asCons_c, nthA_0, nthA_s, aggCells_a, addV_p, seeV_p, seeV_i, same_nil, tr_same, eql4, neq4, decide_true, decide_false, Bool.false_eq_true, if_false, if_true, Bool.not_true, Bool.not_false, Bool.and_true, Bool.true_and, Bool.and_self, List.getElem?_cons_zero, List.getElem?_cons_succ, Nat.zero_add, Nat.add_zero, beq_self_eq_true, bne_self_eq_false, Int.reduceBNe, Int.reduceBEq, Int.reduceLT, Int.reduceGT, Int.reduceLE, Int.reduceGE, Nat.reduceAdd, Nat.reduceMul, Nat.reduceLeDiff, hlen', hlt], T', ms', rfl, hx', ⟨by rw [hnl]; exact hl'.symm, fun j h1 h2 => hq1 j h1 h2 (by omega)⟩, hdt', hnx, hcx⟩
        · rintro z' ⟨T', ms', rfl, hx', hq', hdt', hnx, hcx⟩
          have hE1n := hE1.1
          obtain ⟨U, v', b', t1, t2, t3, t4, t5, t6, t7, t8, t9⟩ := negate_c hB.no (k + 7) hdt' hg.norm (hBm.norm hg) (fun j hj => by have := (hint j hj).2; omega)
          have hxU := hx'.keep (T := U) fun j hj => t9 j (hdis j hj)
          have hg' := hq'.good hgn
          obtain ⟨x', e3, hx2⟩ := hxU.rd hg'
          have hgt : Good 1000 { m.norm with v := v', b := b' } := ⟨hg.pre, hg.norm.r, t3, t5⟩
          have e4 := (t2.keep (T := kill U ids) fun j hj => kill_out fun hj' => hdis j hj' hj).fz hgt
          have hqm : Neg m.norm { m.norm with v := v', b := b' } := ⟨v', b', rfl, t3, t4, t5, t6⟩
          obtain ⟨mt, hmt⟩ : ∃ mt : M, mt = { m.norm with v := v', b := b' } := ⟨_, rfl⟩
          rw [← hmt] at hgt e4 hqm
          have hlt := M.len hgt.pre
          have htt : List.take 29 mt.cells = mt.cells := M.t29 hgt.pre
          have hbt : Byt mt := hqm.byt ⟨hb.k, hb.c⟩
          have hst' : Bys mt := hqm.bys (m := m.norm) hm.pre
          have hbl : mt.bls = m.bls := hqm.bls
          have hsv : Sv m mt := (Sv.norm hsm hg.v).trans (hqm.sv hsm.norm hg.norm.v)
          have htot : ∀ c, tot m c = tot mt c := fun c => by
            have h1 := hqm.le
            exact (LeL.tot2 ((Le.refl m).norm hg) ((Le.refl m).normL hg) c).trans (LeL.tot2 h1.1 h1.2 c)
          have hl' : ms'.length = ms.length := by rw [← hq'.len, hnl]
          obtain ⟨hL1, hL2⟩ := hq'.le hgn
          have hSL := hq'.sv hgn hst
          have hbn' : ∀ x ∈ ms'.map M.norm, Byt x := fun x hx => by
            obtain ⟨y, hy, rfl⟩ := List.mem_map.1 hx
            have := hq'.byt hbs y hy
            exact ⟨this.k, this.c⟩
          have hsn' : ∀ x ∈ ms'.map M.norm, Bys x := fun x hx => by
            obtain ⟨y, hy, rfl⟩ := List.mem_map.1 hx
            exact hq'.bys hss y hy
          have td29 : List.take 29 dt.cells = dt.cells := M.t29 hdp
          simp only [bO_s, gB_t, asBool_b, asInt_i, asAgg_a, asTup_a, asStr_s, asCons_c, nthA_0, nthA_s, aggCells_a, addV_p, seeV_p, seeV_i, same_nil, tr_same, eql4, neq4, decide_true, decide_false, Bool.false_eq_true, if_false, if_true, Bool.not_true, Bool.not_false, Bool.and_true, Bool.true_and, Bool.and_self, List.getElem?_cons_zero, List.getElem?_cons_succ, Nat.zero_add, Nat.add_zero, beq_self_eq_true, bne_self_eq_false, Int.reduceBNe, Int.reduceBEq, Int.reduceLT, Int.reduceGT, Int.reduceLE, Int.reduceGE, Nat.reduceAdd, Nat.reduceMul, Nat.reduceLeDiff, sel, ld, h29, List.drop_zero, td29, t1, e3, e4]
          rcases both_c (fi := fi) (w := w) hB.no (k + 2) (S := kill (kill U ids) idt) ha hgs (by omega) with ⟨hok, V1, q1, q1', c1, hV1, hE3⟩ | ⟨hno, c1⟩
          · rcases both_c (fi := fi) (w := w) hB.no (k + 2) (S := V1) hx2 hg' (by omega) with ⟨hok2, V, q2, q2', c2, hV2, hE4⟩ | ⟨hno, c2⟩
            · have hO1 := hV1.a.ext hE4
              have hO2 := hV2.a
              have d1 := lawBlocks_c hK (k + 7) hg hb V
              have hlen := blA_len m.bls
              have hb27 : m.bls.length ≤ 27 := bls_len m.kind m.cbp
              obtain ⟨pt, hpt⟩ : ∃ pt, pt = IntKind.wrap .i64 (Int.tmod y 18) := ⟨_, rfl⟩
              obtain ⟨vt, hvt⟩ : ∃ vt : Bool, vt = (Int.tmod y 2 == 0) := ⟨_, rfl⟩
              have r1 := mvd_c hB (k + 2) hO1 hbs hss hg hb hm.pre pt vt
              have r2 := mvd_c hB (k + 2) hO2 hbn' hsn' hgt hbt hst' pt vt
              have hlenL : (ms'.map M.norm).length = (ms.map M.norm).length := hSL.len.symm
              obtain ⟨hmE, hmV, hm0⟩ := mvdV_eq (nl := lf fi w (ms.map M.norm)) (nl' := lf fi w (ms'.map M.norm)) (na := fa fi (ms.map M.norm) (fi + (ms.map M.norm).length - w)) (na' := fa fi (ms'.map M.norm) (fi + (ms.map M.norm).length - w)) hsv hg.v hgt.v (lf_sv hSL).1 (lf_sv hSL).2 (fa_sv hSL).1 (fa_sv hSL).2 pt vt
              rw [hlenL, hmE, hmV] at r2
              have hneg : ¬ mvdV (lf fi w (ms.map M.norm)) (fa fi (ms.map M.norm) (fi + (ms.map M.norm).length - w)) m pt vt < 0 := by omega
              generalize mvdV (lf fi w (ms.map M.norm)) (fa fi (ms.map M.norm) (fi + (ms.map M.norm).length - w)) m pt vt = mv at r1 r2 hneg
              simp only [bO_s, gB_t, asBool_b, asInt_i, asAgg_a, asTup_a, asStr_s, asCons_c, nthA_0, nthA_s, aggCells_a, addV_p, seeV_p, seeV_i, same_nil, tr_same, eql4, neq4, decide_true, decide_false, Bool.false_eq_true, if_false, if_true, Bool.not_true, Bool.not_false, Bool.and_true, Bool.true_and, Bool.and_self, List.getElem?_cons_zero, List.getElem?_cons_succ, Nat.zero_add, Nat.add_zero, beq_self_eq_true, bne_self_eq_false, Int.reduceBNe, Int.reduceBEq, Int.reduceLT, Int.reduceGT, Int.reduceLE, Int.reduceGE, Nat.reduceAdd, Nat.reduceMul, Nat.reduceLeDiff, c1, c2, eql_ptr, l29, hlt, h29, List.drop_zero, t29, htt, ← hpt, ← hvt, r1, r2, hneg, d1]
              refine loop_ex (fun (o : Option (AV × Heap)) => ∃ S', o = some (.bool true, S')) (fun i s => s = ([.agg m.cells, .agg mt.cells, .ptr (kill (kill U ids) idt).next 0, .ptr V1.next 0, blA m.bls, .int .i64 (i : Int)], V)) (fun x => x = (0, [], V)) m.bls.length rfl ?_ ?_
              · rintro i s hi2 rfl
                by_cases hin2 : i < m.bls.length
                · have hltb : (i : Int) < (m.bls.length : Int) := by omega
                  obtain ⟨p1, p2, p3⟩ := blA_at hin2
                  have hw : IntKind.wrap .i64 ((i : Int) + 1) = ((i + 1 : Nat) : Int) := by rw [wr _ (by omega)]; omega
                  have hmem : m.bls[i] ∈ m.bls := List.getElem_mem hin2
                  have hmem' : m.bls[i] ∈ mt.bls := by rw [hbl]; exact hmem
                  have k1 := incBlock_c hK (k + 2) hO1 hbs hg hb hmem
                  have k2 := incBlock_c hK (k + 2) hO2 hbn' hgt hbt hmem'
                  have hbv : blockV mt (lf fi w (ms'.map M.norm)) (fa fi (ms'.map M.norm) (fi + (ms'.map M.norm).length - w)) m.bls[i] = blockV m (lf fi w (ms.map M.norm)) (fa fi (ms.map M.norm) (fi + (ms.map M.norm).length - w)) m.bls[i] := by
                    rw [← hL1.len]
                    exact blockV_eq htot hsv.kind (fun c => LeL.tot2 (lf_le hL1).1 (lf_le hL2).1 c) (lf_le hL1).2 (fun c => LeL.tot2 (fa_le hL1).1 (fa_le hL2).1 c) (fa_le hL1).2 _
                  rw [hbv] at k2
                  refine .inr ⟨hin2, _, ?_, rfl⟩
                  simp only [bO_s, gB_t, asBool_b, asInt_i, asAgg_a, asTup_a, asStr_s, asCons_c, nthA_0, nthA_s, aggCells_a, addV_p, seeV_p, seeV_i, same_nil, tr_same, eql4, neq4, decide_true, decide_false, Bool.false_eq_true, if_false, if_true, Bool.not_true, Bool.not_false, Bool.and_true, Bool.true_and, Bool.and_self, List.getElem?_cons_zero, List.getElem?_cons_succ, Nat.zero_add, Nat.add_zero, beq_self_eq_true, bne_self_eq_false, Int.reduceBNe, Int.reduceBEq, Int.reduceLT, Int.reduceGT, Int.reduceLE, Int.reduceGE, Nat.reduceAdd, Nat.reduceMul, Nat.reduceLeDiff, hlen, hltb, l29, hlt, h29, t29, htt, List.drop_zero, p1, p2, p3, k1, k2, same_see, hw]
                · have hlt : ¬ (i : Int) < (m.bls.length : Int) := by omega
                  exact .inl ⟨(0, [], V), by simp only [bO_s, gB_t, asBool_b, asInt_i, asAgg_a, asTup_a, asStr_s, asCons_c, nthA_0, nthA_s, aggCells_a, addV_p, seeV_p, seeV_i, same_nil, tr_same, eql4, neq4, decide_true, decide_false, Bool.false_eq_true, if_false, if_true, Bool.not_true, Bool.not_false, Bool.and_true, Bool.true_and, Bool.and_self, List.getElem?_cons_zero, List.getElem?_cons_succ, Nat.zero_add, Nat.add_zero, beq_self_eq_true, bne_self_eq_false, Int.reduceBNe, Int.reduceBEq, Int.reduceLT, Int.reduceGT, Int.reduceLE, Int.reduceGE, Nat.reduceAdd, Nat.reduceMul, Nat.reduceLeDiff, hlen, hlt], rfl⟩
              · rintro x rfl
                simp only [bO_s, gB_t, asBool_b, asInt_i, asAgg_a, asTup_a, asStr_s, asCons_c, nthA_0, nthA_s, aggCells_a, addV_p, seeV_p, seeV_i, same_nil, tr_same, eql4, neq4, decide_true, decide_false, Bool.false_eq_true, if_false, if_true, Bool.not_true, Bool.not_false, Bool.and_true, Bool.true_and, Bool.and_self, List.getElem?_cons_zero, List.getElem?_cons_succ, Nat.zero_add, Nat.add_zero, beq_self_eq_true, bne_self_eq_false, Int.reduceBNe, Int.reduceBEq, Int.reduceLT, Int.reduceGT, Int.reduceLE, Int.reduceGE, Nat.reduceAdd, Nat.reduceMul, Nat.reduceLeDiff, sel, e9]
                first | exact ⟨_, rfl⟩ | exact some_tr _ _ _
            · exact absurd (hl' ▸ hok) hno
          · rcases both_c (fi := fi) (w := w) hB.no (k + 2) (S := kill (kill U ids) idt) hx2 hg' (by omega) with ⟨hok2, T2, q2, q2', c2, hT2, hE4⟩ | ⟨hno2, c2⟩
            · exact absurd (hl' ▸ hok2) hno
            · simp only [bO_s, gB_t, asBool_b, asInt_i, asAgg_a, asTup_a, asStr_s, asCons_c, nthA_0, nthA_s, aggCells_a, addV_p, seeV_p, seeV_i, same_nil, tr_same, eql4, neq4, decide_true, decide_false, Bool.false_eq_true, if_false, if_true, Bool.not_true, Bool.not_false, Bool.and_true, Bool.true_and, Bool.and_self, List.getElem?_cons_zero, List.getElem?_cons_succ, Nat.zero_add, Nat.add_zero, beq_self_eq_true, bne_self_eq_false, Int.reduceBNe, Int.reduceBEq, Int.reduceLT, Int.reduceGT, Int.reduceLE, Int.reduceGE, Nat.reduceAdd, Nat.reduceMul, Nat.reduceLeDiff, c1, c2, eql_nilp, e9]
              first | exact ⟨_, rfl⟩ | exact some_tr _ _ _
theorem incSigns_law (xs : List AV) (h : argsOk Tryd.prog maxLen 16 Tryd.f4.params.toList xs) : ∃ (C : CallF) (S' : Heap), NOk Tryd.prog Gk C ∧ C 4 0 xs S0 = some (.bool true, S') := by
  rw [Tryd.params4] at h
  obtain ⟨a, r, rfl, h1, b, r2, rfl, h2, c, r3, rfl, h3, d, r4, rfl, h4, e, r5, rfl, h5, rfl⟩ := h
  obtain ⟨fi, rfl, hfi⟩ := arg3 h1
  obtain ⟨w, rfl, hw⟩ := arg3 h2
  obtain ⟨ms, ha, hl, hA, hBs⟩ := argB22 h3
  obtain ⟨m, rfl, hm, hBm⟩ := argB29 h4
  obtain ⟨y, rfl, _⟩ := arg5 h5
  obtain ⟨S', hS⟩ := incSigns_c Bp_known 0 ha hl hA hBs hm hBm fi w y
  exact ⟨Cn Bp 9, S', Cp_ok 9, hS⟩
end Go.Ab.tNearU
