/- CountSigns: the law. -/
import Derived.Test.YtcnenkckcemhdaaCnsG1
import Derived.Test.YtcnenkckcemhdaaCnsF3
set_option maxRecDepth 100000
set_option linter.unusedSimpArgs false
set_option linter.unusedVariables false
set_option linter.unusedSectionVars false
namespace Go.Ab.tNearU
open Go Go.Proofs

/-- The same but for its coefficients; as many of them are not 0. -/
def Eqv (m m' : M) : Prop := ∃ b', m' = { m with b := b' } ∧ RelB (· = ·) m.b b' ∧ Rows 1000 b'
theorem Eqv.refl {m : M} (hg : Good 1000 m) : Eqv m m := ⟨m.b, rfl, RelB.refl (fun _ => rfl) _, hg.b⟩
theorem Eqv.step {m m' : M} (h : Eqv m m') {b : AV} (h1 : RelB (· = ·) m'.b b) (h2 : Rows 1000 b) : Eqv m { m' with b := b } := by
  obtain ⟨b', rfl, h3, _⟩ := h
  exact ⟨b, rfl, h3.trans (fun x y => x.trans y) h1, h2⟩
theorem Eqv.good {m m' : M} (h : Eqv m m') (hg : Good 1000 m) : Good 1000 m' := by
  obtain ⟨b', rfl, _, h3⟩ := h
  exact ⟨hg.pre, hg.r, hg.v, h3⟩
theorem Eqv.byt {m m' : M} (h : Eqv m m') (hb : Byt m) : Byt m' := by
  obtain ⟨b', rfl, _, h3⟩ := h
  exact ⟨hb.k, hb.c⟩
theorem Eqv.bls {m m' : M} (h : Eqv m m') : m'.bls = m.bls := by
  obtain ⟨b', rfl, _, h3⟩ := h
  rfl
theorem Eqv.le {m m' : M} (h : Eqv m m') : Le m m' ∧ Le m' m := by
  obtain ⟨b', rfl, h2, _⟩ := h
  refine ⟨⟨rfl, fun c => ?_⟩, ⟨rfl, fun c => ?_⟩⟩
  · rcases h2.row c with h | ⟨r, r', h3, h4, h5⟩
    · exact .inl h
    · exact .inr ⟨r, r', h3, h4, by omega⟩
  · rcases h2.row c with h | ⟨r, r', h3, h4, h5⟩
    · exact .inl ⟨h.2, h.1⟩
    · exact .inr ⟨r', r, h4, h3, by omega⟩
theorem LeL.tot2 {m m' : M} (h1 : Le m m') (h2 : Le m' m) (c : Cd) : tot m c = tot m' c := Nat.le_antisymm (h1.tot c) (h2.tot c)
theorem lookd_eq {m m' : M} {nb nb' : M × Bool} (h : ∀ c, tot m c = tot m' c) (hn : ∀ c, tot nb.1 c = tot nb'.1 c) (hf : nb.2 = nb'.2) (ab : Bool) (c : Cd) : lookd m nb ab c = lookd m' nb' ab c := by
  unfold lookd
  rw [← hf, h, hn]
theorem cls_eq {m m' : M} {nl na nl' na' : M × Bool} (h : ∀ c, tot m c = tot m' c) (hl : ∀ c, tot nl.1 c = tot nl'.1 c) (hlf : nl.2 = nl'.2) (ha : ∀ c, tot na.1 c = tot na'.1 c) (haf : na.2 = na'.2) (c : Cd) : cls m nl na c = cls m' nl' na' c := by
  unfold cls
  rw [lookd_eq h hl hlf, lookd_eq h ha haf]
theorem Le.normL {m m' : M} (h : Le m m') (hg : Good 1000 m) : Le m.norm m' := ⟨h.kind, fun c => by
  rw [row_norm hg]
  rcases h.row c with ⟨h1, h2⟩ | ⟨r, r', h1, h2, h3⟩
  · exact .inl ⟨by rw [h1]; rfl, h2⟩
  · exact .inr ⟨nrm r, r', by rw [h1]; rfl, h2, by rw [nz_map hg h1]; exact h3⟩⟩
structure EqvL (ms ms' : List M) : Prop where
  len : ms.length = ms'.length
  at' : ∀ i (h : i < ms.length) (h' : i < ms'.length), Eqv ms[i] ms'[i]
theorem EqvL.good {ms ms' : List M} (h : EqvL ms ms') (hg : ∀ m ∈ ms, Good 1000 m) : ∀ m ∈ ms', Good 1000 m := fun m hm => by
  obtain ⟨i, hi, rfl⟩ := List.getElem_of_mem hm
  exact (h.at' i (by rw [h.len]; exact hi) hi).good (hg _ (List.getElem_mem _))
theorem EqvL.byt {ms ms' : List M} (h : EqvL ms ms') (hg : ∀ m ∈ ms, Byt m) : ∀ m ∈ ms', Byt m := fun m hm => by
  obtain ⟨i, hi, rfl⟩ := List.getElem_of_mem hm
  exact (h.at' i (by rw [h.len]; exact hi) hi).byt (hg _ (List.getElem_mem _))
theorem EqvL.set {ms ms' : List M} (h : EqvL ms ms') {i : Nat} (hi : i < ms'.length) {b : AV} (h1 : RelB (· = ·) ms'[i].b b) (h2 : Rows 1000 b) : EqvL ms (ms'.set i { ms'[i] with b := b }) := ⟨by rw [List.length_set]; exact h.len, fun j h3 h4 => by
  have h5 : j < ms'.length := by rw [List.length_set] at h4; exact h4
  by_cases hj : i = j
  · subst hj; rw [List.getElem_set_self]; exact (h.at' i h3 h5).step h1 h2
  · rw [List.getElem_set_ne hj]; exact h.at' j h3 h5⟩
theorem EqvL.le {ms ms' : List M} (h : EqvL ms ms') (hg : ∀ m ∈ ms, Good 1000 m) : LeL ms (ms'.map M.norm) ∧ LeL (ms'.map M.norm) ms := by
  have hg' := h.good hg
  refine ⟨⟨by rw [List.length_map]; exact h.len, fun i h1 h2 => ?_⟩, ⟨by rw [List.length_map]; exact h.len.symm, fun i h1 h2 => ?_⟩⟩
  · rw [List.length_map] at h2
    rw [List.getElem_map]; exact (h.at' i h1 h2).le.1.norm (hg' _ (List.getElem_mem _))
  · rw [List.length_map] at h1
    rw [List.getElem_map]; exact (h.at' i h2 h1).le.2.normL (hg' _ (List.getElem_mem _))
theorem DM.fz {w : Bool} {S : Heap} {d m : M} {ids : List Nat} (h : DM w S d m ids) (hg : Good 1000 m) : fz 40 (.agg d.cells) S = some (.agg m.cells, kill S ids) := by
  have e := ownL_fz (d := 2) (k := 36) (fun hx hy => own_fz 2 hx hy) (h.ownL hg) (T := S) fun _ _ => rfl
  rw [show (40 : Nat) = 39 + 1 from rfl, Go.Ab.fz]
  simp only [e]
set_option maxHeartbeats 2000000 in
theorem countSigns_c {B : CallF} (hB : Known B) (k : Nat) {a : AV} {ms : List M} (ha : ∀ S, Rd S a ms) (hl : ms.length ≤ maxLen) (hA : ∀ m ∈ ms, Arg m) {m : M} (hm : Arg m) (fi w : Int) {y : Int} (hy : -128 ≤ y ∧ y ≤ 127) :
    ∃ S', Cn B (k + 9) f_spindlelaw15_CountSigns 0 [.int .i64 fi, .int .i64 w, a, .agg m.cells, .int .i8 y] S0 = some (.bool true, S') := by
  rw [c_spindlelaw15_CountSigns _ _ _ _ _ _ _ _ (hB.no _ _ _ _ (by decide)), T_spindlelaw15_CountSigns]
  have hgM := hm.good
  have l29 := M.len hgM.pre
  have t29 : List.take 29 m.cells = m.cells := M.t29 hgM.pre
  have h29 : (29 : Nat) ≤ 29 := by omega
  have z29 := M.z hgM.pre
  obtain ⟨b1, f1, f1'⟩ := few_c hB.no (k + 7) (ha S0) (fun x hx => (hA x hx).good) hl 8
  obtain ⟨b2, f2, f2'⟩ := few_c hB.no (k + 7) (rd_one m S0) (fun x hx => by rw [List.mem_singleton] at hx; subst hx; exact hgM) (by rw [List.length_singleton]; have := maxLen_is; omega) 1
  cases b1 with
  | false =>
    simp only [bO_s, gB_t, asBool_b, asInt_i, asAgg_a, asTup_a, asStr_s, asCons_c, nthA_0, nthA_s, aggCells_a, addV_p, seeV_p, seeV_i, same_nil, tr_same, eql4, neq4, decide_true, decide_false, Bool.false_eq_true, if_false, if_true, Bool.not_true, Bool.not_false, Bool.and_true, Bool.true_and, Bool.and_self, List.getElem?_cons_zero, List.getElem?_cons_succ, Nat.zero_add, Nat.add_zero, beq_self_eq_true, bne_self_eq_false, Int.reduceBNe, Int.reduceBEq, Int.reduceLT, Int.reduceGT, Int.reduceLE, Int.reduceGE, Nat.reduceAdd, Nat.reduceMul, Nat.reduceLeDiff, l29, f1]
    exact ⟨_, rfl⟩
  | true =>
    cases b2 with
    | false =>
      simp only [bO_s, gB_t, asBool_b, asInt_i, asAgg_a, asTup_a, asStr_s, asCons_c, nthA_0, nthA_s, aggCells_a, addV_p, seeV_p, seeV_i, same_nil, tr_same, eql4, neq4, decide_true, decide_false, Bool.false_eq_true, if_false, if_true, Bool.not_true, Bool.not_false, Bool.and_true, Bool.true_and, Bool.and_self, List.getElem?_cons_zero, List.getElem?_cons_succ, Nat.zero_add, Nat.add_zero, beq_self_eq_true, bne_self_eq_false, Int.reduceBNe, Int.reduceBEq, Int.reduceLT, Int.reduceGT, Int.reduceLE, Int.reduceGE, Nat.reduceAdd, Nat.reduceMul, Nat.reduceLeDiff, l29, f1, List.drop_zero, t29, h29, z29, f2]
      exact ⟨_, rfl⟩
    | true =>
      obtain ⟨len8, g60⟩ := f1' rfl
      obtain ⟨_, gm60⟩ := f2' rfl
      have hg : Good 1000 m := (gm60 m (List.mem_singleton.2 rfl)).mono (by omega)
      have hgs : ∀ x ∈ ms, Good 1000 x := fun x hx => (g60 x hx).mono (by omega)
      have hb : Byt m := hm.byt hgM.pre
      have hgn : ∀ x ∈ ms.map M.norm, Good 1000 x := fun x hx => by
        obtain ⟨y, hy, rfl⟩ := List.mem_map.1 hx
        exact (hgs y hy).norm
      have hbs : ∀ x ∈ ms.map M.norm, Byt x := fun x hx => by
        obtain ⟨y, hy, rfl⟩ := List.mem_map.1 hx
        exact ⟨((hA y hy).byt (hA y hy).good.pre).k, (hA y hy).cb⟩
      obtain ⟨x, T, ds, ids, e1, hx, hpd, hin, hE⟩ := copyMbs1_c hB.no (k + 4) (DMs.arg ha S0) (fun j hj => by cases hj) hgs (by omega)
      have hnl : (ms.map M.norm).length = ms.length := List.length_map _
      obtain ⟨dt, T1, idt, e2, hdt, hint, hE1⟩ := copyMb1_c hB.no (k + 5) (DM.self (S := T) hg) (fun j hj => by cases hj) hg
      have hdp : dt.pre.length = 23 := by rw [hdt.pre]; exact hg.pre
      have ld := M.len hdp
      have zd := M.z hdp
      have cd := hdt.cell hg.norm
      have td : List.take 29 dt.cells = dt.cells := M.t29 hdp
      have hfl := flat_len hpd
      have hx1 := hx.keep (T := T1) fun j hj => hE1.2.2 j (hin j hj).2
      have hdis : ∀ j ∈ ids, j ∉ idt := fun j hj hj' => by have := (hin j hj).2; have := (hint j hj').1; omega
      simp only [bO_s, gB_t, asBool_b, asInt_i, asAgg_a, asTup_a, asStr_s, asCons_c, nthA_0, nthA_s, aggCells_a, addV_p, seeV_p, seeV_i, same_nil, tr_same, eql4, neq4, decide_true, decide_false, Bool.false_eq_true, if_false, if_true, Bool.not_true, Bool.not_false, Bool.and_true, Bool.true_and, Bool.and_self, List.getElem?_cons_zero, List.getElem?_cons_succ, Nat.zero_add, Nat.add_zero, beq_self_eq_true, bne_self_eq_false, Int.reduceBNe, Int.reduceBEq, Int.reduceLT, Int.reduceGT, Int.reduceLE, Int.reduceGE, Nat.reduceAdd, Nat.reduceMul, Nat.reduceLeDiff, l29, f1, List.drop_zero, t29, h29, z29, f2, e1, e2, ld, cd, zd]
      refine loop_ex (fun (o : Option (AV × Heap)) => ∃ S', o = some (.bool true, S'))
        (fun i s => ∃ T' ms', s = ([.int .i64 fi, .int .i64 w, a, .int .i8 y, .agg m.cells, x, .agg dt.cells, .int .i64 (i : Int)], T') ∧ SoM T' x ds ms' ids ∧ EqvL (ms.map M.norm) ms' ∧ DM true T' dt m.norm idt ∧ T'.next = T1.next ∧ T'.cx = T1.cx)
        (fun z => ∃ T' ms', z = (0, [.int .i64 fi, .int .i64 w, a, .int .i8 y, .agg m.cells, x, .agg dt.cells], T') ∧ SoM T' x ds ms' ids ∧ EqvL (ms.map M.norm) ms' ∧ DM true T' dt m.norm idt ∧ T'.next = T1.next ∧ T'.cx = T1.cx) ms.length
        ⟨T1, _, rfl, hx1, ⟨rfl, fun i h1 _ => Eqv.refl (hgn _ (List.getElem_mem h1))⟩, hdt, rfl, rfl⟩ ?_ ?_
      · rintro i s hi ⟨T', ms', rfl, hx', hq', hdt', hnx, hcx⟩
        have hlen' := hx'.dms.len
        have hl' : ms'.length = ms.length := by rw [← hq'.len, hnl]
        rw [hl'] at hlen'
        have hg' := hq'.good hgn
        by_cases hin2 : i < ms.length
        · have hlt : (i : Int) < (ms.length : Int) := by omega
          have hw : IntKind.wrap .i64 ((i : Int) + 1) = ((i + 1 : Nat) : Int) := by rw [wr _ (by omega)]; omega
          have hi2 : i < ms'.length := by omega
          obtain ⟨q, hid, idx, hxq, hq, hd, hidx, hupd⟩ := hx'.upd hi2
          have hgi := hg' _ (List.getElem_mem hi2)
          have hix : aIdx 29 x (i : Int) = some (.ptr q (i * 29)) := by
            rw [hxq]
            simp only [aIdx, Int.toNat_natCast]
            rw [if_pos ⟨by omega, by omega, trivial⟩, Nat.zero_add]
          have hle : i * 29 + 29 ≤ (flat ds).length := by rw [hfl]; omega
          have hat := flat_at hpd hid
          obtain ⟨U, b', t1, t2, t3, t4, t5, t6, t7⟩ := turn_c hB.no (k + 7) hd hgi (fun j hj => by have := (hin j (hidx j hj)).2; have := hE1.1; omega) hy
          refine .inr ⟨hin2, ([.int .i64 fi, .int .i64 w, a, .int .i8 y, .agg m.cells, x, .agg dt.cells, .int .i64 ((i + 1 : Nat) : Int)], U), ?_, U, _, rfl, hupd U _ t7 t2, hq'.set hi2 t4 t3, hdt'.keep fun j hj => t7 j fun hj' => hdis j (hidx j hj') hj, by omega, by rw [t6]; exact hcx⟩
          simp only [bO_s, gB_t, asBool_b, asInt_i, asAgg_a, asTup_a, asStr_s, asCons_c, nthA_0, nthA_s, aggCells_a, addV_p, seeV_p, seeV_i, same_nil, tr_same, eql4, neq4, decide_true, decide_false, Bool.false_eq_true, if_false, if_true, Bool.not_true, Bool.not_false, Bool.and_true, Bool.true_and, Bool.and_self, List.getElem?_cons_zero, List.getElem?_cons_succ, Nat.zero_add, Nat.add_zero, beq_self_eq_true, bne_self_eq_false, Int.reduceBNe, Int.reduceBEq, Int.reduceLT, Int.reduceGT, Int.reduceLE, Int.reduceGE, Nat.reduceAdd, Nat.reduceMul, Nat.reduceLeDiff, hlen', hlt, hix, hq, hle, hat, t1, hw]
        · have hlt : ¬ (i : Int) < (ms.length : Int) := by omega
          exact .inl ⟨_, by simp only [bO_s, gB_t, asBool_b, asInt_i, asAgg_a, asTup_a, asStr_s, asCons_c, nthA_0, nthA_s, aggCells_a, addV_p, seeV_p, seeV_i, same_nil, tr_same, eql4, neq4, decide_true, decide_false, Bool.false_eq_true, if_false, if_true, Bool.not_true, Bool.not_false, Bool.and_true, Bool.true_and, Bool.and_self, List.getElem?_cons_zero, List.getElem?_cons_succ, Nat.zero_add, Nat.add_zero, beq_self_eq_true, bne_self_eq_false, Int.reduceBNe, Int.reduceBEq, Int.reduceLT, Int.reduceGT, Int.reduceLE, Int.reduceGE, Nat.reduceAdd, Nat.reduceMul, Nat.reduceLeDiff, hlen', hlt], T', ms', rfl, hx', hq', hdt', hnx, hcx⟩
      · rintro z ⟨T', ms', rfl, hx', hq', hdt', hnx, hcx⟩
        have hE1n := hE1.1
        obtain ⟨U, b', t1, t2, t3, t4, t5, t6, t7⟩ := turn_c hB.no (k + 7) hdt' hg.norm (fun j hj => by have := (hint j hj).2; omega) hy
        have hxU := hx'.keep (T := U) fun j hj => t7 j (hdis j hj)
        have hg' := hq'.good hgn
        obtain ⟨x', e3, hx2⟩ := hxU.rd hg'
        have hgt : Good 1000 { m.norm with b := b' } := ⟨hg.pre, hg.norm.r, hg.norm.v, t3⟩
        have e4 := (t2.keep (T := kill U ids) fun j hj => kill_out fun hj' => hdis j hj' hj).fz hgt
        have hqm : Eqv m.norm { m.norm with b := b' } := ⟨b', rfl, t4, t3⟩
        obtain ⟨mt, hmt⟩ : ∃ mt : M, mt = { m.norm with b := b' } := ⟨_, rfl⟩
        rw [← hmt] at hgt e4 hqm
        have hlt := M.len hgt.pre
        have htt : List.take 29 mt.cells = mt.cells := M.t29 hgt.pre
        have hbt : Byt mt := hqm.byt ⟨hb.k, hb.c⟩
        have hbl : mt.bls = m.bls := hqm.bls
        have htot : ∀ c, tot m c = tot mt c := fun c => by
          have h1 := hqm.le
          exact (LeL.tot2 ((Le.refl m).norm hg) ((Le.refl m).normL hg) c).trans (LeL.tot2 h1.1 h1.2 c)
        have hl' : ms'.length = ms.length := by rw [← hq'.len, hnl]
        obtain ⟨hL1, hL2⟩ := hq'.le hgn
        have hbn' : ∀ x ∈ ms'.map M.norm, Byt x := fun x hx => by
          obtain ⟨y, hy, rfl⟩ := List.mem_map.1 hx
          have := hq'.byt hbs y hy
          exact ⟨this.k, this.c⟩
        have e9 := fun T => awake_c hB (k + 8) T
        have td29 : List.take 29 dt.cells = dt.cells := M.t29 hdp
        simp only [bO_s, gB_t, asBool_b, asInt_i, asAgg_a, asTup_a, asStr_s, asCons_c, nthA_0, nthA_s, aggCells_a, addV_p, seeV_p, seeV_i, same_nil, tr_same, eql4, neq4, decide_true, decide_false, Bool.false_eq_true, if_false, if_true, Bool.not_true, Bool.not_false, Bool.and_true, Bool.true_and, Bool.and_self, List.getElem?_cons_zero, List.getElem?_cons_succ, Nat.zero_add, Nat.add_zero, beq_self_eq_true, bne_self_eq_false, Int.reduceBNe, Int.reduceBEq, Int.reduceLT, Int.reduceGT, Int.reduceLE, Int.reduceGE, Nat.reduceAdd, Nat.reduceMul, Nat.reduceLeDiff, sel, ld, h29, List.drop_zero, td29, t1, e3, e4]
        rcases both_c (fi := fi) (w := w) hB.no (k + 2) (S := kill (kill U ids) idt) ha hgs (by omega) with ⟨hok, T1, q1, q1', c1, hT1, hE3⟩ | ⟨hno, c1⟩
        · rcases both_c (fi := fi) (w := w) hB.no (k + 2) (S := T1) hx2 hg' (by omega) with ⟨hok2, T2, q2, q2', c2, hT2, hE4⟩ | ⟨hno, c2⟩
          · have d1 := lawBlocks_c hB (k + 7) hg hb T2
            have hlen := blA_len m.bls
            have hb27 : m.bls.length ≤ 27 := bls_len m.kind m.cbp
            simp only [bO_s, gB_t, asBool_b, asInt_i, asAgg_a, asTup_a, asStr_s, asCons_c, nthA_0, nthA_s, aggCells_a, addV_p, seeV_p, seeV_i, same_nil, tr_same, eql4, neq4, decide_true, decide_false, Bool.false_eq_true, if_false, if_true, Bool.not_true, Bool.not_false, Bool.and_true, Bool.true_and, Bool.and_self, List.getElem?_cons_zero, List.getElem?_cons_succ, Nat.zero_add, Nat.add_zero, beq_self_eq_true, bne_self_eq_false, Int.reduceBNe, Int.reduceBEq, Int.reduceLT, Int.reduceGT, Int.reduceLE, Int.reduceGE, Nat.reduceAdd, Nat.reduceMul, Nat.reduceLeDiff, c1, c2, eql_ptr, l29, h29, List.drop_zero, t29, d1]
            refine loop_ex (fun (o : Option (AV × Heap)) => ∃ S', o = some (.bool true, S')) (fun i s => s = ([.agg m.cells, .agg mt.cells, .ptr (kill (kill U ids) idt).next 0, .ptr T1.next 0, blA m.bls, .int .i64 (i : Int)], T2)) (fun x => x = (0, [], T2)) m.bls.length rfl ?_ ?_
            · rintro i s hi2 rfl
              by_cases hin2 : i < m.bls.length
              · have hltb : (i : Int) < (m.bls.length : Int) := by omega
                obtain ⟨p1, p2, p3⟩ := blA_at hin2
                have hw : IntKind.wrap .i64 ((i : Int) + 1) = ((i + 1 : Nat) : Int) := by rw [wr _ (by omega)]; omega
                have hmem : m.bls[i] ∈ m.bls := List.getElem_mem hin2
                have hmem' : m.bls[i] ∈ mt.bls := by rw [hbl]; exact hmem
                have hcd := (mem_bls hmem).1
                have k1 := class_c hB (k + 2) (hT1.a.ext hE4) hbs hg hb hmem
                have k2 := class_c hB (k + 2) hT2.a hbn' hgt hbt hmem'
                have k3 := total_c hB (k + 4) hg hb hcd T2
                have k4 := total_c hB (k + 4) hgt hbt hcd T2
                have hcl : cls mt (lf fi w (ms'.map M.norm)) (fa fi (ms'.map M.norm) (fi + (ms'.map M.norm).length - w)) m.bls[i] = cls m (lf fi w (ms.map M.norm)) (fa fi (ms.map M.norm) (fi + (ms.map M.norm).length - w)) m.bls[i] := by
                  rw [← hL1.len]
                  exact (cls_eq htot (fun c => LeL.tot2 (lf_le hL1).1 (lf_le hL2).1 c) (lf_le hL1).2 (fun c => LeL.tot2 (fa_le hL1).1 (fa_le hL2).1 c) (fa_le hL1).2 _).symm
                rw [hcl] at k2
                rw [← htot] at k4
                have h3 : (3 : Nat) ≤ 3 := by omega
                refine .inr ⟨hin2, _, ?_, rfl⟩
                simp only [bO_s, gB_t, asBool_b, asInt_i, asAgg_a, asTup_a, asStr_s, asCons_c, nthA_0, nthA_s, aggCells_a, addV_p, seeV_p, seeV_i, same_nil, tr_same, eql4, neq4, decide_true, decide_false, Bool.false_eq_true, if_false, if_true, Bool.not_true, Bool.not_false, Bool.and_true, Bool.true_and, Bool.and_self, List.getElem?_cons_zero, List.getElem?_cons_succ, Nat.zero_add, Nat.add_zero, beq_self_eq_true, bne_self_eq_false, Int.reduceBNe, Int.reduceBEq, Int.reduceLT, Int.reduceGT, Int.reduceLE, Int.reduceGE, Nat.reduceAdd, Nat.reduceMul, Nat.reduceLeDiff, hlen, hltb, l29, hlt, h29, t29, htt, List.drop_zero, p1, p2, p3, k1, k2, k3, k4, same_see, hw]
              · have hlt : ¬ (i : Int) < (m.bls.length : Int) := by omega
                exact .inl ⟨(0, [], T2), by simp only [bO_s, gB_t, asBool_b, asInt_i, asAgg_a, asTup_a, asStr_s, asCons_c, nthA_0, nthA_s, aggCells_a, addV_p, seeV_p, seeV_i, same_nil, tr_same, eql4, neq4, decide_true, decide_false, Bool.false_eq_true, if_false, if_true, Bool.not_true, Bool.not_false, Bool.and_true, Bool.true_and, Bool.and_self, List.getElem?_cons_zero, List.getElem?_cons_succ, Nat.zero_add, Nat.add_zero, beq_self_eq_true, bne_self_eq_false, Int.reduceBNe, Int.reduceBEq, Int.reduceLT, Int.reduceGT, Int.reduceLE, Int.reduceGE, Nat.reduceAdd, Nat.reduceMul, Nat.reduceLeDiff, hlen, hlt], rfl⟩
            · rintro x rfl
              simp only [bO_s, gB_t, asBool_b, asInt_i, asAgg_a, asTup_a, asStr_s, asCons_c, nthA_0, nthA_s, aggCells_a, addV_p, seeV_p, seeV_i, same_nil, tr_same, eql4, neq4, decide_true, decide_false, Bool.false_eq_true, if_false, if_true, Bool.not_true, Bool.not_false, Bool.and_true, Bool.true_and, Bool.and_self, List.getElem?_cons_zero, List.getElem?_cons_succ, Nat.zero_add, Nat.add_zero, beq_self_eq_true, bne_self_eq_false, Int.reduceBNe, Int.reduceBEq, Int.reduceLT, Int.reduceGT, Int.reduceLE, Int.reduceGE, Nat.reduceAdd, Nat.reduceMul, Nat.reduceLeDiff, sel, e9]
              exact some_tr _ _ _
          · exact absurd (hl' ▸ hok) hno
        · rcases both_c (fi := fi) (w := w) hB.no (k + 2) (S := kill (kill U ids) idt) hx2 hg' (by omega) with ⟨hok2, T2, q2, q2', c2, hT2, hE4⟩ | ⟨hno2, c2⟩
          · exact absurd (hl' ▸ hok2) hno
          · simp only [bO_s, gB_t, asBool_b, asInt_i, asAgg_a, asTup_a, asStr_s, asCons_c, nthA_0, nthA_s, aggCells_a, addV_p, seeV_p, seeV_i, same_nil, tr_same, eql4, neq4, decide_true, decide_false, Bool.false_eq_true, if_false, if_true, Bool.not_true, Bool.not_false, Bool.and_true, Bool.true_and, Bool.and_self, List.getElem?_cons_zero, List.getElem?_cons_succ, Nat.zero_add, Nat.add_zero, beq_self_eq_true, bne_self_eq_false, Int.reduceBNe, Int.reduceBEq, Int.reduceLT, Int.reduceGT, Int.reduceLE, Int.reduceGE, Nat.reduceAdd, Nat.reduceMul, Nat.reduceLeDiff, c1, c2, eql_nilp, e9]
            exact some_tr _ _ _
end Go.Ab.tNearU
