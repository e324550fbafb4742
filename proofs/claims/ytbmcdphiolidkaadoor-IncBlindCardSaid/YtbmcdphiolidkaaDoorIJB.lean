/- IncBlind: the law. -/
import Derived.Test.YtbmcdphiolidkaaDoorIJ5
set_option maxRecDepth 100000
set_option linter.unusedSimpArgs false
set_option linter.unusedVariables false
set_option linter.unusedSectionVars false
namespace Go.Ab.tNearU
open Go Go.Proofs

set_option maxHeartbeats 4000000 in
theorem incBlind_c {B : CallF} (hB : KnownP B) (k : Nat) {a : AV} {ms : List M} (ha : ∀ S, Rd S a ms) (hl : ms.length ≤ maxLen) (hA : ∀ m ∈ ms, Arg m) {x m : M} (hx : Arg x) (hm : Arg m) (fi w i : Int) (hw64 : -9223372036854775808 ≤ w ∧ w ≤ 9223372036854775807) :
    ∃ S', Cn B (k + 9) f_spindlelaw16_IncBlind 0 [.int .i64 fi, .int .i64 w, a, .int .i64 i, .agg x.cells, .agg m.cells] S0 = some (.bool true, S') := by
  have hK := hB.toKnown
  rw [c_spindlelaw16_IncBlind _ _ _ _ _ _ _ _ _ (hB.no _ _ _ _ (by decide)), T_spindlelaw16_IncBlind]
  have hgM := hm.good
  have hgX := hx.good
  have l29 := M.len hgM.pre
  have t29 : List.take 29 m.cells = m.cells := M.t29 hgM.pre
  have x29 := M.len hgX.pre
  have u29 : List.take 29 x.cells = x.cells := M.t29 hgX.pre
  have h29 : (29 : Nat) ≤ 29 := by omega
  have h58 : (29 : Nat) ≤ 58 := by omega
  have zz : ([.int .u8 0, .int .u8 0, .int .u8 0, .int .u8 0, .int .u8 0, .int .u8 0, .int .u8 0, .int .u8 0, .int .u8 0, .int .u8 0, .int .u8 0, .int .u8 0, .int .u8 0, .int .u8 0, .int .u8 0, .int .u8 0, .int .u8 0, .int .u8 0, .int .u8 0, .int .u8 0, .int .u8 0, .int .u8 0, .int .u8 0, .nils, .nils, .int .u8 0, .int .i64 0, .nils, .str ByteArray.empty, .int .u8 0, .int .u8 0, .int .u8 0, .int .u8 0, .int .u8 0, .int .u8 0, .int .u8 0, .int .u8 0, .int .u8 0, .int .u8 0, .int .u8 0, .int .u8 0, .int .u8 0, .int .u8 0, .int .u8 0, .int .u8 0, .int .u8 0, .int .u8 0, .int .u8 0, .int .u8 0, .int .u8 0, .int .u8 0, .int .u8 0, .nils, .nils, .int .u8 0, .int .i64 0, .nils, .str ByteArray.empty] : List AV) = [] ++ zM.cells ++ zM.cells := rfl
  have lz : zM.cells.length = 29 := rfl
  have s1 : setCells ([] ++ zM.cells ++ zM.cells) 0 x.cells = x.cells ++ zM.cells := by
    have := setCells_append x.cells [] zM.cells zM.cells (by rw [lz, x29])
    simpa using this
  have s1l : (x.cells ++ zM.cells).length = 58 := by rw [List.length_append, x29, lz]
  have h5858 : (58 : Nat) ≤ 58 := by omega
  have s2 : setCells (x.cells ++ zM.cells) 29 m.cells = flat [x, m] := by
    have := setCells_append m.cells x.cells zM.cells [] (by rw [lz, l29])
    rw [List.append_nil, List.append_nil, x29] at this
    rw [this, flat2]
  obtain ⟨b1, f1, f1'⟩ := few_c hB.no (k + 7) (ha S0) (fun x hx => (hA x hx).good) hl 8
  have hmx := maxLen_is
  have rd2 : ∀ S, Rd S (.is 2 (flat [x, m])) [x, m] := fun S => .inr (.inl rfl)
  obtain ⟨b2, f2, f2'⟩ := few_c hB.no (k + 7) (rd2 S0) (fun y hy => by
    simp only [List.mem_cons, List.not_mem_nil, or_false] at hy
    rcases hy with rfl | rfl
    · exact hgX
    · exact hgM) (by simp; omega) 2
  have hlen := (ha S0).len
  cases b1 with
  | false =>
    simp only [bO_s, gB_t, asBool_b, asInt_i, asAgg_a, asTup_a, asStr_s, asCons_c, nthA_0, nthA_s, aggCells_a, addV_p, seeV_p, seeV_i, same_nil, tr_same, eql4, neq4, decide_true, decide_false, Bool.false_eq_true, if_false, if_true, Bool.not_true, Bool.not_false, Bool.and_true, Bool.true_and, Bool.and_self, List.getElem?_cons_zero, List.getElem?_cons_succ, Nat.zero_add, Nat.add_zero, beq_self_eq_true, bne_self_eq_false, Int.reduceBNe, Int.reduceBEq, Int.reduceLT, Int.reduceGT, Int.reduceLE, Int.reduceGE, Nat.reduceAdd, Nat.reduceMul, Nat.reduceLeDiff, l29, x29, f1]
    exact ⟨_, rfl⟩
  | true =>
    cases b2 with
    | false =>
      simp only [bO_s, gB_t, asBool_b, asInt_i, asAgg_a, asTup_a, asStr_s, asCons_c, nthA_0, nthA_s, aggCells_a, addV_p, seeV_p, seeV_i, same_nil, tr_same, eql4, neq4, decide_true, decide_false, Bool.false_eq_true, if_false, if_true, Bool.not_true, Bool.not_false, Bool.and_true, Bool.true_and, Bool.and_self, List.getElem?_cons_zero, List.getElem?_cons_succ, Nat.zero_add, Nat.add_zero, beq_self_eq_true, bne_self_eq_false, Int.reduceBNe, Int.reduceBEq, Int.reduceLT, Int.reduceGT, Int.reduceLE, Int.reduceGE, Nat.reduceAdd, Nat.reduceMul, Nat.reduceLeDiff, l29, x29, f1, List.drop_zero, t29, u29, h29, h58, h5858, zz, s1, s1l, s2, f2]
      exact ⟨_, rfl⟩
    | true =>
      obtain ⟨len8, g60⟩ := f1' rfl
      obtain ⟨_, gm60⟩ := f2' rfl
      have hg : Good 1000 m := (gm60 m (by simp)).mono (by omega)
      have hxg : Good 1000 x := (gm60 x (by simp)).mono (by omega)
      have hgs : ∀ y ∈ ms, Good 1000 y := fun y hy => (g60 y hy).mono (by omega)
      have hb : Byt m := hm.byt hgM.pre
      obtain ⟨z, U0, ap, hrd, hE0⟩ := app_two ha hgs (by omega) (l2 := [x, m]) (fun y hy => by
        simp only [List.mem_cons, List.not_mem_nil, or_false] at hy
        rcases hy with rfl | rfl
        · exact hxg
        · exact hg) (by simp) S0
      have hgall : ∀ y ∈ [x, m] ++ ms, Good 1000 y := fun y hy => by
        rcases List.mem_append.1 hy with hy | hy
        · simp only [List.mem_cons, List.not_mem_nil, or_false] at hy
          rcases hy with rfl | rfl
          · exact hxg
          · exact hg
        · exact hgs y hy
      obtain ⟨b3, f3, f3'⟩ := still_c hB.no (k + 7) hrd hgall (by simp; omega)
      have l2' : ([x, m] : List M).length = 2 := rfl
      rw [l2'] at ap
      have e9 := fun T => awake_c hK (k + 8) T
      simp only [bO_s, gB_t, asBool_b, asInt_i, asAgg_a, asTup_a, asStr_s, asCons_c, nthA_0, nthA_s, aggCells_a, addV_p, seeV_p, seeV_i, same_nil, tr_same, eql4, neq4, decide_true, decide_false, Bool.false_eq_true, if_false, if_true, Bool.not_true, Bool.not_false, Bool.and_true, Bool.true_and, Bool.and_self, List.getElem?_cons_zero, List.getElem?_cons_succ, Nat.zero_add, Nat.add_zero, beq_self_eq_true, bne_self_eq_false, Int.reduceBNe, Int.reduceBEq, Int.reduceLT, Int.reduceGT, Int.reduceLE, Int.reduceGE, Nat.reduceAdd, Nat.reduceMul, Nat.reduceLeDiff, l29, x29, f1, List.drop_zero, t29, u29, h29, h58, h5858, zz, s1, s1l, s2, f2, ap, f3]
      cases b3 with
      | false =>
        simp only [bO_s, gB_t, asBool_b, asInt_i, asAgg_a, asTup_a, asStr_s, asCons_c, nthA_0, nthA_s, aggCells_a, addV_p, seeV_p, seeV_i, same_nil, tr_same, eql4, neq4, decide_true, decide_false, Bool.false_eq_true, if_false, if_true, Bool.not_true, Bool.not_false, Bool.and_true, Bool.true_and, Bool.and_self, List.getElem?_cons_zero, List.getElem?_cons_succ, Nat.zero_add, Nat.add_zero, beq_self_eq_true, bne_self_eq_false, Int.reduceBNe, Int.reduceBEq, Int.reduceLT, Int.reduceGT, Int.reduceLE, Int.reduceGE, Nat.reduceAdd, Nat.reduceMul, Nat.reduceLeDiff]
        first | exact ⟨_, rfl⟩ | exact some_tr _ _ _
      | true =>
        have wl : IntKind.wrap .i64 ((ms.length : Int) - 1) = (ms.length : Int) - 1 := wr _ (by omega)
        by_cases g1 : i < 0
        · simp only [bO_s, gB_t, asBool_b, asInt_i, asAgg_a, asTup_a, asStr_s, asCons_c, nthA_0, nthA_s, aggCells_a, addV_p, seeV_p, seeV_i, same_nil, tr_same, eql4, neq4, decide_true, decide_false, Bool.false_eq_true, if_false, if_true, Bool.not_true, Bool.not_false, Bool.and_true, Bool.true_and, Bool.and_self, List.getElem?_cons_zero, List.getElem?_cons_succ, Nat.zero_add, Nat.add_zero, beq_self_eq_true, bne_self_eq_false, Int.reduceBNe, Int.reduceBEq, Int.reduceLT, Int.reduceGT, Int.reduceLE, Int.reduceGE, Nat.reduceAdd, Nat.reduceMul, Nat.reduceLeDiff, g1]
          first | exact ⟨_, rfl⟩ | exact some_tr _ _ _
        by_cases g2 : i ≥ (ms.length : Int) - 1
        · simp only [bO_s, gB_t, asBool_b, asInt_i, asAgg_a, asTup_a, asStr_s, asCons_c, nthA_0, nthA_s, aggCells_a, addV_p, seeV_p, seeV_i, same_nil, tr_same, eql4, neq4, decide_true, decide_false, Bool.false_eq_true, if_false, if_true, Bool.not_true, Bool.not_false, Bool.and_true, Bool.true_and, Bool.and_self, List.getElem?_cons_zero, List.getElem?_cons_succ, Nat.zero_add, Nat.add_zero, beq_self_eq_true, bne_self_eq_false, Int.reduceBNe, Int.reduceBEq, Int.reduceLT, Int.reduceGT, Int.reduceLE, Int.reduceGE, Nat.reduceAdd, Nat.reduceMul, Nat.reduceLeDiff, g1, hlen, wl, g2]
          first | exact ⟨_, rfl⟩ | exact some_tr _ _ _
        cases g3 : (i == IntKind.wrap .i64 ((ms.length : Int) - w)) with
        | true =>
          simp only [bO_s, gB_t, asBool_b, asInt_i, asAgg_a, asTup_a, asStr_s, asCons_c, nthA_0, nthA_s, aggCells_a, addV_p, seeV_p, seeV_i, same_nil, tr_same, eql4, neq4, decide_true, decide_false, Bool.false_eq_true, if_false, if_true, Bool.not_true, Bool.not_false, Bool.and_true, Bool.true_and, Bool.and_self, List.getElem?_cons_zero, List.getElem?_cons_succ, Nat.zero_add, Nat.add_zero, beq_self_eq_true, bne_self_eq_false, Int.reduceBNe, Int.reduceBEq, Int.reduceLT, Int.reduceGT, Int.reduceLE, Int.reduceGE, Nat.reduceAdd, Nat.reduceMul, Nat.reduceLeDiff, g1, hlen, wl, g2, g3]
          first | exact ⟨_, rfl⟩ | exact some_tr _ _ _
        | false =>
          obtain ⟨j, rfl⟩ := Int.eq_ofNat_of_zero_le (show 0 ≤ i by omega)
          have hj : j < ms.length := by omega
          have hnl : (ms.map M.norm).length = ms.length := List.length_map _
          have hgn : ∀ y ∈ ms.map M.norm, Good 1000 y := fun y hy => by
            obtain ⟨u, hu, rfl⟩ := List.mem_map.1 hy
            exact (hgs u hu).norm
          have hbs : ∀ y ∈ ms.map M.norm, Byt y := fun y hy => by
            obtain ⟨u, hu, rfl⟩ := List.mem_map.1 hy
            exact ⟨((hA u hu).byt (hA u hu).good.pre).k, (hA u hu).cb⟩
          have hss : ∀ y ∈ ms.map M.norm, Bys y := fun y hy => by
            obtain ⟨u, hu, rfl⟩ := List.mem_map.1 hy
            exact (hA u hu).pre
          obtain ⟨y, T, ds, ids, e1, hsm, hpd, hin, hE⟩ := copyMbs1_c hB.no (k + 4) (S := U0) (DMs.arg ha U0) (fun j hj => by cases hj) hgs (by omega)
          obtain ⟨q, ids', rfl, rfl, hq, hqn, hDL⟩ : ∃ q ids', y = .hs q 0 ms.length 29 ∧ ids = q :: ids' ∧ T.blk q = some (flat ds) ∧ q ∉ ids' ∧ DL true T ds (ms.map M.norm) ids' := by
            rcases hsm with ⟨h0, _⟩ | ⟨_, q, ids', h1, h2, h3, h4, h5⟩
            · have h1 := congrArg List.length h0
              rw [hnl] at h1
              have h2 : ms.length = 0 := h1
              omega
            · exact ⟨q, ids', by rw [← hnl]; exact h1, h2, h3, h4, h5⟩
          have hdl := hDL.len
          have hjd : j < ds.length := by omega
          have hix : aIdx 29 (.hs q 0 ms.length 29) (j : Int) = some (.ptr q (j * 29)) := by simp [aIdx, hj]
          have hfl := flat_len hpd
          have hput : putV (.ptr q (j * 29)) x.cells T = some (T.set q (some (flat (ds.set j x)))) := by
            simp only [putV, hq, x29]
            rw [if_pos (by rw [hfl]; omega), flat_set hpd hjd x hxg.pre]
          obtain ⟨T1, hT1⟩ : ∃ T1, T1 = T.set q (some (flat (ds.set j x))) := ⟨_, rfl⟩
          rw [← hT1] at hput
          have hDL1 : DL false T1 ds (ms.map M.norm) ids' := (hDL.weak).keep fun j hj => by rw [hT1, set_other _ _ (fun he => hqn (by rw [← he]; exact hj))]
          obtain ⟨ids2, hDL2, hsub⟩ := dL_put (S := T1) (DM.self hxg) hDL1 j hjd
          obtain ⟨L, hL⟩ : ∃ L, L = (ms.map M.norm).set j x := ⟨_, rfl⟩
          rw [← hL] at hDL2
          have hLl : L.length = ms.length := by rw [hL, List.length_set, hnl]
          have hLg : ∀ y ∈ L, Good 1000 y := fun y hy => by
            rw [hL] at hy
            rcases List.mem_or_eq_of_mem_set hy with hy | rfl
            · exact hgn y hy
            · exact hxg
          have hDMs : DMs false T1 (.hs q 0 ms.length 29) (ds.set j x) L (q :: ids2) := .inr (.inr ⟨q, ids2, by rw [hLl], rfl, by rw [hT1]; exact set_blk _ _ _, fun h => hqn (hsub q h), hDL2⟩)
          obtain ⟨x', e2, hx2⟩ := hDMs.fz hLg
          have hx3 : ∀ S, Rd S x' L := fun S => by
            rcases hx2 with ⟨h1, h2⟩ | h1
            · exact .inl ⟨h1, h2⟩
            · exact .inr (.inl h1)
          obtain ⟨T2, hT2⟩ : ∃ T2, T2 = kill T1 (q :: ids2) := ⟨_, rfl⟩
          rw [← hT2] at e2
          have hcx2 : T2.cx.1 = none := by rw [hT2, hT1]; show T.cx.1 = none; rw [hE.2.1, hE0.2.1]; rfl
          have hcellx := hxg.cell
          simp only [bO_s, gB_t, asBool_b, asInt_i, asAgg_a, asTup_a, asStr_s, asCons_c, nthA_0, nthA_s, aggCells_a, addV_p, seeV_p, seeV_i, same_nil, tr_same, eql4, neq4, decide_true, decide_false, Bool.false_eq_true, if_false, if_true, Bool.not_true, Bool.not_false, Bool.and_true, Bool.true_and, Bool.and_self, List.getElem?_cons_zero, List.getElem?_cons_succ, Nat.zero_add, Nat.add_zero, beq_self_eq_true, bne_self_eq_false, Int.reduceBNe, Int.reduceBEq, Int.reduceLT, Int.reduceGT, Int.reduceLE, Int.reduceGE, Nat.reduceAdd, Nat.reduceMul, Nat.reduceLeDiff, g1, hlen, wl, g2, g3, e1, x29, h29, List.drop_zero, u29, hix, hcellx, hput, e2]
          rcases both_c (fi := fi) (w := w) hB.no (k + 2) (S := T2) ha hgs (by omega) with ⟨hok, V1, q1, q1', c1, hV1, hE1⟩ | ⟨hno, c1⟩
          · rcases both_c (fi := fi) (w := w) hB.no (k + 2) (S := V1) hx3 hLg (by omega) with ⟨hok2, V, q2, q2', c2, hV2, hE2⟩ | ⟨hno, c2⟩
            · have hO1 := hV1.a.ext hE2
              have hO2 := hV2.a
              have hcx : V.cx.1 = none := by rw [hE2.2.1, hE1.2.1]; exact hcx2
              have hLn : L.map M.norm = (ms.map M.norm).set j x.norm := by
                rw [hL, List.map_set, List.map_map]
                congr 1
                exact List.map_congr_left (fun y _ => norm_norm y)
              rw [hLn] at hO2
              obtain ⟨L1, hL1⟩ : ∃ L1, L1 = ms.map M.norm := ⟨_, rfl⟩
              rw [← hL1] at hO1 hO2 hbs hss hgn
              have hl1 : L1.length = ms.length := by rw [hL1, hnl]
              have hsl : (L1.set j x.norm).length = L1.length := List.length_set ..
              have hbs2 : ∀ y ∈ L1.set j x.norm, Byt y := fun y hy => by
                rcases List.mem_or_eq_of_mem_set hy with hy | rfl
                · exact hbs y hy
                · exact ⟨(hx.byt hgX.pre).k, hx.cb⟩
              have hss2 : ∀ y ∈ L1.set j x.norm, Bys y := fun y hy => by
                rcases List.mem_or_eq_of_mem_set hy with hy | rfl
                · exact hss y hy
                · exact hx.pre
              obtain ⟨hf0, hw0, hmax⟩ := hok
              have hjw : (j : Int) ≠ (ms.length : Int) - w := fun h => by
                rw [wr _ (by omega)] at g3
                rw [beq_eq_false_iff_ne] at g3
                exact g3 h
              have hlast : fa fi (L1.set j x.norm) (fi + (L1.length : Int) - 1) = fa fi L1 (fi + (L1.length : Int) - 1) := fa_set (by omega)
              have hab : fa fi (L1.set j x.norm) (fi + (L1.length : Int) - w) = fa fi L1 (fi + (L1.length : Int) - w) := fa_set (by omega)
              have hlf : lf fi w (L1.set j x.norm) = lf fi w L1 := by
                unfold lf
                rw [hsl, hlast]
              have a1 := skip_c hK (k + 2) hO1 hbs hcx
              have a2 := type_c hK (k + 2) hO1 hbs hcx
              have a3 := mode_c hK (k + 2) hO1 hbs hcx
              have a4 := last_n hK (k + 3) hO1 hbs hcx
              have a5 := chroma_c hK (k + 2) hO1 hbs hcx true
              have a6 := chroma_c hK (k + 2) hO1 hbs hcx false
              have z1 := skip_c hK (k + 2) hO2 hbs2 hcx
              have z2 := type_c hK (k + 2) hO2 hbs2 hcx
              have z3 := mode_c hK (k + 2) hO2 hbs2 hcx
              have z4 := last_n hK (k + 3) hO2 hbs2 hcx
              have z5 := chroma_c hK (k + 2) hO2 hbs2 hcx true
              have z6 := chroma_c hK (k + 2) hO2 hbs2 hcx false
              rw [hsl, hlf, hab] at z1 z2 z3 z5 z6
              rw [hsl, hlast] at z4
              have d1 := lawBlocks_c hK (k + 7) hg hb V
              have hblen := blA_len m.bls
              have hb27 : m.bls.length ≤ 27 := bls_len m.kind m.cbp
              have g25 := M.g25 hg.pre
              simp only [bO_s, gB_t, asBool_b, asInt_i, asAgg_a, asTup_a, asStr_s, asCons_c, nthA_0, nthA_s, aggCells_a, addV_p, seeV_p, seeV_i, same_nil, tr_same, eql4, neq4, decide_true, decide_false, Bool.false_eq_true, if_false, if_true, Bool.not_true, Bool.not_false, Bool.and_true, Bool.true_and, Bool.and_self, List.getElem?_cons_zero, List.getElem?_cons_succ, Nat.zero_add, Nat.add_zero, beq_self_eq_true, bne_self_eq_false, Int.reduceBNe, Int.reduceBEq, Int.reduceLT, Int.reduceGT, Int.reduceLE, Int.reduceGE, Nat.reduceAdd, Nat.reduceMul, Nat.reduceLeDiff, c1, c2, eql_ptr, a1, z1, a2, z2, a3, z3, a4, z4, a5, z5, a6, z6]
              refine loop_ex (fun (o : Option (AV × Heap)) => ∃ S', o = some (.bool true, S')) (fun i s => s = ([.agg m.cells, .ptr T2.next 0, .ptr V1.next 0, .int .i64 (i : Int)], V)) (fun x => x = (0, [.agg m.cells, .ptr T2.next 0, .ptr V1.next 0], V)) 4 rfl ?_ ?_
              · rintro i s hi rfl
                by_cases hi4 : i < 4
                · have hlt : (i : Int) < 4 := by omega
                  have hw : IntKind.wrap .i64 ((i : Int) + 1) = ((i + 1 : Nat) : Int) := by rw [wr _ (by omega)]; omega
                  have r1 := incLuma_c hK (k + 2) hO1 hbs hcx (cb := m.cb) (j := i) (by omega)
                  have r2 := incLuma_c hK (k + 2) hO2 hbs2 hcx (cb := m.cb) (j := i) (by omega)
                  have r3 := ref_c hK (k + 2) hO1 hbs hcx hg hb (i : Int)
                  have r4 := ref_c hK (k + 2) hO2 hbs2 hcx hg hb (i : Int)
                  rw [hsl, hlf, hab] at r2 r4
                  refine .inr ⟨hi4, _, ?_, rfl⟩
                  simp only [bO_s, gB_t, asBool_b, asInt_i, asAgg_a, asTup_a, asStr_s, asCons_c, nthA_0, nthA_s, aggCells_a, addV_p, seeV_p, seeV_i, same_nil, tr_same, eql4, neq4, decide_true, decide_false, Bool.false_eq_true, if_false, if_true, Bool.not_true, Bool.not_false, Bool.and_true, Bool.true_and, Bool.and_self, List.getElem?_cons_zero, List.getElem?_cons_succ, Nat.zero_add, Nat.add_zero, beq_self_eq_true, bne_self_eq_false, Int.reduceBNe, Int.reduceBEq, Int.reduceLT, Int.reduceGT, Int.reduceLE, Int.reduceGE, Nat.reduceAdd, Nat.reduceMul, Nat.reduceLeDiff, hlt, g25, r1, r2, l29, h29, List.drop_zero, t29, r3, r4, hw]
                · have hlt : ¬ (i : Int) < 4 := by omega
                  exact .inl ⟨_, by simp only [bO_s, gB_t, asBool_b, asInt_i, asAgg_a, asTup_a, asStr_s, asCons_c, nthA_0, nthA_s, aggCells_a, addV_p, seeV_p, seeV_i, same_nil, tr_same, eql4, neq4, decide_true, decide_false, Bool.false_eq_true, if_false, if_true, Bool.not_true, Bool.not_false, Bool.and_true, Bool.true_and, Bool.and_self, List.getElem?_cons_zero, List.getElem?_cons_succ, Nat.zero_add, Nat.add_zero, beq_self_eq_true, bne_self_eq_false, Int.reduceBNe, Int.reduceBEq, Int.reduceLT, Int.reduceGT, Int.reduceLE, Int.reduceGE, Nat.reduceAdd, Nat.reduceMul, Nat.reduceLeDiff, hlt], rfl⟩
              rintro x2 rfl
              simp only [bO_s, gB_t, asBool_b, asInt_i, asAgg_a, asTup_a, asStr_s, asCons_c, nthA_0, nthA_s, aggCells_a, addV_p, seeV_p, seeV_i, same_nil, tr_same, eql4, neq4, decide_true, decide_false, Bool.false_eq_true, if_false, if_true, Bool.not_true, Bool.not_false, Bool.and_true, Bool.true_and, Bool.and_self, List.getElem?_cons_zero, List.getElem?_cons_succ, Nat.zero_add, Nat.add_zero, beq_self_eq_true, bne_self_eq_false, Int.reduceBNe, Int.reduceBEq, Int.reduceLT, Int.reduceGT, Int.reduceLE, Int.reduceGE, Nat.reduceAdd, Nat.reduceMul, Nat.reduceLeDiff, sel]
              refine loop_ex (fun (o : Option (AV × Heap)) => ∃ S', o = some (.bool true, S')) (fun i s => s = ([.agg m.cells, .ptr T2.next 0, .ptr V1.next 0, .int .i64 (i : Int)], V)) (fun x => x = (0, [.agg m.cells, .ptr T2.next 0, .ptr V1.next 0], V)) 16 rfl ?_ ?_
              · rintro i s hi rfl
                by_cases hi4 : i < 16
                · have hlt : (i : Int) < 16 := by omega
                  have hw : IntKind.wrap .i64 ((i : Int) + 1) = ((i + 1 : Nat) : Int) := by rw [wr _ (by omega)]; omega
                  have r1 := mvd_c hB (k + 2) hO1 hbs hss hg hb hm.pre (i : Int) (Int.tmod (i : Int) 2 == 0)
                  have r2 := mvd_c hB (k + 2) hO2 hbs2 hss2 hg hb hm.pre (i : Int) (Int.tmod (i : Int) 2 == 0)
                  rw [hsl, hlf, hab] at r2
                  refine .inr ⟨hi4, _, ?_, rfl⟩
                  simp only [bO_s, gB_t, asBool_b, asInt_i, asAgg_a, asTup_a, asStr_s, asCons_c, nthA_0, nthA_s, aggCells_a, addV_p, seeV_p, seeV_i, same_nil, tr_same, eql4, neq4, decide_true, decide_false, Bool.false_eq_true, if_false, if_true, Bool.not_true, Bool.not_false, Bool.and_true, Bool.true_and, Bool.and_self, List.getElem?_cons_zero, List.getElem?_cons_succ, Nat.zero_add, Nat.add_zero, beq_self_eq_true, bne_self_eq_false, Int.reduceBNe, Int.reduceBEq, Int.reduceLT, Int.reduceGT, Int.reduceLE, Int.reduceGE, Nat.reduceAdd, Nat.reduceMul, Nat.reduceLeDiff, hlt, l29, h29, List.drop_zero, t29, r1, r2, hw]
                · have hlt : ¬ (i : Int) < 16 := by omega
                  exact .inl ⟨_, by simp only [bO_s, gB_t, asBool_b, asInt_i, asAgg_a, asTup_a, asStr_s, asCons_c, nthA_0, nthA_s, aggCells_a, addV_p, seeV_p, seeV_i, same_nil, tr_same, eql4, neq4, decide_true, decide_false, Bool.false_eq_true, if_false, if_true, Bool.not_true, Bool.not_false, Bool.and_true, Bool.true_and, Bool.and_self, List.getElem?_cons_zero, List.getElem?_cons_succ, Nat.zero_add, Nat.add_zero, beq_self_eq_true, bne_self_eq_false, Int.reduceBNe, Int.reduceBEq, Int.reduceLT, Int.reduceGT, Int.reduceLE, Int.reduceGE, Nat.reduceAdd, Nat.reduceMul, Nat.reduceLeDiff, hlt], rfl⟩
              rintro x2 rfl
              simp only [bO_s, gB_t, asBool_b, asInt_i, asAgg_a, asTup_a, asStr_s, asCons_c, nthA_0, nthA_s, aggCells_a, addV_p, seeV_p, seeV_i, same_nil, tr_same, eql4, neq4, decide_true, decide_false, Bool.false_eq_true, if_false, if_true, Bool.not_true, Bool.not_false, Bool.and_true, Bool.true_and, Bool.and_self, List.getElem?_cons_zero, List.getElem?_cons_succ, Nat.zero_add, Nat.add_zero, beq_self_eq_true, bne_self_eq_false, Int.reduceBNe, Int.reduceBEq, Int.reduceLT, Int.reduceGT, Int.reduceLE, Int.reduceGE, Nat.reduceAdd, Nat.reduceMul, Nat.reduceLeDiff, sel, l29, h29, List.drop_zero, t29, d1]
              refine loop_ex (fun (o : Option (AV × Heap)) => ∃ S', o = some (.bool true, S')) (fun i s => s = ([.agg m.cells, .ptr T2.next 0, .ptr V1.next 0, blA m.bls, .int .i64 (i : Int)], V)) (fun x => x = (0, [], V)) m.bls.length rfl ?_ ?_
              · rintro i s hi rfl
                by_cases hi4 : i < m.bls.length
                · have hlt : (i : Int) < (m.bls.length : Int) := by omega
                  obtain ⟨p1, p2, p3⟩ := blA_at hi4
                  have hw : IntKind.wrap .i64 ((i : Int) + 1) = ((i + 1 : Nat) : Int) := by rw [wr _ (by omega)]; omega
                  have hmem : m.bls[i] ∈ m.bls := List.getElem_mem hi4
                  have r1 := incBlock_c hK (k + 2) hO1 hbs hg hb hmem
                  have r2 := incBlock_c hK (k + 2) hO2 hbs2 hg hb hmem
                  rw [hsl, hlf, hab] at r2
                  refine .inr ⟨hi4, _, ?_, rfl⟩
                  simp only [bO_s, gB_t, asBool_b, asInt_i, asAgg_a, asTup_a, asStr_s, asCons_c, nthA_0, nthA_s, aggCells_a, addV_p, seeV_p, seeV_i, same_nil, tr_same, eql4, neq4, decide_true, decide_false, Bool.false_eq_true, if_false, if_true, Bool.not_true, Bool.not_false, Bool.and_true, Bool.true_and, Bool.and_self, List.getElem?_cons_zero, List.getElem?_cons_succ, Nat.zero_add, Nat.add_zero, beq_self_eq_true, bne_self_eq_false, Int.reduceBNe, Int.reduceBEq, Int.reduceLT, Int.reduceGT, Int.reduceLE, Int.reduceGE, Nat.reduceAdd, Nat.reduceMul, Nat.reduceLeDiff, hblen, hlt, l29, h29, List.drop_zero, t29, p1, p2, p3, r1, r2, hw]
                · have hlt : ¬ (i : Int) < (m.bls.length : Int) := by omega
                  exact .inl ⟨_, by simp only [bO_s, gB_t, asBool_b, asInt_i, asAgg_a, asTup_a, asStr_s, asCons_c, nthA_0, nthA_s, aggCells_a, addV_p, seeV_p, seeV_i, same_nil, tr_same, eql4, neq4, decide_true, decide_false, Bool.false_eq_true, if_false, if_true, Bool.not_true, Bool.not_false, Bool.and_true, Bool.true_and, Bool.and_self, List.getElem?_cons_zero, List.getElem?_cons_succ, Nat.zero_add, Nat.add_zero, beq_self_eq_true, bne_self_eq_false, Int.reduceBNe, Int.reduceBEq, Int.reduceLT, Int.reduceGT, Int.reduceLE, Int.reduceGE, Nat.reduceAdd, Nat.reduceMul, Nat.reduceLeDiff, hblen, hlt], rfl⟩
              rintro x2 rfl
              simp only [bO_s, gB_t, asBool_b, asInt_i, asAgg_a, asTup_a, asStr_s, asCons_c, nthA_0, nthA_s, aggCells_a, addV_p, seeV_p, seeV_i, same_nil, tr_same, eql4, neq4, decide_true, decide_false, Bool.false_eq_true, if_false, if_true, Bool.not_true, Bool.not_false, Bool.and_true, Bool.true_and, Bool.and_self, List.getElem?_cons_zero, List.getElem?_cons_succ, Nat.zero_add, Nat.add_zero, beq_self_eq_true, bne_self_eq_false, Int.reduceBNe, Int.reduceBEq, Int.reduceLT, Int.reduceGT, Int.reduceLE, Int.reduceGE, Nat.reduceAdd, Nat.reduceMul, Nat.reduceLeDiff, sel, e9]
              first | exact ⟨_, rfl⟩ | exact some_tr _ _ _
            · exact absurd (show madeOk fi w L.length by rw [hLl]; exact hok) hno
          · rcases both_c (fi := fi) (w := w) hB.no (k + 2) (S := T2) hx3 hLg (by omega) with ⟨hok2, V, q2, q2', c2, hV2, hE2⟩ | ⟨hno2, c2⟩
            · exact absurd (show madeOk fi w ms.length by rw [← hLl]; exact hok2) hno
            · simp only [bO_s, gB_t, asBool_b, asInt_i, asAgg_a, asTup_a, asStr_s, asCons_c, nthA_0, nthA_s, aggCells_a, addV_p, seeV_p, seeV_i, same_nil, tr_same, eql4, neq4, decide_true, decide_false, Bool.false_eq_true, if_false, if_true, Bool.not_true, Bool.not_false, Bool.and_true, Bool.true_and, Bool.and_self, List.getElem?_cons_zero, List.getElem?_cons_succ, Nat.zero_add, Nat.add_zero, beq_self_eq_true, bne_self_eq_false, Int.reduceBNe, Int.reduceBEq, Int.reduceLT, Int.reduceGT, Int.reduceLE, Int.reduceGE, Nat.reduceAdd, Nat.reduceMul, Nat.reduceLeDiff, c1, c2, eql_nilp, e9]
              first | exact ⟨_, rfl⟩ | exact some_tr _ _ _
theorem incBlind_law (xs : List AV) (h : argsOk Tryd.prog maxLen 16 Tryd.f5.params.toList xs) : ∃ (C : CallF) (S' : Heap), NOk Tryd.prog Gk C ∧ C 5 0 xs S0 = some (.bool true, S') := by
  rw [Tryd.params5] at h
  obtain ⟨a, r, rfl, h1, b, r2, rfl, h2, c, r3, rfl, h3, d, r4, rfl, h4, e, r5, rfl, h5, f, r6, rfl, h6, rfl⟩ := h
  obtain ⟨fi, rfl, hfi⟩ := arg3 h1
  obtain ⟨w, rfl, hw⟩ := arg3 h2
  obtain ⟨ms, ha, hl, hA⟩ := arg22 h3
  obtain ⟨i, rfl, _⟩ := arg3 h4
  obtain ⟨x, rfl, hx⟩ := arg29 h5
  obtain ⟨m, rfl, hm⟩ := arg29 h6
  obtain ⟨S', hS⟩ := incBlind_c Bp_known 0 ha hl hA hx hm fi w i hw
  exact ⟨Cn Bp 9, S', Cp_ok 9, hS⟩
end Go.Ab.tNearU
