/- IncRanges: the law. -/
import Derived.Test.YtbmcdphiolidkaaII6
set_option maxRecDepth 100000
set_option linter.unusedSimpArgs false
set_option linter.unusedVariables false
set_option linter.unusedSectionVars false
namespace Go.Ab.tNearU
open Go Go.Proofs

theorem awake_is : isB (C1 f_spindlelaw16_awake 0 [] S0) (.bool true) = true := by kernel_rfl
theorem awake_c {B : CallF} (hB : Known B) (k : Nat) (S : Heap) : Cn B k f_spindlelaw16_awake 0 [] S = some (.bool true, S) := known_sel hB rfl rfl rfl (isB_of awake_is) k S
theorem lawBlocks_c {B : CallF} (hB : Known B) (k : Nat) {m : M} (hg : Good 1000 m) (hb : Byt m) (S : Heap) : Cn B (k + 1) f_spindlelaw15_Blocks 0 [.agg m.cells] S = some (blA m.bls, S) := by
  rw [c_spindlelaw15_Blocks _ _ _ _ (hB.no _ _ _ _ (by decide)), T_spindlelaw15_Blocks]
  have l29 := M.len hg.pre
  have t29 : List.take 29 (List.drop 0 m.cells) = m.cells := by rw [List.drop_zero]; exact M.t29 hg.pre
  have h29 : (29 : Nat) ≤ 29 := by omega
  have e1 := (blocks_c hB k hg hb S).1
  have hf : fz 40 (blA m.bls) S = some (blA m.bls, S) := by
    cases m.bls with
    | nil => rfl
    | cons c l => rfl
  simp only [bO_s, gB_t, asBool_b, asInt_i, asAgg_a, asTup_a, asStr_s, asCons_c, nthA_0, nthA_s, aggCells_a, addV_p, seeV_p, seeV_i, same_nil, tr_same, eql4, neq4, decide_true, decide_false, Bool.false_eq_true, if_false, if_true, Bool.not_true, Bool.not_false, Bool.and_true, Bool.true_and, Bool.and_self, List.getElem?_cons_zero, List.getElem?_cons_succ, Nat.zero_add, Nat.add_zero, beq_self_eq_true, bne_self_eq_false, Int.reduceBNe, Int.reduceBEq, Int.reduceLT, Int.reduceGT, Int.reduceLE, Int.reduceGE, Nat.reduceAdd, Nat.reduceMul, Nat.reduceLeDiff, l29, t29, h29, e1, hf]
theorem Arg.byt {m : M} (h : Arg m) (hp : m.pre.length = 23) : Byt m := ⟨by
  obtain ⟨p, hp'⟩ := pre23 hp
  have := h.pre (p 0) (by rw [hp']; exact List.mem_cons_self)
  rw [hp']
  exact this, h.cb⟩
theorem rd_one (m : M) (S : Heap) : Rd S (.is 1 m.cells) [m] := .inr (.inl (by show AV.is 1 m.cells = .is 1 (flat [m]); unfold flat; rw [List.flatMap_cons, List.flatMap_nil, List.append_nil]))
theorem Obj.ext {S T : Heap} {p q : Nat} {fi w : Int} {ms : List M} (h : Obj S p q fi w ms) (hE : Ext S T) : Obj T p q fi w ms := h.keep hE.1 (hE.2.2 _ h.lp) fun h0 => hE.2.2 _ (h.lq h0)
theorem arg5 {a : AV} (h : argOk Try.prog maxLen 16 5 a) : ∃ n : Nat, a = .int .u8 (n : Int) ∧ n ≤ 255 := by
  unfold argOk at h
  rw [Try.underlying5] at h
  obtain ⟨n, h1, h2, h3⟩ := av5 h
  exact ⟨n.toNat, by rw [Int.toNat_of_nonneg h2]; simpa using h1, by omega⟩
theorem in_c {B : CallF} (hB : Known B) (k : Nat) {v b : Nat} (h : v ≤ b) (S : Heap) : Cn B (k + 1) f_spindlelaw16_IncRanges_1 0 [.int .i64 (v : Int), .int .i64 (b : Int)] S = some (.bool true, S) := by
  rw [c_spindlelaw16_IncRanges_1 _ _ _ _ _ (hB.no _ _ _ _ (by decide)), T_spindlelaw16_IncRanges_1]
  have h1 : (v : Int) ≥ 0 := by omega
  have h2 : (v : Int) ≤ (b : Int) := by omega
  simp only [bO_s, gB_t, asBool_b, asInt_i, asAgg_a, asTup_a, asStr_s, asCons_c, nthA_0, nthA_s, aggCells_a, addV_p, seeV_p, seeV_i, same_nil, tr_same, eql4, neq4, decide_true, decide_false, Bool.false_eq_true, if_false, if_true, Bool.not_true, Bool.not_false, Bool.and_true, Bool.true_and, Bool.and_self, List.getElem?_cons_zero, List.getElem?_cons_succ, Nat.zero_add, Nat.add_zero, beq_self_eq_true, bne_self_eq_false, Int.reduceBNe, Int.reduceBEq, Int.reduceLT, Int.reduceGT, Int.reduceLE, Int.reduceGE, Nat.reduceAdd, Nat.reduceMul, Nat.reduceLeDiff, h1, h2]
set_option maxHeartbeats 1000000 in
theorem incRanges_c {B : CallF} (hB : Known B) (k : Nat) {a : AV} {ms : List M} (ha : ∀ S, Rd S a ms) (hl : ms.length ≤ maxLen) (hA : ∀ m ∈ ms, Arg m) {m : M} (hm : Arg m) (fi w : Int) (cb : Nat) :
    ∃ S', Cn B (k + 9) f_spindlelaw16_IncRanges 0 [.int .i64 fi, .int .i64 w, a, .agg m.cells, .int .u8 (cb : Int)] S0 = some (.bool true, S') := by
  rw [c_spindlelaw16_IncRanges _ _ _ _ _ _ _ _ (hB.no _ _ _ _ (by decide)), T_spindlelaw16_IncRanges]
  have hgM := hm.good
  have l29 := M.len hgM.pre
  have t29 : List.take 29 m.cells = m.cells := M.t29 hgM.pre
  have h29 : (29 : Nat) ≤ 29 := by omega
  have z29 := M.z hgM.pre
  obtain ⟨b1, f1, f1'⟩ := few_c hB.no (k + 7) (ha S0) (fun x hx => (hA x hx).good) hl 10
  obtain ⟨b2, f2, f2'⟩ := few_c hB.no (k + 7) (rd_one m S0) (fun x hx => by rw [List.mem_singleton] at hx; subst hx; exact hgM) (by rw [List.length_singleton]; have := maxLen_is; omega) 1
  cases b1 with
  | false =>
    simp only [bO_s, gB_t, asBool_b, asInt_i, asAgg_a, asTup_a, asStr_s, asCons_c, nthA_0, nthA_s, aggCells_a, addV_p, seeV_p, seeV_i, same_nil, tr_same, eql4, neq4, decide_true, decide_false, Bool.false_eq_true, if_false, if_true, Bool.not_true, Bool.not_false, Bool.and_true, Bool.true_and, Bool.and_self, List.getElem?_cons_zero, List.getElem?_cons_succ, Nat.zero_add, Nat.add_zero, beq_self_eq_true, bne_self_eq_false, Int.reduceBNe, Int.reduceBEq, Int.reduceLT, Int.reduceGT, Int.reduceLE, Int.reduceGE, Nat.reduceAdd, Nat.reduceMul, Nat.reduceLeDiff, l29, f1]
    exact ⟨_, rfl⟩
  | true =>
    cases b2 with
    | false =>
      simp only [bO_s, gB_t, asBool_b, asInt_i, asAgg_a, asTup_a, asStr_s, asCons_c, nthA_0, nthA_s, aggCells_a, addV_p, seeV_p, seeV_i, same_nil, tr_same, eql4, neq4, decide_true, decide_false, Bool.false_eq_true, if_false, if_true, Bool.not_true, Bool.not_false, Bool.and_true, Bool.true_and, Bool.and_self, List.getElem?_cons_zero, List.getElem?_cons_succ, Nat.zero_add, Nat.add_zero, beq_self_eq_true, bne_self_eq_false, Int.reduceBNe, Int.reduceBEq, Int.reduceLT, Int.reduceGT, Int.reduceLE, Int.reduceGE, Nat.reduceAdd, Nat.reduceMul, Nat.reduceLeDiff, l29, f1, List.drop_zero, t29, h29, z29, f2]
      exact ⟨_, rfl⟩
    | true =>
      obtain ⟨len8, g60⟩ := f1' rfl
      obtain ⟨_, gm60⟩ := f2' rfl
      have hg : Good 1000 m := (gm60 m (List.mem_singleton.2 rfl)).mono (by omega)
      have hgs : ∀ x ∈ ms, Good 1000 x := fun x hx => (g60 x hx).mono (by omega)
      have hb : Byt m := hm.byt hgM.pre
      have hbs : ∀ x ∈ ms.map M.norm, Byt x := fun x hx => by
        obtain ⟨y, hy, rfl⟩ := List.mem_map.1 hx
        exact ⟨((hA y hy).byt (hA y hy).good.pre).k, (hA y hy).cb⟩
      simp only [bO_s, gB_t, asBool_b, asInt_i, asAgg_a, asTup_a, asStr_s, asCons_c, nthA_0, nthA_s, aggCells_a, addV_p, seeV_p, seeV_i, same_nil, tr_same, eql4, neq4, decide_true, decide_false, Bool.false_eq_true, if_false, if_true, Bool.not_true, Bool.not_false, Bool.and_true, Bool.true_and, Bool.and_self, List.getElem?_cons_zero, List.getElem?_cons_succ, Nat.zero_add, Nat.add_zero, beq_self_eq_true, bne_self_eq_false, Int.reduceBNe, Int.reduceBEq, Int.reduceLT, Int.reduceGT, Int.reduceLE, Int.reduceGE, Nat.reduceAdd, Nat.reduceMul, Nat.reduceLeDiff, l29, f1, List.drop_zero, t29, h29, z29, f2]
      rcases both_c (fi := fi) (w := w) hB.no (k + 2) (S := S0) ha hgs (by omega) with ⟨hok, T, q, q', e1, hT, hE⟩ | ⟨hno, e1⟩
      · have hO := hT.a
        have hcx : T.cx.1 = none := by rw [hE.2.1]; rfl
        have c1 := skip_c hB (k + 2) hO hbs hcx
        have c2 := type_c hB (k + 2) hO hbs hcx
        have c3 := mode_c hB (k + 2) hO hbs hcx
        have c4 := last_n hB (k + 3) hO hbs hcx
        have c5 := chroma_c hB (k + 2) hO hbs hcx false
        have c6 := chroma_c hB (k + 2) hO hbs hcx true
        have hin : ∀ (v b : Nat), v ≤ b → Cn B (k + 8) f_spindlelaw16_IncRanges_1 0 [.int .i64 (v : Int), .int .i64 (b : Int)] T = some (.bool true, T) := fun v b h => in_c hB (k + 7) h T
        have w1 := fun (h : M → Bool) => wv_le (lf fi w (ms.map M.norm)) h 1
        have w2 := fun (h : M → Bool) => wv_le (fa fi (ms.map M.norm) (fi + (ms.map M.norm).length - w)) h 1
        have w3 := fun (h : M → Bool) => wv_le (fa fi (ms.map M.norm) (fi + (ms.map M.norm).length - w)) h 2
        have i1 := hin (wv (lf fi w (ms.map M.norm)) skipH 1 + wv (fa fi (ms.map M.norm) (fi + (ms.map M.norm).length - w)) skipH 1) 2 (by have := w1 skipH; have := w2 skipH; omega)
        have i2 := hin (wv (lf fi w (ms.map M.norm)) typeH 1 + wv (fa fi (ms.map M.norm) (fi + (ms.map M.norm).length - w)) typeH 1) 2 (by have := w1 typeH; have := w2 typeH; omega)
        have i3 := hin (wv (lf fi w (ms.map M.norm)) modeH 1 + wv (fa fi (ms.map M.norm) (fi + (ms.map M.norm).length - w)) modeH 1) 2 (by have := w1 modeH; have := w2 modeH; omega)
        have i5 := hin (wv (lf fi w (ms.map M.norm)) (chromaH false) 1 + wv (fa fi (ms.map M.norm) (fi + (ms.map M.norm).length - w)) (chromaH false) 2) 3 (by have := w1 (chromaH false); have := w3 (chromaH false); omega)
        have i6 := hin (wv (lf fi w (ms.map M.norm)) (chromaH true) 1 + wv (fa fi (ms.map M.norm) (fi + (ms.map M.norm).length - w)) (chromaH true) 2) 3 (by have := w1 (chromaH true); have := w3 (chromaH true); omega)
        obtain ⟨qv, hq, hq1⟩ : ∃ qv : Nat, (if (fa fi (ms.map M.norm) (fi + (ms.map M.norm).length - 1)).2 && (fa fi (ms.map M.norm) (fi + (ms.map M.norm).length - 1)).1.qp != 0 then (1 : Int) else 0) = (qv : Int) ∧ qv ≤ 1 := by
          split
          · exact ⟨1, rfl, by omega⟩
          · exact ⟨0, rfl, by omega⟩
        rw [hq] at c4
        have i4 := hin qv 1 hq1
        have n1 : ((1 : Nat) : Int) = 1 := rfl
        have n2 : ((2 : Nat) : Int) = 2 := rfl
        have n3 : ((3 : Nat) : Int) = 3 := rfl
        rw [n1] at i4
        rw [n2] at i1 i2 i3
        rw [n3] at i5 i6
        have hyl : ¬ yldId ≤ f_spindlelaw16_IncRanges_1 := by decide
        have e9 := awake_c hB (k + 8) T
        simp only [bO_s, gB_t, asBool_b, asInt_i, asAgg_a, asTup_a, asStr_s, asCons_c, nthA_0, nthA_s, aggCells_a, addV_p, seeV_p, seeV_i, same_nil, tr_same, eql4, neq4, decide_true, decide_false, Bool.false_eq_true, if_false, if_true, Bool.not_true, Bool.not_false, Bool.and_true, Bool.true_and, Bool.and_self, List.getElem?_cons_zero, List.getElem?_cons_succ, Nat.zero_add, Nat.add_zero, beq_self_eq_true, bne_self_eq_false, Int.reduceBNe, Int.reduceBEq, Int.reduceLT, Int.reduceGT, Int.reduceLE, Int.reduceGE, Nat.reduceAdd, Nat.reduceMul, Nat.reduceLeDiff, e1, eql_ptr, c1, i1, c2, i2, c3, i3, c4, i4, c5, i5, c6, i6]
        refine loop_ex (fun (o : Option (AV × Heap)) => ∃ S', o = some (.bool true, S')) (fun i s => s = ([.int .u8 (cb : Int), .agg m.cells, .ptr S0.next 0, .fn f_spindlelaw16_IncRanges_1 [] [], .bool true, .int .i64 (i : Int)], T)) (fun x => x = (0, [.agg m.cells, .ptr S0.next 0, .fn f_spindlelaw16_IncRanges_1 [] [], .bool true], T)) 4 rfl ?_ ?_
        · rintro i s hi rfl
          by_cases hin4 : i < 4
          · have hlt : (i : Int) < 4 := by omega
            have hw : IntKind.wrap .i64 ((i : Int) + 1) = ((i + 1 : Nat) : Int) := by rw [wr _ (by omega)]; omega
            have d1 := incLuma_c hB (k + 2) hO hbs hcx (cb := (cb : Int)) (j := i) (by omega)
            have d2 := hin (luma1 (lf fi w (ms.map M.norm)) (fa fi (ms.map M.norm) (fi + (ms.map M.norm).length - w)) (cb : Int) i + luma2 (lf fi w (ms.map M.norm)) (fa fi (ms.map M.norm) (fi + (ms.map M.norm).length - w)) (cb : Int) i) 3 (by
              have := luma1_le (nl := lf fi w (ms.map M.norm)) (na := fa fi (ms.map M.norm) (fi + (ms.map M.norm).length - w)) (cb := (cb : Int)) (j := i)
              have := luma2_le (nl := lf fi w (ms.map M.norm)) (na := fa fi (ms.map M.norm) (fi + (ms.map M.norm).length - w)) (cb := (cb : Int)) (j := i)
              omega)
            rw [n3] at d2
            refine .inr ⟨hin4, _, ?_, rfl⟩
            simp only [bO_s, gB_t, asBool_b, asInt_i, asAgg_a, asTup_a, asStr_s, asCons_c, nthA_0, nthA_s, aggCells_a, addV_p, seeV_p, seeV_i, same_nil, tr_same, eql4, neq4, decide_true, decide_false, Bool.false_eq_true, if_false, if_true, Bool.not_true, Bool.not_false, Bool.and_true, Bool.true_and, Bool.and_self, List.getElem?_cons_zero, List.getElem?_cons_succ, Nat.zero_add, Nat.add_zero, beq_self_eq_true, bne_self_eq_false, Int.reduceBNe, Int.reduceBEq, Int.reduceLT, Int.reduceGT, Int.reduceLE, Int.reduceGE, Nat.reduceAdd, Nat.reduceMul, Nat.reduceLeDiff, hlt, d1, callK_f _ hyl, List.append_nil, d2, hw]
          · have hlt : ¬ (i : Int) < 4 := by omega
            exact .inl ⟨_, by simp only [bO_s, gB_t, asBool_b, asInt_i, asAgg_a, asTup_a, asStr_s, asCons_c, nthA_0, nthA_s, aggCells_a, addV_p, seeV_p, seeV_i, same_nil, tr_same, eql4, neq4, decide_true, decide_false, Bool.false_eq_true, if_false, if_true, Bool.not_true, Bool.not_false, Bool.and_true, Bool.true_and, Bool.and_self, List.getElem?_cons_zero, List.getElem?_cons_succ, Nat.zero_add, Nat.add_zero, beq_self_eq_true, bne_self_eq_false, Int.reduceBNe, Int.reduceBEq, Int.reduceLT, Int.reduceGT, Int.reduceLE, Int.reduceGE, Nat.reduceAdd, Nat.reduceMul, Nat.reduceLeDiff, hlt], rfl⟩
        rintro x rfl
        simp only [bO_s, gB_t, asBool_b, asInt_i, asAgg_a, asTup_a, asStr_s, asCons_c, nthA_0, nthA_s, aggCells_a, addV_p, seeV_p, seeV_i, same_nil, tr_same, eql4, neq4, decide_true, decide_false, Bool.false_eq_true, if_false, if_true, Bool.not_true, Bool.not_false, Bool.and_true, Bool.true_and, Bool.and_self, List.getElem?_cons_zero, List.getElem?_cons_succ, Nat.zero_add, Nat.add_zero, beq_self_eq_true, bne_self_eq_false, Int.reduceBNe, Int.reduceBEq, Int.reduceLT, Int.reduceGT, Int.reduceLE, Int.reduceGE, Nat.reduceAdd, Nat.reduceMul, Nat.reduceLeDiff, sel]
        refine loop_ex (fun (o : Option (AV × Heap)) => ∃ S', o = some (.bool true, S')) (fun i s => s = ([.agg m.cells, .ptr S0.next 0, .fn f_spindlelaw16_IncRanges_1 [] [], .bool true, .int .i64 (i : Int)], T)) (fun x => x = (0, [.agg m.cells, .ptr S0.next 0, .fn f_spindlelaw16_IncRanges_1 [] [], .bool true], T)) 4 rfl ?_ ?_
        · rintro i s hi rfl
          by_cases hin4 : i < 4
          · have hlt : (i : Int) < 4 := by omega
            have hw : IntKind.wrap .i64 ((i : Int) + 1) = ((i + 1 : Nat) : Int) := by rw [wr _ (by omega)]; omega
            have d1 := ref_c hB (k + 2) hO hbs hcx hg hb (i : Int)
            have d2 := hin _ 3 (refV_le (nl := lf fi w (ms.map M.norm)) (na := fa fi (ms.map M.norm) (fi + (ms.map M.norm).length - w)) (m := m) (part := (i : Int)))
            rw [n3] at d2
            refine .inr ⟨hin4, _, ?_, rfl⟩
            simp only [bO_s, gB_t, asBool_b, asInt_i, asAgg_a, asTup_a, asStr_s, asCons_c, nthA_0, nthA_s, aggCells_a, addV_p, seeV_p, seeV_i, same_nil, tr_same, eql4, neq4, decide_true, decide_false, Bool.false_eq_true, if_false, if_true, Bool.not_true, Bool.not_false, Bool.and_true, Bool.true_and, Bool.and_self, List.getElem?_cons_zero, List.getElem?_cons_succ, Nat.zero_add, Nat.add_zero, beq_self_eq_true, bne_self_eq_false, Int.reduceBNe, Int.reduceBEq, Int.reduceLT, Int.reduceGT, Int.reduceLE, Int.reduceGE, Nat.reduceAdd, Nat.reduceMul, Nat.reduceLeDiff, hlt, l29, h29, List.drop_zero, t29, d1, callK_f _ hyl, List.append_nil, d2, hw]
          · have hlt : ¬ (i : Int) < 4 := by omega
            exact .inl ⟨_, by simp only [bO_s, gB_t, asBool_b, asInt_i, asAgg_a, asTup_a, asStr_s, asCons_c, nthA_0, nthA_s, aggCells_a, addV_p, seeV_p, seeV_i, same_nil, tr_same, eql4, neq4, decide_true, decide_false, Bool.false_eq_true, if_false, if_true, Bool.not_true, Bool.not_false, Bool.and_true, Bool.true_and, Bool.and_self, List.getElem?_cons_zero, List.getElem?_cons_succ, Nat.zero_add, Nat.add_zero, beq_self_eq_true, bne_self_eq_false, Int.reduceBNe, Int.reduceBEq, Int.reduceLT, Int.reduceGT, Int.reduceLE, Int.reduceGE, Nat.reduceAdd, Nat.reduceMul, Nat.reduceLeDiff, hlt], rfl⟩
        rintro x rfl
        have e2 := lawBlocks_c hB (k + 7) hg hb T
        have hlen := blA_len m.bls
        have hb27 : m.bls.length ≤ 27 := bls_len m.kind m.cbp
        simp only [bO_s, gB_t, asBool_b, asInt_i, asAgg_a, asTup_a, asStr_s, asCons_c, nthA_0, nthA_s, aggCells_a, addV_p, seeV_p, seeV_i, same_nil, tr_same, eql4, neq4, decide_true, decide_false, Bool.false_eq_true, if_false, if_true, Bool.not_true, Bool.not_false, Bool.and_true, Bool.true_and, Bool.and_self, List.getElem?_cons_zero, List.getElem?_cons_succ, Nat.zero_add, Nat.add_zero, beq_self_eq_true, bne_self_eq_false, Int.reduceBNe, Int.reduceBEq, Int.reduceLT, Int.reduceGT, Int.reduceLE, Int.reduceGE, Nat.reduceAdd, Nat.reduceMul, Nat.reduceLeDiff, sel, l29, h29, List.drop_zero, t29, e2]
        refine loop_ex (fun (o : Option (AV × Heap)) => ∃ S', o = some (.bool true, S')) (fun i s => s = ([.agg m.cells, .ptr S0.next 0, .fn f_spindlelaw16_IncRanges_1 [] [], .bool true, blA m.bls, .int .i64 (i : Int)], T)) (fun x => x = (0, [.bool true], T)) m.bls.length rfl ?_ ?_
        · rintro i s hi rfl
          by_cases hin4 : i < m.bls.length
          · have hlt : (i : Int) < (m.bls.length : Int) := by omega
            obtain ⟨p1, p2, p3⟩ := blA_at hin4
            have hw : IntKind.wrap .i64 ((i : Int) + 1) = ((i + 1 : Nat) : Int) := by rw [wr _ (by omega)]; omega
            have hmem : m.bls[i] ∈ m.bls := List.getElem_mem hin4
            have d1 := incBlock_c hB (k + 2) hO hbs hg hb hmem
            have d2 := hin _ 3 (blockV_le (m := m) (nl := lf fi w (ms.map M.norm)) (na := fa fi (ms.map M.norm) (fi + (ms.map M.norm).length - w)) (c := m.bls[i]))
            rw [n3] at d2
            refine .inr ⟨hin4, _, ?_, rfl⟩
            simp only [bO_s, gB_t, asBool_b, asInt_i, asAgg_a, asTup_a, asStr_s, asCons_c, nthA_0, nthA_s, aggCells_a, addV_p, seeV_p, seeV_i, same_nil, tr_same, eql4, neq4, decide_true, decide_false, Bool.false_eq_true, if_false, if_true, Bool.not_true, Bool.not_false, Bool.and_true, Bool.true_and, Bool.and_self, List.getElem?_cons_zero, List.getElem?_cons_succ, Nat.zero_add, Nat.add_zero, beq_self_eq_true, bne_self_eq_false, Int.reduceBNe, Int.reduceBEq, Int.reduceLT, Int.reduceGT, Int.reduceLE, Int.reduceGE, Nat.reduceAdd, Nat.reduceMul, Nat.reduceLeDiff, hlen, hlt, l29, h29, List.drop_zero, t29, p1, p2, p3, d1, callK_f _ hyl, List.append_nil, d2, hw]
          · have hlt : ¬ (i : Int) < (m.bls.length : Int) := by omega
            exact .inl ⟨_, by simp only [bO_s, gB_t, asBool_b, asInt_i, asAgg_a, asTup_a, asStr_s, asCons_c, nthA_0, nthA_s, aggCells_a, addV_p, seeV_p, seeV_i, same_nil, tr_same, eql4, neq4, decide_true, decide_false, Bool.false_eq_true, if_false, if_true, Bool.not_true, Bool.not_false, Bool.and_true, Bool.true_and, Bool.and_self, List.getElem?_cons_zero, List.getElem?_cons_succ, Nat.zero_add, Nat.add_zero, beq_self_eq_true, bne_self_eq_false, Int.reduceBNe, Int.reduceBEq, Int.reduceLT, Int.reduceGT, Int.reduceLE, Int.reduceGE, Nat.reduceAdd, Nat.reduceMul, Nat.reduceLeDiff, hlen, hlt], rfl⟩
        rintro x rfl
        simp only [bO_s, gB_t, asBool_b, asInt_i, asAgg_a, asTup_a, asStr_s, asCons_c, nthA_0, nthA_s, aggCells_a, addV_p, seeV_p, seeV_i, same_nil, tr_same, eql4, neq4, decide_true, decide_false, Bool.false_eq_true, if_false, if_true, Bool.not_true, Bool.not_false, Bool.and_true, Bool.true_and, Bool.and_self, List.getElem?_cons_zero, List.getElem?_cons_succ, Nat.zero_add, Nat.add_zero, beq_self_eq_true, bne_self_eq_false, Int.reduceBNe, Int.reduceBEq, Int.reduceLT, Int.reduceGT, Int.reduceLE, Int.reduceGE, Nat.reduceAdd, Nat.reduceMul, Nat.reduceLeDiff, sel, e9]
        first | exact ⟨_, rfl⟩ | exact some_tr _ _ _
      · have e9 := awake_c hB (k + 8) S0
        simp only [bO_s, gB_t, asBool_b, asInt_i, asAgg_a, asTup_a, asStr_s, asCons_c, nthA_0, nthA_s, aggCells_a, addV_p, seeV_p, seeV_i, same_nil, tr_same, eql4, neq4, decide_true, decide_false, Bool.false_eq_true, if_false, if_true, Bool.not_true, Bool.not_false, Bool.and_true, Bool.true_and, Bool.and_self, List.getElem?_cons_zero, List.getElem?_cons_succ, Nat.zero_add, Nat.add_zero, beq_self_eq_true, bne_self_eq_false, Int.reduceBNe, Int.reduceBEq, Int.reduceLT, Int.reduceGT, Int.reduceLE, Int.reduceGE, Nat.reduceAdd, Nat.reduceMul, Nat.reduceLeDiff, e1, eql_nilp, e9]
        first | exact ⟨_, rfl⟩ | exact some_tr _ _ _
theorem incRanges_law (xs : List AV) (h : argsOk Try.prog maxLen 16 Try.f3.params.toList xs) : ∃ (C : CallF) (S' : Heap), NOk Try.prog (fun _ => none) C ∧ C 3 0 xs S0 = some (.bool true, S') := by
  rw [Try.params3] at h
  obtain ⟨a, r, rfl, h1, b, r2, rfl, h2, c, r3, rfl, h3, d, r4, rfl, h4, e, r5, rfl, h5, rfl⟩ := h
  obtain ⟨fi, rfl, hfi⟩ := arg3 h1
  obtain ⟨w, rfl, _⟩ := arg3 h2
  obtain ⟨ms, ha, hl, hA⟩ := arg22 h3
  obtain ⟨m, rfl, hm⟩ := arg29 h4
  obtain ⟨cb, rfl, _⟩ := arg5 h5
  obtain ⟨S', hS⟩ := incRanges_c Bq_known 0 ha hl hA hm fi w cb
  exact ⟨Cn Bq 9, S', Cq_ok 9, hS⟩
end Go.Ab.tNearU
