/- CountEvery: the law. -/
import Derived.Test.YtcnenkckcemhdaaCnsWB
set_option maxRecDepth 100000
set_option linter.unusedSimpArgs false
set_option linter.unusedVariables false
set_option linter.unusedSectionVars false
namespace Go.Ab.tNearU
open Go Go.Proofs

theorem awake_is : isB (C1 f_spindlelaw15_awake 0 [] S0) (.bool true) = true := by kernel_rfl
theorem awake_c {B : CallF} (hB : Known B) (k : Nat) (S : Heap) : Cn B k f_spindlelaw15_awake 0 [] S = some (.bool true, S) := known_sel hB rfl rfl rfl (isB_of awake_is) k S
theorem lawBlocks_c {B : CallF} (hB : Known B) (k : Nat) {m : M} (hg : Good 1000 m) (hb : Byt m) (S : Heap) : Cn B (k + 1) f_spindlelaw15_Blocks 0 [.agg m.cells] S = some (blA m.bls, S) := by
  rw [c_spindlelaw15_Blocks _ _ _ _ (hB.no _ _ _ _ (by decide)), T_spindlelaw15_Blocks]
  have l29 := M.len hg.pre
  have t29 : List.take 29 (List.drop 0 m.cells) = m.cells := by rw [List.drop_zero]; exact M.t29 hg.pre
  have h29 : (29 : Nat) ≤ 29 := by omega
  have e1 := (blocks_c hB k hg hb S).1
  have hf : fz 40 (blA m.bls) S = some (blA m.bls, S) := by
    cases m.bls with
    | nil => rfl
    | cons c l => rfl
  simp only [bO_s, gB_t, asBool_b, asInt_i, asAgg_a, asTup_a, asStr_s, asCons_c, nthA_0, nthA_s, aggCells_a, addV_p, seeV_p, seeV_i, same_nil, tr_same, eql4, neq4, decide_true, decide_false, Bool.false_eq_true, if_false, if_true, Bool.not_true, Bool.not_false, Bool.and_true, Bool.true_and, Bool.and_self, List.getElem?_cons_zero, List.getElem?_cons_succ, Nat.zero_add, Nat.add_zero, beq_self_eq_true, bne_self_eq_false, Int.reduceBNe, Int.reduceBEq, Int.reduceLT, Int.reduceGT, Int.reduceLE, Int.reduceGE, Nat.reduceAdd, Nat.reduceMul, Nat.reduceLeDiff, l29, t29, h29, e1, hf]
theorem slice27 (n : Nat) (L : List AV) (hl : L.length = n) {h : Nat} (hh : h ≤ n) : aSlice Try.prog 27 (.is n L) none (some (.int .i64 (h : Int))) = some (.is h (L.take h)) := by
  have hu : Try.prog.underlying 27 = some (.slice 25) := by kernel_rfl
  have hs : tsize Try.prog 25 = some 1 := by kernel_rfl
  simp [aSlice, hu, hs, aNat, hh, hl]
theorem slice27n : aSlice Try.prog 27 .nils none (some (.int .i64 0)) = some .nils := by kernel_rfl
theorem part_slice {m : M} (hg : Good 1000 m) (i : Nat) : ∃ n : Nat, n = (cut m.b).length ∧ aLen Try.prog 27 (nrmB m.b) = some (.int .i64 (n : Int)) ∧
    aSlice Try.prog 27 (nrmB m.b) none (some (.int .i64 (if (n : Int) < (i : Int) then (n : Int) else (i : Int)))) = some (m.part i).b := by
  refine ⟨_, rfl, ?_, ?_⟩
  · obtain ⟨n, q1, q2, q3, q4⟩ := len27 hg.b.nrm
    rw [cut_nB hg.b, List.length_map] at q2
    rw [q3, q2]
  · have hmin : (if ((cut m.b).length : Int) < (i : Int) then ((cut m.b).length : Int) else (i : Int)) = ((min (cut m.b).length i : Nat) : Int) := by
      split <;> omega
    rw [hmin]
    show _ = some (cutTo (nrmB m.b) (min (cut m.b).length i))
    by_cases h0 : (cut m.b).length = 0
    · rw [nrmB_cut0 hg.b h0, h0, Nat.zero_min]
      exact slice27n
    · rw [nrmB_cut hg.b rfl h0]
      exact slice27 _ _ (by rw [List.length_map]) (Nat.min_le_left _ _)
theorem Arg.byt {m : M} (h : Arg m) (hp : m.pre.length = 23) : Byt m := ⟨by
  obtain ⟨p, hp'⟩ := pre23 hp
  have := h.pre (p 0) (by rw [hp']; exact List.mem_cons_self)
  rw [hp']
  exact this, h.cb⟩
theorem rd_one (m : M) (S : Heap) : Rd S (.is 1 m.cells) [m] := .inr (.inl (by show AV.is 1 m.cells = .is 1 (flat [m]); unfold flat; rw [List.flatMap_cons, List.flatMap_nil, List.append_nil]))
theorem countEvery_c {B : CallF} (hB : Known B) (k : Nat) {a : AV} {ms : List M} (ha : ∀ S, Rd S a ms) (hl : ms.length ≤ maxLen) (hA : ∀ m ∈ ms, Arg m) {m : M} (hm : Arg m) (fi w : Int) :
    ∃ S', Cn B (k + 9) f_spindlelaw15_CountEvery 0 [.int .i64 fi, .int .i64 w, a, .agg m.cells] S0 = some (.bool true, S') := by
  rw [c_spindlelaw15_CountEvery _ _ _ _ _ _ _ (hB.no _ _ _ _ (by decide)), T_spindlelaw15_CountEvery]
  have hgM := hm.good
  have l29 := M.len hgM.pre
  have t29 : List.take 29 m.cells = m.cells := M.t29 hgM.pre
  have h29 : (29 : Nat) ≤ 29 := by omega
  have z29 := M.z hgM.pre
  obtain ⟨b1, f1, f1'⟩ := few_c hB.no (k + 7) (ha S0) (fun x hx => (hA x hx).good) hl 8
  obtain ⟨b2, f2, f2'⟩ := few_c hB.no (k + 7) (rd_one m S0) (fun x hx => by rw [List.mem_singleton] at hx; subst hx; exact hgM) (by rw [List.length_singleton]; have := maxLen_is; omega) 1
  cases b1 with
  | false =>
    simp only [bO_s, gB_t, asBool_b, asInt_i, asAgg_a, asTup_a, asStr_s, asCons_c, nthA_0, nthA_s, aggCells_a, addV_p, seeV_p, seeV_i, same_nil, tr_same, eql4, neq4, decide_true, decide_false, Bool.false_eq_true, if_false, if_true, Bool.not_true, Bool.not_false, Bool.and_true, Bool.true_and, Bool.and_self, List.getElem?_cons_zero, List.getElem?_cons_succ, Nat.zero_add, Nat.add_zero, beq_self_eq_true, bne_self_eq_false, Int.reduceBNe, Int.reduceBEq, Int.reduceLT, Int.reduceGT, Int.reduceLE, Int.reduceGE, Nat.reduceAdd, Nat.reduceMul, Nat.reduceLeDiff, l29, f1]
    exact ⟨_, rfl⟩
  | true =>
    cases b2 with
    | false =>
      simp only [bO_s, gB_t, asBool_b, asInt_i, asAgg_a, asTup_a, asStr_s, asCons_c, nthA_0, nthA_s, aggCells_a, addV_p, seeV_p, seeV_i, same_nil, tr_same, eql4, neq4, decide_true, decide_false, Bool.false_eq_true, if_false, if_true, Bool.not_true, Bool.not_false, Bool.and_true, Bool.true_and, Bool.and_self, List.getElem?_cons_zero, List.getElem?_cons_succ, Nat.zero_add, Nat.add_zero, beq_self_eq_true, bne_self_eq_false, Int.reduceBNe, Int.reduceBEq, Int.reduceLT, Int.reduceGT, Int.reduceLE, Int.reduceGE, Nat.reduceAdd, Nat.reduceMul, Nat.reduceLeDiff, l29, f1, List.drop_zero, t29, h29, z29, f2]
      exact ⟨_, rfl⟩
    | true =>
      obtain ⟨len8, g60⟩ := f1' rfl
      obtain ⟨_, gm60⟩ := f2' rfl
      have hg : Good 1000 m := (gm60 m (List.mem_singleton.2 rfl)).mono (by omega)
      have hgs : ∀ x ∈ ms, Good 1000 x := fun x hx => (g60 x hx).mono (by omega)
      have hb : Byt m := hm.byt hgM.pre
      have hbs : ∀ x ∈ ms.map M.norm, Byt x := fun x hx => by
        obtain ⟨y, hy, rfl⟩ := List.mem_map.1 hx
        exact ⟨((hA y hy).byt (hA y hy).good.pre).k, (hA y hy).cb⟩
      simp only [bO_s, gB_t, asBool_b, asInt_i, asAgg_a, asTup_a, asStr_s, asCons_c, nthA_0, nthA_s, aggCells_a, addV_p, seeV_p, seeV_i, same_nil, tr_same, eql4, neq4, decide_true, decide_false, Bool.false_eq_true, if_false, if_true, Bool.not_true, Bool.not_false, Bool.and_true, Bool.true_and, Bool.and_self, List.getElem?_cons_zero, List.getElem?_cons_succ, Nat.zero_add, Nat.add_zero, beq_self_eq_true, bne_self_eq_false, Int.reduceBNe, Int.reduceBEq, Int.reduceLT, Int.reduceGT, Int.reduceLE, Int.reduceGE, Nat.reduceAdd, Nat.reduceMul, Nat.reduceLeDiff, l29, f1, List.drop_zero, t29, h29, z29, f2]
      rcases both_c (fi := fi) (w := w) hB.no (k + 2) (S := S0) ha hgs (by omega) with ⟨hok, T, q, q', e1, hT, hE⟩ | ⟨hno, e1⟩
      · have e2 := lawBlocks_c hB (k + 7) hg hb T
        have e9 := awake_c hB (k + 8) T
        have hlen := blA_len m.bls
        have hb27 : m.bls.length ≤ 27 := bls_len m.kind m.cbp
        simp only [bO_s, gB_t, asBool_b, asInt_i, asAgg_a, asTup_a, asStr_s, asCons_c, nthA_0, nthA_s, aggCells_a, addV_p, seeV_p, seeV_i, same_nil, tr_same, eql4, neq4, decide_true, decide_false, Bool.false_eq_true, if_false, if_true, Bool.not_true, Bool.not_false, Bool.and_true, Bool.true_and, Bool.and_self, List.getElem?_cons_zero, List.getElem?_cons_succ, Nat.zero_add, Nat.add_zero, beq_self_eq_true, bne_self_eq_false, Int.reduceBNe, Int.reduceBEq, Int.reduceLT, Int.reduceGT, Int.reduceLE, Int.reduceGE, Nat.reduceAdd, Nat.reduceMul, Nat.reduceLeDiff, e1, eql_ptr, l29, h29, List.drop_zero, t29, e2]
        refine loop_ex (fun (o : Option (AV × Heap)) => ∃ S', o = some (.bool true, S')) (fun i s => s = ([.agg m.cells, .ptr S0.next 0, .ptr (S0.next + 1) 0, blA m.bls, .int .i64 (i : Int)], T)) (fun x => x = (0, [], T)) m.bls.length rfl ?_ ?_
        · rintro i s hi rfl
          by_cases hin : i < m.bls.length
          · have hlt : (i : Int) < (m.bls.length : Int) := by omega
            obtain ⟨p1, p2, p3⟩ := blA_at hin
            have hw : IntKind.wrap .i64 ((i : Int) + 1) = ((i + 1 : Nat) : Int) := by rw [wr _ (by omega)]; omega
            have e3 := copyMb_c hB.no (k + 5) hg T
            have ln := M.len hg.norm.pre
            have cn := hg.norm.cell
            have zn := M.z hg.norm.pre
            have g27 : m.norm.cells[27]? = some (nrmB m.b) := M.g27 hg.norm.pre
            have s27 : setCells m.norm.cells 27 [(m.part i).b] = (m.part i).cells := M.s27 hg.norm.pre (m.part i).b
            obtain ⟨n, hn, a1, a2⟩ := part_slice hg i
            have hgp := part_good hg i
            have hbp := part_byt hb i
            have lp := M.len hgp.pre
            have tp : List.take 29 (m.part i).cells = (m.part i).cells := M.t29 hgp.pre
            have cb := hgp.b.cell
            have hmem : m.bls[i] ∈ m.bls := List.getElem_mem hin
            have hmem' : m.bls[i] ∈ (m.part i).bls := hmem
            have k1 := class_c hB (k + 2) hT.a hbs hgp hbp hmem'
            have k2 := rclass_c hB (k + 1) hT.b hbs hgp hbp hmem'
            have k3 := class_c hB (k + 2) hT.a hbs hg hb hmem
            have k4 := rclass_c hB (k + 1) hT.b hbs hg hb hmem
            rw [cls_part hg hin rfl] at k1 k2
            have h28 : (28 : Nat) ≤ 29 := by omega
            have h3 : (3 : Nat) ≤ 3 := by omega
            refine .inr ⟨hin, _, ?_, rfl⟩
            simp only [bO_s, gB_t, asBool_b, asInt_i, asAgg_a, asTup_a, asStr_s, asCons_c, nthA_0, nthA_s, aggCells_a, addV_p, seeV_p, seeV_i, same_nil, tr_same, eql4, neq4, decide_true, decide_false, Bool.false_eq_true, if_false, if_true, Bool.not_true, Bool.not_false, Bool.and_true, Bool.true_and, Bool.and_self, List.getElem?_cons_zero, List.getElem?_cons_succ, Nat.zero_add, Nat.add_zero, beq_self_eq_true, bne_self_eq_false, Int.reduceBNe, Int.reduceBEq, Int.reduceLT, Int.reduceGT, Int.reduceLE, Int.reduceGE, Nat.reduceAdd, Nat.reduceMul, Nat.reduceLeDiff, hlen, hlt, l29, h29, t29, List.drop_zero, e3, ln, cn, zn, g27, a1, a2, cb, List.all_cons, List.all_nil, h28, s27, lp, tp, p1, p2, p3, k1, k2, k3, k4, hw]
          · have hlt : ¬ (i : Int) < (m.bls.length : Int) := by omega
            exact .inl ⟨(0, [], T), by simp only [bO_s, gB_t, asBool_b, asInt_i, asAgg_a, asTup_a, asStr_s, asCons_c, nthA_0, nthA_s, aggCells_a, addV_p, seeV_p, seeV_i, same_nil, tr_same, eql4, neq4, decide_true, decide_false, Bool.false_eq_true, if_false, if_true, Bool.not_true, Bool.not_false, Bool.and_true, Bool.true_and, Bool.and_self, List.getElem?_cons_zero, List.getElem?_cons_succ, Nat.zero_add, Nat.add_zero, beq_self_eq_true, bne_self_eq_false, Int.reduceBNe, Int.reduceBEq, Int.reduceLT, Int.reduceGT, Int.reduceLE, Int.reduceGE, Nat.reduceAdd, Nat.reduceMul, Nat.reduceLeDiff, hlen, hlt], rfl⟩
        · rintro x rfl
          simp only [bO_s, gB_t, asBool_b, asInt_i, asAgg_a, asTup_a, asStr_s, asCons_c, nthA_0, nthA_s, aggCells_a, addV_p, seeV_p, seeV_i, same_nil, tr_same, eql4, neq4, decide_true, decide_false, Bool.false_eq_true, if_false, if_true, Bool.not_true, Bool.not_false, Bool.and_true, Bool.true_and, Bool.and_self, List.getElem?_cons_zero, List.getElem?_cons_succ, Nat.zero_add, Nat.add_zero, beq_self_eq_true, bne_self_eq_false, Int.reduceBNe, Int.reduceBEq, Int.reduceLT, Int.reduceGT, Int.reduceLE, Int.reduceGE, Nat.reduceAdd, Nat.reduceMul, Nat.reduceLeDiff, sel, e9]
          exact some_tr _ _ _
      · have e9 := awake_c hB (k + 8) S0
        simp only [bO_s, gB_t, asBool_b, asInt_i, asAgg_a, asTup_a, asStr_s, asCons_c, nthA_0, nthA_s, aggCells_a, addV_p, seeV_p, seeV_i, same_nil, tr_same, eql4, neq4, decide_true, decide_false, Bool.false_eq_true, if_false, if_true, Bool.not_true, Bool.not_false, Bool.and_true, Bool.true_and, Bool.and_self, List.getElem?_cons_zero, List.getElem?_cons_succ, Nat.zero_add, Nat.add_zero, beq_self_eq_true, bne_self_eq_false, Int.reduceBNe, Int.reduceBEq, Int.reduceLT, Int.reduceGT, Int.reduceLE, Int.reduceGE, Nat.reduceAdd, Nat.reduceMul, Nat.reduceLeDiff, e1, eql_nilp, e9]
        exact ⟨_, rfl⟩
theorem countEvery_law (xs : List AV) (h : argsOk Try.prog maxLen 16 Try.f8.params.toList xs) : ∃ (C : CallF) (S' : Heap), NOk Try.prog (fun _ => none) C ∧ C 8 0 xs S0 = some (.bool true, S') := by
  rw [Try.params8] at h
  obtain ⟨a, r, rfl, h1, b, r2, rfl, h2, c, r3, rfl, h3, d, r4, rfl, h4, rfl⟩ := h
  obtain ⟨fi, rfl, hfi⟩ := arg3 h1
  obtain ⟨w, rfl, _⟩ := arg3 h2
  obtain ⟨ms, ha, hl, hA⟩ := arg22 h3
  obtain ⟨m, rfl, hm⟩ := arg29 h4
  obtain ⟨S', hS⟩ := countEvery_c Bq_known 0 ha hl hA hm fi w
  exact ⟨Cn Bq 9, S', Cq_ok 9, hS⟩
end Go.Ab.tNearU
