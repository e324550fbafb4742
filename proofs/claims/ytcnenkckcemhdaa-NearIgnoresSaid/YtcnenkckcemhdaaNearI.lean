/- Copies of rows of macroblocks, and the statement NearIgnores. -/
import Derived.Test.YtcnenkckcemhdaaNearV
set_option maxRecDepth 100000
set_option linter.unusedSimpArgs false
set_option linter.unusedVariables false
set_option linter.unusedSectionVars false
namespace Go.Ab.tNearU
open Go Go.Proofs
theorem copyMbs_c {B : CallF} (hB : Silent B) (k : Nat) {S : Heap} {a : AV} {ms : List M} (ha : Rd S a ms) (hg : ∀ m ∈ ms, Good 1000 m) (hn : ms.length ≤ 1000) (h0 : ms ≠ []) :
    ∃ T q, Cn B (k + 4) f_spindlekit_CopyMbs 0 [a] S = some (.hs q 0 ms.length 29, T) ∧ T.blk q = some (flat (ms.map M.norm)) ∧ q < T.next ∧ Ext S T ∧ S.next ≤ q := by
  rw [c_spindlekit_CopyMbs _ _ _ _ (hB _ _ _ _ (by decide)), T_spindlekit_CopyMbs]
  refine loop_ex (fun (o : Option (AV × Heap)) => ∃ T q, o = some (.hs q 0 ms.length 29, T) ∧ T.blk q = some (flat (ms.map M.norm)) ∧ q < T.next ∧ Ext S T ∧ S.next ≤ q)
    (fun i s => ∃ T q, s = ([a, if i = 0 then .nils else .hs q 0 i 29, .int .i64 (i : Int)], T) ∧ (i ≠ 0 → T.blk q = some (flat ((ms.take i).map M.norm)) ∧ q < T.next ∧ S.next ≤ q) ∧ Ext S T)
    (fun y => ∃ T q, y = (0, [.hs q 0 ms.length 29], T) ∧ T.blk q = some (flat (ms.map M.norm)) ∧ q < T.next ∧ Ext S T ∧ S.next ≤ q) ms.length
    ⟨S, 0, rfl, fun h => absurd rfl h, Ext.refl _⟩ ?_ ?_
  · rintro i s hi ⟨T, q, rfl, hq, hT⟩
    have ha' := ha.ext hT
    by_cases hin : i < ms.length
    · have hlt : (i : Int) < ms.length := by omega
      have hw : IntKind.wrap .i64 ((i : Int) + 1) = ((i + 1 : Nat) : Int) := by rw [wr _ (by omega)]; omega
      obtain ⟨t, cs, o, r1, r2, r3, r4⟩ := ha'.at (Pre.of hg) hin
      have hg1 := hg _ (List.getElem_mem hin)
      have hc := copyMb_c hB k hg1 T
      have hl : ((ms.take i).map M.norm).length = i := by rw [List.length_map, List.length_take]; omega
      have htk : (ms.take (i + 1)).map M.norm = (ms.take i).map M.norm ++ [ms[i].norm] := by rw [List.take_add_one, List.getElem?_eq_getElem hin, Option.toList_some, List.map_append]; rfl
      have hfl : flat ((ms.take (i + 1)).map M.norm) = flat ((ms.take i).map M.norm) ++ ms[i].norm.cells := by rw [htk]; simp [flat]
      have happ : ∃ T', aAppend 29 128 (if i = 0 then .nils else .hs q 0 i 29) (.is 1 ms[i].norm.cells) T = some (.hs T.next 0 (i + 1) 29, T') ∧ T'.blk T.next = some (flat ((ms.take (i + 1)).map M.norm)) ∧ T.next < T'.next ∧ Ext S T' := by
        by_cases h0 : i = 0
        · subst h0
          rw [if_pos rfl]
          refine ⟨_, app_nil (n := 1) (by omega) (by rw [M.len hg1.norm.pre]) (room2 (by omega) (by omega)) (room3 (by omega)), ?_, Nat.lt_succ_self _, hT.trans (Ext.alloc T _)⟩
          rw [alloc_blk, hfl]; rfl
        · rw [if_neg h0]
          obtain ⟨hb, hqt, hqs⟩ := hq h0
          have hfll : (flat ((ms.take i).map M.norm)).length = i * 29 := by
            have := flat_len (ms := (ms.take i).map M.norm) (fun x hx => by
              obtain ⟨y, hy, rfl⟩ := List.mem_map.1 hx
              exact (hg y (List.mem_of_mem_take hy)).norm.pre)
            rw [hl] at this; exact this
          refine ⟨_, app_hs (n := 1) hb hfll (by rw [M.len hg1.norm.pre]) (by omega) (room2 (by omega) (by omega)) (room3 (by omega)) hg1.norm.cell, ?_, Nat.lt_succ_self _, ?_⟩
          · rw [hfl]; exact alloc_blk (T.set q none) _
          · exact (hT.set hqs none).trans (Ext.alloc _ _)
      obtain ⟨T', e1, e2, e3, e4⟩ := happ
      refine .inr ⟨hin, ([a, .hs T.next 0 (i + 1) 29, .int .i64 ((i + 1 : Nat) : Int)], T'), ?_, T', T.next, by rw [if_neg (by omega)], fun _ => ⟨e2, e3, hT.1⟩, e4⟩
      simp only [nthA_0, nthA_s, asInt_i, ha'.len, bO_s, hlt, decide_true, if_true, r1, r2, r3, r4, gB_t, hc, asAgg_a, ← zM_cells, M.len hg1.norm.pre, M.z0 hg1.norm.pre, beq_self_eq_true, Nat.zero_add, Nat.le_refl, e1, hw]
    · have hie : i = ms.length := by omega
      subst hie
      have hlt : ¬ (ms.length : Int) < ms.length := by omega
      have hne : ms.length ≠ 0 := fun h => h0 (List.length_eq_zero_iff.1 h)
      obtain ⟨hb, hqt, hqs⟩ := hq hne
      rw [List.take_length] at hb
      refine .inl ⟨(0, [.hs q 0 ms.length 29], T), ?_, T, q, rfl, hb, hqt, hT, hqs⟩
      simp only [nthA_0, nthA_s, asInt_i, ha'.len, bO_s, hlt, decide_false, Bool.false_eq_true, if_false, if_neg hne]
  · rintro x ⟨T, q, rfl, hb, hqt, hT, hqs⟩
    refine ⟨T, q, ?_, hb, hqt, hT, hqs⟩
    simp only [sel, nthA_0]
    rw [tr_id2 rfl]
theorem Obj.ext2 {S T : Heap} {p q : Nat} {fi w : Int} {ms : List M} (h : Obj S p q fi w ms) (hT : Ext S T) : Obj T p q fi w ms :=
  ⟨(hT.2.2 _ h.lp).trans h.blk, fun h0 => (hT.2.2 _ (h.lq h0)).trans (h.cells h0), h.ne, Nat.lt_of_lt_of_le h.lp hT.1, fun h0 => Nat.lt_of_lt_of_le (h.lq h0) hT.1, h.good, h.hf, h.hw, h.hm⟩
theorem fa_set {fi : Int} {ms : List M} {i : Nat} {x : M} {a : Int} (h : a - fi ≠ (i : Int)) : fa fi (ms.set i x) a = fa fi ms a := by
  unfold fa
  by_cases h1 : fi ≤ a ∧ a < fi + ms.length
  · rw [dif_pos h1, dif_pos (by rw [List.length_set]; exact h1), List.getElem_set_ne (by omega)]
  · rw [dif_neg h1, dif_neg (by rw [List.length_set]; exact h1)]
theorem flat_set2 {ms : List M} (hp : Pre ms) {i : Nat} (hi : i < ms.length) (m : M) (hm : m.pre.length = 23) : setCells (flat ms) (i * 29) m.cells = flat (ms.set i m) := by
  have hl : (flat (ms.take i)).length = i * 29 := by
    rw [flat_len fun x hx => hp x (List.mem_of_mem_take hx), List.length_take]; congr 1; omega
  have e1 : flat ms = flat (ms.take i) ++ ms[i].cells ++ flat (ms.drop (i + 1)) := by
    have : ms = ms.take i ++ ms[i] :: ms.drop (i + 1) := by rw [← List.drop_eq_getElem_cons hi, List.take_append_drop]
    refine (congrArg flat this).trans ?_
    simp only [flat, List.flatMap_append, List.flatMap_cons, List.append_assoc]
  have e2 : flat (ms.set i m) = flat (ms.take i) ++ m.cells ++ flat (ms.drop (i + 1)) := by
    rw [List.set_eq_take_append_cons_drop, if_pos hi]; simp [flat]
  rw [e1, e2, ← hl]
  exact setCells_append _ _ _ _ (by rw [M.len (hp _ (List.getElem_mem hi)), M.len hm])
theorem neg_dec (b : Bool) : (!b) = true ↔ b = false := by cases b <;> simp
theorem ignores_law (k : Nat) {a : AV} {ms : List M} (ha : ∀ S, Rd S a ms) (hl : ms.length ≤ maxLen) (hA : ∀ m ∈ ms, Arg m) {m : M} (hm : Arg m) (fi w i : Int) (hw : -9223372036854775808 ≤ w ∧ w ≤ 9223372036854775807) :
    ∃ S', Cn Bk (k + 7) f_spindlelaw14_NearIgnores 0 [.int .i64 fi, .int .i64 w, a, .int .i64 i, .agg m.cells] S0 = some (.bool true, S') := by
  have hB := Bk_silent
  rw [c_spindlelaw14_NearIgnores _ _ _ _ _ _ _ _ (hB _ _ _ _ (by decide)), T_spindlelaw14_NearIgnores]
  have hmp := hm.good.pre
  obtain ⟨b, hb, hbt⟩ := few_c hB (k + 5) (ha S0) (fun m hm => (hA m hm).good) hl 40
  have hone : Rd S0 (.is 1 m.cells) [m] := .inr (.inl (by simp [flat]))
  obtain ⟨b2, hb2, hbt2⟩ := few_c hB (k + 5) hone (fun x hx => by rw [List.mem_singleton.1 hx]; exact hm.good) (by rw [maxLen_is]; simp) 1
  have hlen : ∀ S, aLen Try.prog 22 a = some (.int .i64 ms.length) := fun S => (ha S).len
  cases b with
  | false =>
    simp only [asInt_i, asAgg_a, M.len hmp, hb, bO_s, asBool_b, beq_self_eq_true, gB_t, Bool.not_false, if_true, nthA_0, nthA_s]
    exact some_tr _ _ _
  | true =>
    cases b2 with
    | false =>
      simp only [asInt_i, asAgg_a, M.len hmp, hb, hb2, bO_s, asBool_b, beq_self_eq_true, gB_t, Bool.not_false, Bool.not_true, Bool.false_eq_true, if_false, if_true, nthA_0, nthA_s, Nat.zero_add, Nat.le_refl, decide_true, List.drop_zero, M.t29 hmp, ← zM_cells, M.z0 hmp]
      exact some_tr _ _ _
    | true =>
      obtain ⟨hn40, hg60⟩ := hbt rfl
      have hgm : Good 1000 m := ((hbt2 rfl).2 m (by simp)).mono (by omega)
      have hg : ∀ m ∈ ms, Good 1000 m := fun m hm => (hg60 m hm).mono (by omega)
      have wl : IntKind.wrap .i64 ((ms.length : Int) - 1) = (ms.length : Int) - 1 := wr _ (by omega)
      by_cases g1 : i < 0
      · simp only [asInt_i, asAgg_a, M.len hmp, hb, hb2, bO_s, asBool_b, beq_self_eq_true, gB_t, Bool.not_true, Bool.false_eq_true, if_false, if_true, nthA_0, nthA_s, Nat.zero_add, Nat.le_refl, decide_true, List.drop_zero, M.t29 hmp, ← zM_cells, M.z0 hmp, g1]
        exact some_tr _ _ _
      by_cases g2 : i ≥ (ms.length : Int) - 1
      · simp only [asInt_i, asAgg_a, M.len hmp, hb, hb2, bO_s, asBool_b, beq_self_eq_true, gB_t, Bool.not_true, Bool.false_eq_true, if_false, if_true, nthA_0, nthA_s, Nat.zero_add, Nat.le_refl, decide_true, decide_false, List.drop_zero, M.t29 hmp, ← zM_cells, M.z0 hmp, g1, hlen S0, wl, g2]
        exact some_tr _ _ _
      cases g3 : (i == IntKind.wrap .i64 ((ms.length : Int) - w)) with
      | true =>
        simp only [asInt_i, asAgg_a, M.len hmp, hb, hb2, bO_s, asBool_b, beq_self_eq_true, gB_t, Bool.not_true, Bool.false_eq_true, if_false, if_true, nthA_0, nthA_s, Nat.zero_add, Nat.le_refl, decide_true, decide_false, List.drop_zero, M.t29 hmp, ← zM_cells, M.z0 hmp, g1, hlen S0, wl, g2, g3]
        exact some_tr _ _ _
      | false =>
        obtain ⟨j, rfl⟩ := Int.eq_ofNat_of_zero_le (show 0 ≤ i by omega)
        have hj : j < ms.length := by omega
        have h0 : ms ≠ [] := fun h => by rw [h] at hj; simp at hj
        obtain ⟨T, q, hcp, hqb, hqn, hT, hqs⟩ := copyMbs_c hB (k + 2) (ha S0) hg (by omega) h0
        have hns : (ms.map M.norm).length = ms.length := List.length_map ..
        have hpn : Pre (ms.map M.norm) := fun x hx => by
          obtain ⟨y, hy, rfl⟩ := List.mem_map.1 hx
          exact (hg y hy).norm.pre
        have hix : aIdx 29 (.hs q 0 ms.length 29) (j : Int) = some (.ptr q (j * 29)) := by simp [aIdx, hj]
        have hpt : putV (.ptr q (j * 29)) m.cells T = some (T.set q (some (flat ((ms.map M.norm).set j m)))) := by
          have hfl := flat_len hpn
          rw [hns] at hfl
          simp only [putV, hqb]
          rw [if_pos (by rw [M.len hmp, hfl]; omega), flat_set2 hpn (by omega) m hmp]
        obtain ⟨T1, hT1⟩ : ∃ T1, T1 = T.set q (some (flat ((ms.map M.norm).set j m))) := ⟨_, rfl⟩
        rw [← hT1] at hpt
        have hE1 : Ext S0 T1 := by rw [hT1]; exact hT.set hqs _
        have hq1 : T1.blk q = some (flat ((ms.map M.norm).set j m)) := by rw [hT1]; exact set_blk _ _ _
        have hqn1 : q < T1.next := by rw [hT1]; exact hqn
        have hsl : ((ms.map M.norm).set j m).length = ms.length := by rw [List.length_set, hns]
        have hRq : Rd T1 (.hs q 0 ms.length 29) ((ms.map M.norm).set j m) := .inr (.inr ⟨q, by rw [hsl], hq1, hqn1⟩)
        have hgs : ∀ x ∈ (ms.map M.norm).set j m, Good 1000 x := fun x hx => by
          rcases List.mem_or_eq_of_mem_set hx with h | h
          · obtain ⟨y, hy, rfl⟩ := List.mem_map.1 h
            exact (hg y hy).norm
          · rw [h]; exact hgm
        have hm2 : ((ms.map M.norm).set j m).map M.norm = (ms.map M.norm).set j m.norm := by
          rw [List.map_set, List.map_map]
          congr 1
          exact List.map_congr_left (fun x _ => norm_norm x)
        have e9 : ∀ T, Cn Bk (k + 6) f_spindlelaw14_awake 0 [] T = some (.bool true, T) := fun T => awake_c (k + 6) T
        rcases made_c hB (k + 2) (ha T1) hg (by omega) (fi := fi) (w := w) with ⟨⟨hf, hw2, hmx⟩, U, q1, hmade, hO, hU, _⟩ | ⟨hno, hmade⟩
        · rcases made_c hB (k + 2) (hRq.ext hU) hgs (by omega) (fi := fi) (w := w) with ⟨_, V, q2, hmade2, hO2, hV, _⟩ | ⟨hno2, _⟩
          · have hO1 := hO.ext2 hV
            rw [hm2] at hO2
            have e1 := left_c hB (k + 2) hO1
            have e2 := left_c hB (k + 2) hO2
            have e3 := above_c hB (k + 2) hO1
            have e4 := above_c hB (k + 2) hO2
            have e5 := next_c hB (k + 5) hO1
            have e6 := next_c hB (k + 5) hO2
            have hjw : (j : Int) ≠ (ms.length : Int) - w := fun h => by
              rw [wr _ (by omega)] at g3
              simp at g3; omega
            have hsl2 : ((ms.map M.norm).set j m.norm).length = ms.length := by rw [List.length_set, hns]
            have hlf : lf fi w ((ms.map M.norm).set j m.norm) = lf fi w (ms.map M.norm) := by
              unfold lf
              rw [hsl2, hns]
              split
              · rfl
              · exact fa_set (by omega)
            have hfa : fa fi ((ms.map M.norm).set j m.norm) (fi + ms.length - w) = fa fi (ms.map M.norm) (fi + ms.length - w) := fa_set (by omega)
            rw [hlf] at e2
            rw [hsl2] at e4 e6
            rw [hns] at e3 e5
            rw [hfa] at e4
            have hgood : ∀ x ∈ ms.map M.norm, Good 1000 x ∧ x.norm = x := hO.good
            obtain ⟨gu, nu⟩ := lf_good (fi := fi) (w := w) hgood
            obtain ⟨gv, nv⟩ := fa_good (fi := fi) hgood (fi + ms.length - w)
            obtain ⟨u, hu⟩ : ∃ u, u = lf fi w (ms.map M.norm) := ⟨_, rfl⟩
            obtain ⟨v, hv⟩ : ∃ v, v = fa fi (ms.map M.norm) (fi + ms.length - w) := ⟨_, rfl⟩
            rw [← hu] at e1 e2 gu nu
            rw [← hv] at e3 e4 gv nv
            have su := gu.sim
            rw [nu] at su
            have sv := gv.sim
            rw [nv] at sv
            have e7 := equalMb_c hB (k + 3) gu gu su V
            have e8 := equalMb_c hB (k + 3) gv gv sv V
            obtain ⟨um, ub⟩ := u
            obtain ⟨vm, vb⟩ := v
            simp only [pair] at e1 e2 e3 e4
            simp only at gu gv e7 e8
            simp only [asInt_i, asAgg_a, M.len hmp, hb, hb2, bO_s, asBool_b, beq_self_eq_true, gB_t, Bool.not_true, Bool.false_eq_true, if_false, if_true, nthA_0, nthA_s, aggCells_a, Nat.zero_add, Nat.le_refl, decide_true, decide_false, List.drop_zero, M.t29 hmp, ← zM_cells, M.z0 hmp, g1, hlen S0, wl, g2, g3, hcp, hix, hm.good.cell, hpt, hmade, hmade2, eql_ptr, e1, e2, e3, e4, asTup_a, asCons_c, M.len gu.pre, M.len gv.pre, gu.cell, gv.cell, M.z0 gu.pre, M.z0 gv.pre, M.t29 gu.pre, M.t29 gv.pre, e7, e8, eql4, e5, e6, e9]
            exact some_tr _ _ _
          · exact absurd ⟨hf, hw2, by rw [hsl]; exact hmx⟩ hno2
        · rcases made_c hB (k + 2) hRq hgs (by omega) (fi := fi) (w := w) with ⟨hok, _⟩ | ⟨_, hmade2⟩
          · rw [hsl] at hok
            exact absurd hok hno
          · simp only [asInt_i, asAgg_a, M.len hmp, hb, hb2, bO_s, asBool_b, beq_self_eq_true, gB_t, Bool.not_true, Bool.false_eq_true, if_false, if_true, nthA_0, nthA_s, aggCells_a, Nat.zero_add, Nat.le_refl, decide_true, decide_false, List.drop_zero, M.t29 hmp, ← zM_cells, M.z0 hmp, g1, hlen S0, wl, g2, g3, hcp, hix, hm.good.cell, hpt, hmade, hmade2, eql_nilp, e9]
            exact some_tr _ _ _
theorem nearIgnores_law (xs : List AV) (h : argsOk Try.prog maxLen 16 Try.f3.params.toList xs) : ∃ (C : CallF) (S' : Heap), NOk Try.prog (fun _ => none) C ∧ C 3 0 xs S0 = some (.bool true, S') := by
  rw [Try.params3] at h
  obtain ⟨a, r, rfl, h1, b, r2, rfl, h2, c, r3, rfl, h3, d, r4, rfl, h4, e, r5, rfl, h5, rfl⟩ := h
  obtain ⟨fi, rfl, hfi⟩ := arg3 h1
  obtain ⟨w, rfl, hw⟩ := arg3 h2
  obtain ⟨ms, hRd, hl, hA⟩ := arg22 h3
  obtain ⟨i, rfl, hi⟩ := arg3 h4
  obtain ⟨m, rfl, hm⟩ := arg29 h5
  obtain ⟨S', hS⟩ := ignores_law 0 hRd hl hA hm fi w i hw
  exact ⟨Cn Bk 7, S', Cn_ok 7, hS⟩
end Go.Ab.tNearU
