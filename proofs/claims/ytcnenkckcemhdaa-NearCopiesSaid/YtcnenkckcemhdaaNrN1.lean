/- NearCopies: copies whose index rows are written. -/
import Derived.Test.YtcnenkckcemhdaaNrV
set_option maxRecDepth 100000
set_option linter.unusedSimpArgs false
set_option linter.unusedVariables false
set_option linter.unusedSectionVars false
namespace Go.Ab.tNearU
open Go Go.Proofs

theorem mbsG_c {B : CallF} (hB : Silent B) (k : Nat) {S : Heap} {p : Nat} {fi w : Int} {a : AV} {ms : List M} (hb : S.blk p = some [.int .i64 fi, .int .i64 w, a]) (hp : p < S.next) (hrd : Rd S a ms) (hg : ∀ m ∈ ms, Good 1000 m) (hn : ms.length ≤ 8160) : Cn B (k + 3) f_near_Near_Mbs 0 [.ptr p 0] S = some (.is ms.length (flat ms), S) := by
  rw [c_near_Near_Mbs _ _ _ _ (hB _ _ _ _ (by decide)), T_near_Near_Mbs]
  have hl := flat_len (Pre.of hg)
  have hlen := hrd.len
  have hb1 : (S.alloc (repCells ms.length zM.cells)).blk p = some [.int .i64 fi, .int .i64 w, a] := by rw [alloc_other _ _ (by omega), hb]
  have hrow := rowOf_rd (hrd.ext (Ext.alloc S (repCells ms.length zM.cells))) (Pre.of hg)
  have hcell : (flat ms).all cell = true := flat_all fun m hm => (hg m hm).cell
  have hcopy : aCopy 29 (.hs S.next 0 ms.length 29) a (S.alloc (repCells ms.length zM.cells)) = some (.int .i64 (ms.length : Nat), (S.alloc (repCells ms.length zM.cells)).set S.next (some (flat ms))) := by
    unfold aCopy
    simp only [hrow, alloc_blk, repCells_len, Nat.zero_add, Nat.le_refl, hcell, and_self, if_true, Nat.min_self]
    rw [List.take_of_length_le (by omega), setCells_all (by rw [repCells_len, hl])]
  simp only [eql_ptr, bO_s, asBool_b, Bool.false_eq_true, if_false, addV_p, seeV_p, hb, Nat.zero_add, List.getElem?_cons_zero, List.getElem?_cons_succ, hlen, asInt_i, gB_t, Int.toNat_natCast, ← zM_cells, hb1, hcopy]
  rw [gB_of (by simp; omega)]
  have hE : Ext S ((S.alloc (repCells ms.length zM.cells)).set S.next (some (flat ms))) := (Ext.alloc S _).set (Nat.le_refl _) _
  refine loop_to (fun i s => ∃ T, s = ([.hs S.next 0 ms.length 29, .int .i64 (ms.length : Nat), .int .i64 (i : Int)], T) ∧ Ext S T ∧ T.blk S.next = some (flat ms))
    (fun y => ∃ T, y = (0, [.hs S.next 0 ms.length 29], T) ∧ Ext S T ∧ T.blk S.next = some (flat ms)) ms.length ⟨_, rfl, hE, by simp⟩ ?_ ?_
  · rintro i s hi ⟨T, rfl, hT, hTb⟩
    by_cases hin : i < ms.length
    · refine .inr ⟨hin, ?_⟩
      have hlt : (i : Int) < ms.length := by omega
      have hw : IntKind.wrap .i64 ((i : Int) + 1) = (i : Int) + 1 := wr _ (by omega)
      have hix : aIdx 29 (.hs S.next 0 ms.length 29) (i : Int) = some (.ptr S.next (i * 29)) := by simp [aIdx, hin]
      have hg1 := hg _ (List.getElem_mem hin)
      have hc := mbCopy_c hB k hg1 T
      have hlen2 : i * 29 + 29 ≤ (flat ms).length := by omega
      have hput : putV (.ptr S.next (i * 29)) ms[i].cells T = some (T.set S.next (some (flat ms))) := by
        simp only [putV, hTb, M.len hg1.pre, hlen2, if_true, flat_same (Pre.of hg) hin]
      simp only [nthA_0, nthA_s, asInt_i, hlt, decide_true, if_true, hix, bO_s, seeV_p, hTb, hlen2, gB_t, flat_at (Pre.of hg) hin, hc, asAgg_a, M.len hg1.pre, beq_self_eq_true, hg1.cell, hput, hw]
      exact ⟨_, rfl, T.set S.next (some (flat ms)), rfl, hT.set (Nat.le_refl _) _, by simp⟩
    · have : i = ms.length := by omega
      subst this
      refine .inl ⟨_, ?_, T, rfl, hT, hTb⟩
      simp
  · rintro y ⟨T, rfl, hT, hTb⟩
    simp only [sel, nthA_0]
    rw [show (40 : Nat) = 38 + 1 + 1 from rfl, fz_hs hTb hl (flat_all fun m hm => (hg m hm).plain)]
    simp only [bO_s]
    rw [tr_S]
    · simp only [Go.Ab.noId]
      refine noIdL_all fun c hc => ?_
      obtain ⟨m, hm, hc⟩ := List.mem_flatMap.1 hc
      have : ∀ {l : List AV}, noIdL l = true → ∀ c ∈ l, Go.Ab.noId c = true := by
        intro l
        induction l with
        | nil => intro _ c hc; simp at hc
        | cons a l ih =>
          intro h c hc
          simp only [noIdL, Bool.and_eq_true] at h
          rcases List.mem_cons.1 hc with rfl | hc
          · exact h.1
          · exact ih h.2 c hc
      exact this (hg m hm).noId c hc
    · exact hT.set (Nat.le_refl _) none
/-- A copy of a slice. -/
theorem copy_c {B : CallF} (hB : Silent B) (k : Nat) {S : Heap} {p q : Nat} {fi w : Int} {ms : List M} (h : Obj S p q fi w ms) : Cn B (k + 4) f_near_Near_Copy 0 [.ptr p 0] S = some (.ptr S.next 0, S.alloc [.int .i64 fi, .int .i64 w, .is ms.length (flat ms)]) := by
  rw [c_near_Near_Copy _ _ _ _ (hB _ _ _ _ (by decide)), T_near_Near_Copy]
  have e1 := mbs_c hB k h
  have h1 : ctlW.same [.see (.ptr p 1) S S, .see (.ptr p 0) S S] = true := same_see2 rfl rfl
  have hc : ∀ n (l : List AV), cell (.is n l) = true := fun _ _ => rfl
  simp only [eql_ptr, bO_s, asBool_b, Bool.false_eq_true, if_false, addV_p, seeV_p, h.blk, Nat.zero_add, List.getElem?_cons_zero, List.getElem?_cons_succ, asInt_i, gB_t, same_nil, e1, h1, hc]
  rw [tr_id2 rfl]
theorem nextG_c {B : CallF} (hB : Silent B) (k : Nat) {S : Heap} {p : Nat} {fi w : Int} {a : AV} {ms : List M} (hb : S.blk p = some [.int .i64 fi, .int .i64 w, a]) (hrd : Rd S a ms) (h1 : 0 ≤ fi ∧ fi + ms.length ≤ 8160) : Cn B (k + 1) f_near_Near_Next 0 [.ptr p 0] S = some (.int .i64 (fi + ms.length), S) := by
  rw [c_near_Near_Next _ _ _ _ (hB _ _ _ _ (by decide)), T_near_Near_Next]
  have hw : IntKind.i64.wrap (fi + ms.length) = fi + ms.length := wr _ (by omega)
  have hl := hrd.len
  simp only [eql_ptr, bO_s, asBool_b, Bool.false_eq_true, if_false, addV_p, seeV_p, hb, Nat.zero_add, List.getElem?_cons_zero, List.getElem?_cons_succ, asInt_i, gB_t, same_nil, hl, hw, tr_same]
/-- A row of whole numbers in the heap, or nil. -/
def HR (T : Heap) (b : Nat) (a : AV) : Prop := a = .nils ∨ ∃ id n cs, a = .hs id 0 n 1 ∧ b ≤ id ∧ id < T.next ∧ T.blk id = some cs ∧ cs.length = n ∧ n ≤ 1000 ∧ ints cs
theorem HR.ext {S T : Heap} {b : Nat} {a : AV} (h : HR S b a) (hE : Ext S T) : HR T b a := by
  rcases h with h | ⟨id, n, cs, h1, h2, h3, h4, h5⟩
  · exact .inl h
  · exact .inr ⟨id, n, cs, h1, h2, by have := hE.1; omega, (hE.2.2 _ h3).trans h4, h5⟩
theorem clone1w_c {B : CallF} (hB : Silent B) (k : Nat) {a : AV} (h : Row 1000 1 a) (S : Heap) : ∃ x S', Cn B (k + 1) f_slices_Clone_int_int 1 [a] S = some (x, S') ∧ Ext S S' ∧ HR S' S.next x ∧ cell x = true := by
  rw [c_slices_Clone_int_int_w1 _ _ _ _ (hB _ _ _ _ (by decide)), T_slices_Clone_int_int_w1]
  have q1 : aBin Try.prog .eql 25 .nils .nils = some (.bool true) := by kernel_rfl
  have q2 : ∀ n cs, aBin Try.prog .eql 25 (.is n cs) .nils = some (.bool false) := fun n cs => by kernel_rfl
  obtain rfl | ⟨n, cs, rfl, h1, h2, h3⟩ := h
  · refine ⟨.nils, S, ?_, Ext.refl S, .inl rfl, rfl⟩
    simp only [q1, bO_s, asBool_b, if_true, tr_same]
  · by_cases h0 : n = 0
    · subst h0
      refine ⟨.hs S.next 0 0 1, S.alloc [], ?_, Ext.alloc S [], .inr ⟨S.next, 0, [], rfl, Nat.le_refl _, by rw [alloc_next]; omega, alloc_blk S [], rfl, Nat.zero_le _, fun c hc => by cases hc⟩, rfl⟩
      simp only [q2, bO_s, asBool_b, Bool.false_eq_true, if_false, app_hs0 h2]
      rw [tr_id2 rfl]
    · have e := app_hs (es := 1) (by' := 8) (id := S.next) (m := 0) (n := n) (cs := []) (new := cs) (S := S.alloc []) (alloc_blk S []) rfl h2 h0 (by rw [Nat.zero_add]; exact room2 (by omega) (by omega)) (by rw [Nat.zero_add]; exact room3 (by omega)) (List.all_eq_true.2 fun c hc => by obtain ⟨i, rfl⟩ := h3 c hc; rfl)
      refine ⟨.hs (S.next + 1) 0 n 1, ((S.alloc []).set S.next none).alloc cs, ?_, ((Ext.alloc S []).set (Nat.le_refl _) none).trans (Ext.alloc _ cs), .inr ⟨S.next + 1, n, cs, rfl, by omega, Nat.lt_succ_self _, alloc_blk ((S.alloc []).set S.next none) cs, by omega, h1, h3⟩, rfl⟩
      simp only [q2, bO_s, asBool_b, Bool.false_eq_true, if_false, e]
      rw [tr_id2 rfl]
      simp only [alloc_next, Nat.zero_add, List.nil_append]
theorem clone3w_c {B : CallF} (hB : Silent B) (k : Nat) {a : AV} (h : Rows 1000 a) (S : Heap) : ∃ x S', Cn B (k + 1) f_slices_Clone_int_int_v2 0 [a] S = some (x, S') ∧ Ext S S' ∧ cell x = true ∧
    ((a = .nils ∧ x = .nils) ∨ ∃ id n cs, a = .is n cs ∧ x = .hs id 0 n 1 ∧ S.next ≤ id ∧ id < S'.next ∧ S'.blk id = some cs ∧ cs.length = n ∧ n ≤ 1000 ∧ ∀ c ∈ cs, Row 1000 1 c) := by
  rcases h with rfl | ⟨n, cs, rfl, h1, h2, h3⟩
  · exact ⟨.nils, S, clone3nil_c hB k S, Ext.refl S, rfl, .inl ⟨rfl, rfl⟩⟩
  · obtain ⟨id, S', e, i1, i2, i3, i4⟩ := clone3_c hB k (n := n) (cs := cs) (.inr ⟨n, cs, rfl, h1, h2, h3⟩) S
    exact ⟨_, S', e, i4, rfl, .inr ⟨id, n, cs, rfl, rfl, i1, i2, i3, h2, h1, h3⟩⟩
theorem cells_cell' {d : M} (h1 : cell d.r = true) (h2 : cell d.v = true) (h3 : cell d.b = true) : d.cells.all cell = true := by
  simp only [M.cells, List.all_append, List.all_cons, List.all_nil, h1, h2, h3, Bool.and_true, Bool.true_and, Bool.and_eq_true]
  refine ⟨?_, rfl, rfl, rfl⟩
  rw [List.all_eq_true]
  intro c hc
  obtain ⟨i, _, rfl⟩ := List.mem_map.1 hc
  rfl
theorem noIdL_in : ∀ {l : List AV} {c : AV}, noIdL l = true → c ∈ l → noId c = true
  | a :: l, c, h, hc => by
    simp only [noIdL, Bool.and_eq_true] at h
    rcases List.mem_cons.1 hc with rfl | hc
    · exact h.1
    · exact noIdL_in h.2 hc
theorem mbCopy1_c {B : CallF} (hB : Silent B) (k : Nat) {m : M} (h : Good 1000 m) (S : Heap) :
    ∃ (d : M) (S' : Heap), Cn B (k + 2) f_mb_Copy 1 [.agg m.cells] S = some (.agg d.cells, S') ∧ Ext S S' ∧ d.pre = m.pre ∧ d.cells.all cell = true ∧ HR S' S.next d.r := by
  rw [c_mb_Copy_w1 _ _ _ _ (hB _ _ _ _ (by decide)), T_mb_Copy_w1]
  have hp := h.pre
  obtain ⟨x, S1, e1, hE1, hx, hcx⟩ := clone1w_c hB k h.r S
  have e2 := clone2_c hB k h.v S1
  obtain ⟨y, S2, e3, hE2, hcy, hy⟩ := clone3w_c hB k h.b S1
  have hcv := h.v.cell
  have h23 := M.s23 hp x
  have hp1 : ({ m with r := x } : M).pre.length = 23 := hp
  have h24 : setCells ({ m with r := x } : M).cells 24 [m.v] = ({ m with r := x } : M).cells := M.s24 hp1 m.v
  have h27 := M.s27 hp1 y
  obtain ⟨d, hd⟩ : ∃ d : M, d = { m with r := x, b := y } := ⟨_, rfl⟩
  have h27' : setCells ({ m with r := x } : M).cells 27 [y] = d.cells := by rw [hd]; exact h27
  have hdp : d.pre.length = 23 := by rw [hd]; exact hp
  have hdr : d.r = x := by rw [hd]
  have hdb : d.b = y := by rw [hd]
  have l1 : ({ m with r := x } : M).cells.length = 29 := M.len hp1
  have ld := M.len hdp
  have gd : d.cells[27]? = some y := by rw [← hdb]; exact M.g27 hdp
  have hcd : d.cells.all cell = true := cells_cell' (by rw [hdr]; exact hcx) (by rw [hd]; exact hcv) (by rw [hdb]; exact hcy)
  have zd := M.z hdp
  have td : List.take 29 d.cells = d.cells := M.t29 hdp
  have hfin : ∀ T, Ext S2 T → ∃ S', ctlW.tr S (.agg d.cells) T = (.agg d.cells, S') ∧ Ext S S' ∧ HR S' S.next d.r := by
    intro T hT
    have hE := hE1.trans (hE2.trans hT)
    by_cases hno : noId (.agg d.cells) = true
    · refine ⟨S, tr_S hno hE, Ext.refl S, ?_⟩
      have hr : noId d.r = true := noIdL_in (l := d.cells) hno (by simp [M.cells])
      rw [hdr] at hr ⊢
      rcases hx with hx | ⟨id, n, cs, hx, _⟩
      · exact .inl hx
      · rw [hx] at hr; cases hr
    · refine ⟨T, tr_id2 (by simpa using hno), hE, ?_⟩
      rw [hdr]
      exact hx.ext (hE2.trans hT)
  have h24' : (24 : Nat) ≤ 29 := by omega
  have h25' : (25 : Nat) ≤ 29 := by omega
  have h28' : (28 : Nat) ≤ 29 := by omega
  have h29' : (29 : Nat) ≤ 29 := by omega
  simp only [asAgg_a, M.len hp, beq_self_eq_true, gB_t, M.g23 hp, M.g24 hp, M.g27 hp, bO_s, same_nil, e1, e2, e3, hcx, hcv, hcy, h23, h24, h27', l1, h24', h25', h28', decide_true, List.all_cons, List.all_nil, Bool.and_true, gd]
  rcases hy with ⟨hb, hyn⟩ | ⟨id, n, cs, hb, hyn, i1, i2, i3, i4, i5, i6⟩
  · have hL : aLen Try.prog 27 y = some (.int .i64 0) := by rw [hyn]; kernel_rfl
    rw [hL]
    obtain ⟨S', f1, f2, f3⟩ := hfin S2 (Ext.refl S2)
    refine ⟨d, S', ?_, f2, by rw [hd], hcd, f3⟩
    simp only [bO_s, asInt_i]
    rw [bloop]
    simp only [nthA_0, nthA_s, asInt_i, aggCells_a, show decide ((0 : Int) < 0) = false from rfl, Bool.false_eq_true, if_false, sel, List.drop_zero, td, ld, hcd, zd, gB_t, beq_self_eq_true, Nat.zero_add, h29', decide_true, bO_s, f1]
    simp only [List.length_cons, List.length_nil, Nat.zero_add, Nat.reduceAdd, Nat.le_refl, decide_true, gB_t]
  · have hL : aLen Try.prog 27 y = some (.int .i64 n) := by rw [hyn]; kernel_rfl
    rw [hL]
    simp only [bO_s, asInt_i]
    generalize hZ : AV.agg [.int .u8 0, .int .u8 0, .int .u8 0, .int .u8 0, .int .u8 0, .int .u8 0, .int .u8 0, .int .u8 0, .int .u8 0, .int .u8 0, .int .u8 0, .int .u8 0, .int .u8 0, .int .u8 0, .int .u8 0, .int .u8 0, .int .u8 0, .int .u8 0, .int .u8 0, .int .u8 0, .int .u8 0, .int .u8 0, .int .u8 0, .nils, .nils, .int .u8 0, .int .i64 0, .nils, .str ByteArray.empty] = Z
    have hZ' : AV.agg (aggCells Z) = Z := by subst hZ; rfl
    refine loop_ex (fun (o : Option (AV × Heap)) => ∃ (d : M) (S' : Heap), o = some (.agg d.cells, S') ∧ Ext S S' ∧ d.pre = m.pre ∧ d.cells.all cell = true ∧ HR S' S.next d.r)
      (fun i s => ∃ T, s = ([.agg d.cells, Z, .int .i64 n, .int .i64 (i : Int)], T) ∧ Ext S2 T ∧ T.blk id = some cs)
      (fun z => ∃ T, z = (0, [.agg d.cells, Z], T) ∧ Ext S2 T) n ⟨S2, rfl, Ext.refl S2, i3⟩ ?_ ?_
    · rintro i s hi ⟨T, rfl, hT, hTb⟩
      by_cases hin : i < n
      · refine .inr ⟨hin, ?_⟩
        have hlt : (i : Int) < n := by omega
        have hw : IntKind.wrap .i64 ((i : Int) + 1) = ((i + 1 : Nat) : Int) := by rw [wr _ (by omega)]; omega
        have hg : cs[i]? = some cs[i] := List.getElem?_eq_getElem (by omega)
        have hm := i6 cs[i] (List.getElem_mem _)
        have hq := clone1_c hB k hm T
        have hix : aIdx 1 y (i : Int) = some (.ptr id i) := by rw [hyn]; simp [aIdx, hin]
        have hput : putV (.ptr id i) [cs[i]] T = some T := by
          simp only [putV, hTb, List.length_cons, List.length_nil, setCells, List.set_getElem_self]
          rw [if_pos (by omega)]
          congr 1
          show T.set id (some cs) = T
          unfold Heap.set
          cases T with | mk nx bk cx =>
          simp only at hTb
          congr 1
          funext j
          by_cases hj : j = id
          · rw [if_pos hj, hj, hTb]
          · rw [if_neg hj]
        have hcc := hm.cell
        refine ⟨_, ?_, T, rfl, hT, hTb⟩
        simp only [nthA_0, nthA_s, asInt_i, bO_s, hlt, decide_true, if_true, aggCells_a, gd, gB_t, same_nil, hix, seeV_p, hTb, hg, hq, hcc, List.all_cons, List.all_nil, Bool.and_true, hput, hw, hZ']
      · have hlt : ¬ (i : Int) < n := by omega
        refine .inl ⟨_, ?_, T, rfl, hT⟩
        simp only [nthA_0, nthA_s, asInt_i, hlt, decide_false, Bool.false_eq_true, if_false, aggCells_a, hZ']
    · rintro z ⟨T, rfl, hT⟩
      subst hZ
      obtain ⟨S', f1, f2, f3⟩ := hfin T hT
      refine ⟨d, S', ?_, f2, by rw [hd], hcd, f3⟩
      simp only [nthA_0, nthA_s, aggCells_a, sel, List.drop_zero, td, ld, hcd, zd, gB_t, beq_self_eq_true, Nat.zero_add, h29', decide_true, bO_s, f1]
      simp only [List.length_cons, List.length_nil, Nat.zero_add, Nat.reduceAdd, Nat.le_refl, decide_true, gB_t]
end Go.Ab.tNearU
