/- NearCopies: the law. -/
import Derived.Test.YtcnenkckcemhdaaNrN1
set_option maxRecDepth 100000
set_option linter.unusedSimpArgs false
set_option linter.unusedVariables false
set_option linter.unusedSectionVars false
namespace Go.Ab.tNearU
open Go Go.Proofs

theorem M.s26 {m : M} (hp : m.pre.length = 23) (x : Int) : m.cells.set 26 (.int .i64 x) = ({ m with qp := x } : M).cells := by simp [M.cells, List.set_append, hp]
theorem flat_set1 {ds : List M} (hp : Pre ds) {i j : Nat} (hi : i < ds.length) (hj : j < 29) (x : AV) {d' : M} (hd : ds[i].cells.set j x = d'.cells) : (flat ds).set (i * 29 + j) x = flat (ds.set i d') := by
  have hl : (flat (ds.take i)).length = i * 29 := by
    rw [flat_len fun x hx => hp x (List.mem_of_mem_take hx), List.length_take]
    rw [Nat.min_eq_left (by omega)]
  have h1 := M.len (hp _ (List.getElem_mem hi))
  have e2 : ds.set i d' = ds.take i ++ d' :: ds.drop (i + 1) := by rw [List.set_eq_take_append_cons_drop, if_pos hi]
  rw [flat_split hi, e2]
  have e : flat (ds.take i ++ d' :: ds.drop (i + 1)) = flat (ds.take i) ++ d'.cells ++ flat (ds.drop (i + 1)) := by
    rw [flat_app]; simp only [flat, List.flatMap_cons, List.append_assoc]
  rw [e, ← hd, ← hl]
  rw [List.set_append, if_pos (by rw [List.length_append]; omega), List.set_append, if_neg (by omega), Nat.add_sub_cancel_left]
theorem flat_get' {ds : List M} (hp : Pre ds) {i j : Nat} (hi : i < ds.length) (hj : j < 29) : (flat ds)[i * 29 + j]? = ds[i].cells[j]? := by
  have h := flat_at hp hi
  rw [← h, List.getElem?_take_of_lt hj, List.getElem?_drop]
theorem flat_setm {ds : List M} (hp : Pre ds) {i : Nat} (hi : i < ds.length) (d : M) (hd : d.pre.length = 23) : setCells (flat ds) (i * 29) d.cells = flat (ds.set i d) := flat_set hp hi d hd
/-- Macroblocks in the heap whose index rows stand in the heap too. -/
structure GR (T0 T : Heap) (b q n : Nat) (ds : List M) : Prop where
  bq : b ≤ q
  lq : q < T.next
  cells : T.blk q = some (flat ds)
  len : ds.length = n
  pre : Pre ds
  row : ∀ d ∈ ds, HR T (q + 1) d.r
  next : T0.next ≤ T.next
  cx : T.cx = T0.cx
  old : ∀ j, j < b → T.blk j = T0.blk j
set_option maxHeartbeats 1000000 in
theorem mbs1_c {B : CallF} (hB : Silent B) (k : Nat) {S : Heap} {p q : Nat} {fi w : Int} {ms : List M} (h : Obj S p q fi w ms) : ∃ T ds, Cn B (k + 3) f_near_Near_Mbs 1 [.ptr p 0] S = some (.hs S.next 0 ms.length 29, T) ∧ GR S T S.next S.next ms.length ds := by
  rw [c_near_Near_Mbs_w1 _ _ _ _ (hB _ _ _ _ (by decide)), T_near_Near_Mbs_w1]
  have hg : ∀ m ∈ ms, Good 1000 m := fun m hm => (h.good m hm).1
  have hl := flat_len (Pre.of hg)
  have hf := h.hf
  have hm := h.hm
  have hrd := h.rd
  have hlen := hrd.len
  have hb1 : (S.alloc (repCells ms.length zM.cells)).blk p = some [.int .i64 fi, .int .i64 w, if ms = [] then .nils else .hs q 0 ms.length 29] := by rw [alloc_other _ _ (by have := h.lp; omega), h.blk]
  have hrow := rowOf_rd (hrd.ext (Ext.alloc S (repCells ms.length zM.cells))) (Pre.of hg)
  have hcell : (flat ms).all cell = true := flat_all fun m hm => (hg m hm).cell
  have hcopy : aCopy 29 (.hs S.next 0 ms.length 29) (if ms = [] then .nils else .hs q 0 ms.length 29) (S.alloc (repCells ms.length zM.cells)) = some (.int .i64 (ms.length : Nat), (S.alloc (repCells ms.length zM.cells)).set S.next (some (flat ms))) := by
    unfold aCopy
    simp only [hrow, alloc_blk, repCells_len, Nat.zero_add, Nat.le_refl, hcell, and_self, if_true, Nat.min_self]
    rw [List.take_of_length_le (by omega), setCells_all (by rw [repCells_len, hl])]
  simp only [eql_ptr, bO_s, asBool_b, Bool.false_eq_true, if_false, addV_p, seeV_p, h.blk, Nat.zero_add, List.getElem?_cons_zero, List.getElem?_cons_succ, hlen, asInt_i, gB_t, Int.toNat_natCast, ← zM_cells, hb1, hcopy]
  rw [gB_of (by simp; omega)]
  refine loop_ex (fun (o : Option (AV × Heap)) => ∃ (T : Heap) (ds : List M), o = some (.hs S.next 0 ms.length 29, T) ∧ GR S T S.next S.next ms.length ds)
    (fun i s => ∃ (T : Heap) (ds : List M), s = ([.hs S.next 0 ms.length 29, .int .i64 (ms.length : Nat), .int .i64 (i : Int)], T) ∧ S.next < T.next ∧ T.cx = S.cx ∧ (∀ j, j < S.next → T.blk j = S.blk j) ∧ T.blk S.next = some (flat ds) ∧ ds.length = ms.length ∧ Pre ds ∧ (∀ j (h1 : j < ds.length) (h2 : j < ms.length), i ≤ j → ds[j] = ms[j]) ∧ ∀ j (h1 : j < ds.length), j < i → HR T (S.next + 1) ds[j].r)
    (fun y => ∃ (T : Heap) (ds : List M), y = (0, [.hs S.next 0 ms.length 29], T) ∧ GR S T S.next S.next ms.length ds) ms.length
    ⟨_, ms, rfl, Nat.lt_succ_self _, rfl, fun j hj => by rw [set_other _ _ (by omega), alloc_other _ _ (by omega)], set_blk _ _ _, rfl, Pre.of hg, fun _ _ _ _ => rfl, fun j _ hj => absurd hj (Nat.not_lt_zero _)⟩ ?_ ?_
  · rintro i s hi ⟨T, ds, rfl, h1, h2, h3, h4, h5, h6, h7, h8⟩
    by_cases hin : i < ms.length
    · have hlt : (i : Int) < ms.length := by omega
      have hw : IntKind.wrap .i64 ((i : Int) + 1) = ((i + 1 : Nat) : Int) := by rw [wr _ (by omega)]; omega
      have hix : aIdx 29 (.hs S.next 0 ms.length 29) (i : Int) = some (.ptr S.next (i * 29)) := by simp [aIdx, hin]
      have hid : i < ds.length := by omega
      have hdi : ds[i] = ms[i] := h7 i hid hin (Nat.le_refl _)
      have hg1 := hg _ (List.getElem_mem hin)
      obtain ⟨d, T', e1, hE, hdp, hdc, hdr⟩ := mbCopy1_c hB k hg1 T
      have hfl := flat_len h6
      have hlen2 : i * 29 + 29 ≤ (flat ds).length := by omega
      have hat := flat_at h6 hid
      rw [hdi] at hat
      have hdp' : d.pre.length = 23 := by rw [hdp]; exact hg1.pre
      have ld := M.len hdp'
      have hT'b : T'.blk S.next = some (flat ds) := (hE.2.2 _ h1).trans h4
      have hEn := hE.1
      have hput : putV (.ptr S.next (i * 29)) d.cells T' = some (T'.set S.next (some (flat (ds.set i d)))) := by
        simp only [putV, hT'b, ld, hlen2, if_true]
        rw [flat_setm h6 hid d hdp']
      have keep : ∀ {b : Nat} {a : AV}, S.next + 1 ≤ b → HR T' b a → HR (T'.set S.next (some (flat (ds.set i d)))) (S.next + 1) a := by
        intro b a hb ha
        rcases ha with ha | ⟨id, n, cs, a1, a2, a3, a4, a5⟩
        · exact .inl ha
        · exact .inr ⟨id, n, cs, a1, by omega, a3, by rw [set_other _ _ (by omega)]; exact a4, a5⟩
      refine .inr ⟨hin, ([.hs S.next 0 ms.length 29, .int .i64 (ms.length : Nat), .int .i64 ((i + 1 : Nat) : Int)], T'.set S.next (some (flat (ds.set i d)))), ?_, _, ds.set i d, rfl, by rw [set_next]; omega, by show T'.cx = _; rw [hE.2.1]; exact h2, fun j hj => ?_, set_blk _ _ _, by rw [List.length_set]; exact h5, fun x hx => ?_, fun j a1 a2 a3 => ?_, fun j a1 a2 => ?_⟩
      · simp only [nthA_0, nthA_s, asInt_i, hlt, decide_true, if_true, hix, bO_s, seeV_p, h4, hlen2, gB_t, hat, e1, asAgg_a, ld, beq_self_eq_true, hdc, hput, hw]
      · rw [set_other _ _ (by omega), hE.2.2 j (by omega)]; exact h3 j hj
      · rcases List.mem_or_eq_of_mem_set hx with hx | rfl
        · exact h6 x hx
        · exact hdp'
      · rw [List.length_set] at a1
        rw [List.getElem_set_ne (by omega)]; exact h7 j a1 a2 (by omega)
      · rw [List.length_set] at a1
        by_cases hj : i = j
        · subst hj
          rw [List.getElem_set_self]; exact keep (by omega) hdr
        · rw [List.getElem_set_ne hj]; exact keep (Nat.le_refl _) ((h8 j a1 (by omega)).ext hE)
    · have : i = ms.length := by omega
      subst this
      have hlt : ¬ ((ms.length : Int) < ms.length) := by omega
      refine .inl ⟨_, ?_, T, ds, rfl, Nat.le_refl _, h1, h4, h5, h6, fun d hd => ?_, by omega, h2, h3⟩
      · simp only [nthA_0, nthA_s, asInt_i, hlt, decide_false, Bool.false_eq_true, if_false]
      · obtain ⟨j, hj, rfl⟩ := List.getElem_of_mem hd
        exact h8 j hj (by omega)
  · rintro y ⟨T, ds, rfl, hG⟩
    refine ⟨T, ds, ?_, hG⟩
    simp only [sel, nthA_0]
    rw [tr_id2 rfl]
theorem GR.qp {T0 T : Heap} {b q n : Nat} {ds : List M} (h : GR T0 T b q n ds) {i : Nat} (hi : i < n) (x : Int) : ∃ T' ds', putV (.ptr q (i * 29 + 26)) [.int .i64 x] T = some T' ∧ GR T0 T' b q n ds' := by
  have hl := h.len
  have hfl := flat_len h.pre
  have hid : i < ds.length := by omega
  have hp := h.pre _ (List.getElem_mem hid)
  refine ⟨T.set q (some (flat (ds.set i { ds[i] with qp := x }))), ds.set i { ds[i] with qp := x }, ?_, h.bq, h.lq, set_blk _ _ _, by rw [List.length_set]; exact hl, fun d hd => ?_, fun d hd => ?_, h.next, h.cx, fun j hj => by rw [set_other _ _ (by have := h.bq; omega)]; exact h.old j hj⟩
  · simp only [putV, h.cells, List.length_cons, List.length_nil, setCells]
    rw [if_pos (by omega), flat_set1 h.pre hid (by omega) _ (M.s26 hp x)]
  · rcases List.mem_or_eq_of_mem_set hd with hd | rfl
    · exact h.pre d hd
    · exact hp
  · have : HR T (q + 1) d.r := by
      rcases List.mem_or_eq_of_mem_set hd with hd | rfl
      · exact h.row d hd
      · show HR T (q + 1) ds[i].r
        exact h.row _ (List.getElem_mem hid)
    rcases this with ha | ⟨id, n', cs, a1, a2, a3, a4, a5⟩
    · exact .inl ha
    · exact .inr ⟨id, n', cs, a1, a2, a3, by rw [set_other _ _ (by omega)]; exact a4, a5⟩
theorem GR.set {T0 T : Heap} {b q n : Nat} {ds : List M} (h : GR T0 T b q n ds) {id : Nat} (h1 : q + 1 ≤ id) {cs : List AV} (h2 : T.blk id = some cs) {k : Nat} (hI : ints cs) (x : Int) : GR T0 (T.set id (some (cs.set k (.int .i64 x)))) b q n ds := by
  refine ⟨h.bq, h.lq, by rw [set_other _ _ (by omega)]; exact h.cells, h.len, h.pre, fun d hd => ?_, h.next, h.cx, fun j hj => by rw [set_other _ _ (by have := h.bq; omega)]; exact h.old j hj⟩
  rcases h.row d hd with ha | ⟨id', n', cs', a1, a2, a3, a4, a5, a6, a7⟩
  · exact .inl ha
  · by_cases he : id' = id
    · subst he
      rw [h2] at a4
      cases a4
      refine .inr ⟨id', n', cs.set k (.int .i64 x), a1, a2, a3, set_blk _ _ _, by rw [List.length_set]; exact a5, a6, fun c hc => ?_⟩
      rcases List.mem_or_eq_of_mem_set hc with hc | rfl
      · exact hI c hc
      · exact ⟨x, rfl⟩
    · exact .inr ⟨id', n', cs', a1, a2, a3, by rw [set_other _ _ he]; exact a4, a5, a6, a7⟩
theorem same_simL {ms : List M} (hg : ∀ m ∈ ms, Good 1000 m) : ∀ i (h : i < (ms.map M.norm).length) (h' : i < ms.length), Sim (ms.map M.norm)[i] ms[i] := fun i h h' => by
  rw [List.getElem_map]; exact (hg _ (List.getElem_mem h')).sim
end Go.Ab.tNearU
