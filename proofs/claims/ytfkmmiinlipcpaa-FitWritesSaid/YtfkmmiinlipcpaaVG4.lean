/- A block is read: vblock.Read, the way of success. -/
import Derived.Test.YtfkmmiinlipcpaaVG3
set_option maxRecDepth 100000
set_option linter.unusedSimpArgs false
set_option linter.unusedVariables false
set_option linter.unusedSectionVars false
namespace Go.Ab.tV
open Go Go.Proofs

theorem Blk.good2 {l : List Int} (h : Blk l) {cls : Int} (hc : 0 ≤ cls ∧ cls ≤ 4) : Good ⟨0, cls, l.length, ((rst l).1.length : Nat), (onesN (rst l).1 : Nat)⟩ := by
  obtain ⟨h1, h2, h3, h4⟩ := h.tot
  refine ⟨.inl rfl, (sizedI_iff _).1 h.sz, fun _ => ⟨hc, ⟨by simp only; omega, by simp only; omega⟩, by simp only; omega, ?_⟩, fun h => (by cases h), fun h => (by cases h)⟩
  simp only
  rw [m3_nat]; omega
theorem tok_dec2 {l : List Int} (h : Blk l) {cls : Int} (hc : 0 ≤ cls ∧ cls ≤ 4) {s : ByteArray} {a : Nat} (hh : Has s a (tokP cls l.length ((rst l).1.length : Nat) (onesN (rst l).1 : Nat)).2) :
    tokR s a cls l.length = ((((rst l).1.length : Nat) : Int), ((onesN (rst l).1 : Nat) : Int), 0, a + (tokP cls l.length ((rst l).1.length : Nat) (onesN (rst l).1 : Nat)).2.length) := (tok_good (h.good2 hc) rfl).2 s a hh
theorem oneD_1 {β : Type} (f : Nat) (xs : List AV) (K0 : Option β) (K : List AV → Option β) : oneD [(f, xs)] f K0 K = K xs := by simp [oneD]
/-- What lasts while a block is read: the boxes, the reader and its copy. -/
structure RS (S : Heap) (p x bc : Nat) (s : ByteArray) (a : Nat) (T : Heap) (a' : Nat) (v : AV) : Prop where
  br : T.blk S.next = some [.ptr p 0]
  bb : T.blk (S.next + 1) = some [v]
  be : T.blk (S.next + 2) = some [.int .i64 0]
  bc' : T.blk bc = some [.ptr x 0]
  rx : Rdr T x s a'
  old : ∀ j, j < S.next → T.blk j = S.blk j
  nx : bc < T.next
  cx : T.cx = (S.cx.1, [(f_vblock_Read_1, [.ptr (S.next + 2) 0, .ptr (S.next + 1) 0, .ptr S.next 0, .ptr bc 0])])
  ox : S.next + 2 < x ∧ x < bc
theorem RS.gen {S : Heap} {p x bc : Nat} {s : ByteArray} {a : Nat} {T T' : Heap} {a' a'' : Nat} {v : AV} (h : RS S p x bc s a T a' v) (hc : T'.cx = T.cx) (hn : T.next ≤ T'.next) (hk : ∀ j, j ≤ bc → j ≠ x → T'.blk j = T.blk j) (hx : Rdr T' x s a'') : RS S p x bc s a T' a'' v := by
  have := h.ox
  exact ⟨(hk _ (by omega) (by omega)).trans h.br, (hk _ (by omega) (by omega)).trans h.bb, (hk _ (by omega) (by omega)).trans h.be, (hk _ (by omega) (by omega)).trans h.bc', hx, fun j hj => (hk j (by omega) (by omega)).trans (h.old j hj), by have := h.nx; omega, hc.trans h.cx, h.ox⟩
theorem RS.fr {S : Heap} {p x bc : Nat} {s : ByteArray} {a : Nat} {T T' : Heap} {a' a'' : Nat} {v : AV} (h : RS S p x bc s a T a' v) (f : Fr T T' [x]) (hx : Rdr T' x s a'') : RS S p x bc s a T' a'' v :=
  h.gen f.2.1 f.1 (fun j hj hjx => f.2.2 j (by have := h.nx; omega) (by simp; exact hjx)) hx
theorem RS.fr0 {S : Heap} {p x bc : Nat} {s : ByteArray} {a : Nat} {T T' : Heap} {a' : Nat} {v : AV} (h : RS S p x bc s a T a' v) (f : Fr T T' []) : RS S p x bc s a T' a' v :=
  h.gen f.2.1 f.1 (fun j hj hjx => f.2.2 j (by have := h.nx; omega) (by simp)) (h.rx.fr f (by simp))
theorem rdr_set {T : Heap} {x : Nat} {s : ByteArray} {a j : Nat} (h : Rdr T x s a) (hj : j ≠ x) (c : Option (List AV)) : Rdr (T.set j c) x s a := ⟨by rw [set_other _ _ (Ne.symm hj)]; exact h.blk, h.lt, h.sz, h.le⟩
theorem RS.sete {S : Heap} {p x bc : Nat} {s : ByteArray} {a : Nat} {T : Heap} {a' : Nat} {v : AV} (h : RS S p x bc s a T a' v) : putV (.ptr (S.next + 2) 0) [.int .i64 0] T = some (T.set (S.next + 2) (some [.int .i64 0])) ∧ RS S p x bc s a (T.set (S.next + 2) (some [.int .i64 0])) a' v := by
  have := h.ox
  refine ⟨put1_0' h.be, ⟨?_, ?_, set_blk _ _ _, ?_, rdr_set h.rx (by omega) _, fun j hj => ?_, h.nx, h.cx, h.ox⟩⟩
  · rw [set_other _ _ (by omega)]; exact h.br
  · rw [set_other _ _ (by omega)]; exact h.bb
  · rw [set_other _ _ (by omega)]; exact h.bc'
  · rw [set_other _ _ (by omega)]; exact h.old j hj
theorem RS.setb {S : Heap} {p x bc : Nat} {s : ByteArray} {a : Nat} {T : Heap} {a' : Nat} {v : AV} (h : RS S p x bc s a T a' v) (w : AV) : putV (.ptr (S.next + 1) 0) [w] T = some (T.set (S.next + 1) (some [w])) ∧ RS S p x bc s a (T.set (S.next + 1) (some [w])) a' w := by
  have := h.ox
  refine ⟨put1_0' h.bb, ⟨?_, set_blk _ _ _, ?_, ?_, rdr_set h.rx (by omega) _, fun j hj => ?_, h.nx, h.cx, h.ox⟩⟩
  · rw [set_other _ _ (by omega)]; exact h.br
  · rw [set_other _ _ (by omega)]; exact h.be
  · rw [set_other _ _ (by omega)]; exact h.bc'
  · rw [set_other _ _ (by omega)]; exact h.old j hj
section
variable {B : CallF} (hB : Silent B) (k : Nat) {S : Heap} {p : Nat} {s : ByteArray} {a : Nat}
include hB
/-- The end: the deferred call, and the results. -/
theorem read_end (G : Nat → Option (List AV)) (hr : Rdr S p s a) {x bc n : Nat} {l : List Int} {T : Heap} (h : RS S p x bc s a T (a + n) (isl l)) :
    ∃ T' S', T_vblock_Read_1 ctlV G (Cn B (k + 3)) (.ptr (S.next + 2) 0) (.ptr (S.next + 1) 0) (.ptr S.next 0) (.ptr bc 0) T = some (.tup [], T') ∧ T'.blk (S.next + 1) = some [isl l] ∧ T'.blk (S.next + 2) = some [.int .i64 0] ∧ S' = tidy S T' ∧ Rdr S' p s (a + n) ∧ Fr S S' [p] := by
  unfold T_vblock_Read_1
  have hox := h.ox
  have hplt := hr.lt
  have hRp : Rdr T p s a := ⟨(h.old p hplt).trans hr.blk, by have := h.nx; omega, hr.sz, hr.le⟩
  have e1 := pos_c hB (k + 2) h.rx
  have e2 := pos_c hB (k + 2) hRp
  have hsz := hr.sz
  have hle := h.rx.le
  have w1 : IntKind.wrap .i64 (((a + n : Nat) : Int) - (a : Int)) = (n : Int) := by rw [wr _ (by omega)]; omega
  obtain ⟨T', e3, hR', f3⟩ := skip_c hB k n hRp hle
  have z0 : ((0 : Int) != 0) = false := rfl
  refine ⟨T', tidy S T', by simp only [zB, decide_true, decide_false, Bool.false_eq_true, if_false, if_true, List.getElem?_cons_zero, List.getElem?_cons_succ, beq_self_eq_true, bne_self_eq_false, Int.reduceBNe, Int.reduceBEq, Int.reduceLT, Int.reduceGT, Int.reduceLE, Int.reduceGE, Nat.reduceAdd, Nat.reduceMul, Nat.reduceLeDiff, h.be, z0, h.br, h.bc', e1, e2, w1, e3], ?_, ?_, rfl, ⟨hR'.blk, hR'.lt, hR'.sz, hR'.le⟩, ?_⟩
  · exact (f3.get (by have := h.nx; omega) (by simp; omega)).trans h.bb
  · exact (f3.get (by have := h.nx; omega) (by simp; omega)).trans h.be
  · refine ⟨?_, rfl, fun j hj hn => ?_⟩
    · show S.next ≤ T'.next
      have := f3.1; have := h.nx; omega
    · show T'.blk j = S.blk j
      exact (f3.get (by have := h.nx; omega) hn).trans (h.old j hj)
theorem vread_c (hr : Rdr S p s a) {cls : Int} (hc : 0 ≤ cls ∧ cls ≤ 4) {l : List Int} (hl : Blk l) {K : List Bool} (hK : blkC cls l = some K) (hh : Has s a K) :
    ∃ S', Cn B (k + 10) f_vblock_Read 0 [.ptr p 0, .int .i64 cls, .int .i64 (l.length : Int)] S = some (.tup [isl l, .int .i64 0], S') ∧ Rdr S' p s (a + K.length) ∧ Fr S S' [p] := by
  rw [c_vblock_Read _ _ _ _ _ _ (hB.no _ _ _ _ (kn_no (by decide))), T_vblock_Read]
  have hplt := hr.lt
  have hll := hl.len
  have htot := hl.tot
  have hzr := hl.zr
  have hca : cell (.ptr p 0) = true := rfl
  have n2 : ∀ n : Nat, n + 1 + 1 = n + 2 := fun _ => rfl
  have on : (openD S).next = S.next := rfl
  obtain ⟨U, hU⟩ : ∃ U, U = (((openD S).alloc [.ptr p 0]).alloc [.nils]).alloc [.int .i64 0] := ⟨_, rfl⟩
  have un : U.next = S.next + 3 := by rw [hU]; rfl
  have ub : ∀ j, j < S.next → U.blk j = S.blk j := fun j hj => by
    rw [hU, alloc_other _ _ (by show j ≠ S.next + 1 + 1; omega), alloc_other _ _ (by show j ≠ S.next + 1; omega), alloc_other _ _ (by show j ≠ S.next; omega)]; rfl
  have u0 : U.blk S.next = some [.ptr p 0] := by
    rw [hU, alloc_other _ _ (by show S.next ≠ S.next + 1 + 1; omega), alloc_other _ _ (by show S.next ≠ S.next + 1; omega)]; exact alloc_blk (openD S) _
  have u1 : U.blk (S.next + 1) = some [.nils] := by
    rw [hU, alloc_other _ _ (by show S.next + 1 ≠ S.next + 1 + 1; omega)]; exact alloc_blk ((openD S).alloc _) _
  have u2 : U.blk (S.next + 2) = some [.int .i64 0] := by rw [hU]; exact alloc_blk (((openD S).alloc _).alloc _) _
  have ux : U.cx = (S.cx.1, []) := by rw [hU]; rfl
  have hRU : Rdr U p s a := ⟨(ub p hplt).trans hr.blk, by omega, hr.sz, hr.le⟩
  have c1 : ¬ cls < 0 := by omega
  have c2 : ¬ cls > 4 := by omega
  have e1 := vsized_c hB (k + 8) (S := U) (l.length : Int)
  rw [hl.sz] at e1
  obtain ⟨V, e2, rV, fV⟩ := rcopy_c hB (k + 8) hRU
  have vn := fV.1
  obtain ⟨x, hx⟩ : ∃ x, x = U.next := ⟨_, rfl⟩
  rw [← hx] at e2 rV
  have hxlt := rV.lt
  obtain ⟨bc, hbc⟩ : ∃ bc, bc = V.next := ⟨_, rfl⟩
  obtain ⟨V1, hV1⟩ : ∃ V1, V1 = V.alloc [.nilp] := ⟨_, rfl⟩
  have v1b : V1.blk bc = some [.nilp] := by rw [hV1, hbc]; exact alloc_blk _ _
  have e3 := put1_0' (x := .ptr x 0) v1b
  obtain ⟨W, hW⟩ : ∃ W, W = V1.set bc (some [.ptr x 0]) := ⟨_, rfl⟩
  rw [← hW] at e3
  have wk : ∀ j, j < bc → W.blk j = V.blk j := fun j hj => by rw [hW, set_other _ _ (by omega), hV1, alloc_other _ _ (by omega)]
  have hcx2 : cell (.ptr x 0) = true := rfl
  obtain ⟨P, hP⟩ : ∃ P, P = pushD W f_vblock_Read_1 [.ptr (S.next + 2) 0, .ptr (S.next + 1) 0, .ptr S.next 0, .ptr bc 0] := ⟨_, rfl⟩
  have pk : ∀ j, P.blk j = W.blk j := fun j => by rw [hP]; rfl
  have hRS : RS S p x bc s a P a .nils := by
    refine ⟨?_, ?_, ?_, ?_, ⟨?_, ?_, rV.sz, rV.le⟩, fun j hj => ?_, ?_, ?_, ⟨by omega, by omega⟩⟩
    · rw [pk, wk _ (by omega)]; exact (fV.get (by omega) (by simp)).trans u0
    · rw [pk, wk _ (by omega)]; exact (fV.get (by omega) (by simp)).trans u1
    · rw [pk, wk _ (by omega)]; exact (fV.get (by omega) (by simp)).trans u2
    · rw [pk, hW, set_blk]
    · rw [pk, wk _ (by omega)]; exact rV.blk
    · rw [hP, hW, hV1]; show x < V.next + 1; omega
    · rw [pk, wk _ (by omega)]; exact (fV.get (by omega) (by simp)).trans (ub j hj)
    · rw [hP, hW, hV1]; show bc < V.next + 1; omega
    · have wx : W.cx = (S.cx.1, []) := by rw [hW, hV1]; exact fV.2.1.trans ux
      rw [hP]; unfold pushD; rw [wx]
  have ptk : Has s a (tokP cls l.length (((rst l).1.length : Nat) : Int) ((onesN (rst l).1 : Nat) : Int)).2 := by
    unfold blkC at hK
    split at hK
    · rw [Option.some.inj hK]; exact hh
    · simp only [Option.map_eq_some_iff] at hK
      obtain ⟨b, hb, rfl⟩ := hK
      simp only [Has.app] at hh
      exact hh.1.1.1.1
  have hdec := tok_dec2 hl hc ptk
  obtain ⟨P1, e4, r4, f4⟩ := token_c hB k hRS.rx cls l.length
  rw [hdec] at e4 r4
  obtain ⟨tok, htok⟩ : ∃ tok, tok = (tokP cls l.length (((rst l).1.length : Nat) : Int) ((onesN (rst l).1 : Nat) : Int)).2 := ⟨_, rfl⟩
  rw [← htok] at r4 ptk
  have hRS1 := hRS.fr f4 r4
  obtain ⟨e5, hRS2⟩ := hRS1.sete
  obtain ⟨P2, hP2⟩ : ∃ P2, P2 = P1.set (S.next + 2) (some [.int .i64 0]) := ⟨_, rfl⟩
  rw [← hP2] at e5 hRS2
  have z0 : ((0 : Int) != 0) = false := rfl
  have ffz : ∀ T : Heap, fz 40 (.tup [isl l, .int .i64 0]) T = some (.tup [isl l, .int .i64 0], T) := fun T => fz_tup (fzM_c (fz_isl 38 l T) (fzM_c (fz_int 38 _ 0 _) rfl))
  have hu0 := u0
  simp only [zB, decide_true, decide_false, Bool.false_eq_true, if_false, if_true, List.getElem?_cons_zero, List.getElem?_cons_succ, beq_self_eq_true, bne_self_eq_false, Int.reduceBNe, Int.reduceBEq, Int.reduceLT, Int.reduceGT, Int.reduceLE, Int.reduceGE, Nat.reduceAdd, Nat.reduceMul, Nat.reduceLeDiff, hca, on, alloc_next, n2, ← hU, u0, c1, c2, e1, e2, ← hbc, ← hV1, hcx2, List.all_cons, List.all_nil, e3, ← hP, hRS.bc', e4, e5, hRS2.be, z0]
  by_cases h0 : (rst l).1 = []
  · have hKt : K = tok := by
      unfold blkC at hK
      rw [if_pos h0] at hK
      rw [htok]; exact (Option.some.inj hK).symm
    have c3 : (((rst l).1.length : Int) == 0) = true := by rw [h0]; rfl
    obtain ⟨k1, k2, k3, k4⟩ := mk12 (n := l.length) (by omega)
    have hlz := rst_zero h0
    have hlne : l ≠ [] := fun h => by rw [h] at hll; simp at hll
    have his : isl l = .is l.length (List.replicate l.length (.int .i64 0)) := by
      rw [isl_is2 hlne, ints_rep2, ← hlz]
    obtain ⟨e6, hRS3⟩ := hRS2.setb (isl l)
    obtain ⟨P3, hP3⟩ : ∃ P3, P3 = P2.set (S.next + 1) (some [isl l]) := ⟨_, rfl⟩
    rw [← hP3] at e6 hRS3
    obtain ⟨e7, hRS4⟩ := hRS3.sete
    obtain ⟨P4, hP4⟩ : ∃ P4, P4 = P3.set (S.next + 2) (some [.int .i64 0]) := ⟨_, rfl⟩
    rw [← hP4] at e7 hRS4
    obtain ⟨T', S', q1, q2, q3, q4, q5, q6⟩ := read_end hB (k + 6) (fun _ => none) hr hRS4
    rw [← hKt] at q5
    have hx4 := hRS4.cx
    rw [his] at e6
    refine ⟨S', ?_, q5, q6⟩
    simp only [zB, decide_true, decide_false, Bool.false_eq_true, if_false, if_true, List.getElem?_cons_zero, List.getElem?_cons_succ, beq_self_eq_true, bne_self_eq_false, Int.reduceBNe, Int.reduceBEq, Int.reduceLT, Int.reduceGT, Int.reduceLE, Int.reduceGE, Nat.reduceAdd, Nat.reduceMul, Nat.reduceLeDiff, c3, k1, k2, k3, k4, Int.toNat_natCast, e6, e7, hx4, oneD_1, q1, q2, q3, ffz, q4]
  · have hLp := List.length_pos_iff.2 h0
    have c3 : (((rst l).1.length : Int) == 0) = false := by simp; exact h0
    unfold blkC at hK
    rw [if_neg h0] at hK
    simp only [Option.map_eq_some_iff] at hK
    obtain ⟨b, hb, hKe⟩ := hK
    rw [← htok] at hKe
    rw [← hKe] at hh
    rw [Has.app, Has.app, Has.app, Has.app] at hh
    obtain ⟨⟨⟨⟨hh1, hh2⟩, hh3⟩, hh4⟩, hh5⟩ := hh
    have hol : (onesB ((rst l).1.take (onesN (rst l).1))).length = onesN (rst l).1 := by simp only [onesB, List.length_map, List.length_take]; omega
    have hh23 : Has s (a + tok.length) (onesB ((rst l).1.take (onesN (rst l).1)) ++ b) := by
      rw [Has.app]
      refine ⟨hh2, ?_⟩
      rw [List.length_append, ← Nat.add_assoc] at hh3; exact hh3
    obtain ⟨P3, e6, r6, f6⟩ := levels_c hB (k + 4) hRS2.rx hl h0 hb hh23
    have hRS3 := hRS2.fr f6 r6
    obtain ⟨e7, hRS4⟩ := hRS3.sete
    obtain ⟨P4, hP4⟩ : ∃ P4, P4 = P3.set (S.next + 2) (some [.int .i64 0]) := ⟨_, rfl⟩
    rw [← hP4] at e7 hRS4
    have hzp : a + (tok ++ onesB ((rst l).1.take (onesN (rst l).1)) ++ b).length = a + tok.length + onesN (rst l).1 + b.length := by simp only [List.length_append, hol]; omega
    rw [hzp] at hh4
    have hzg := (zer_good (size := (l.length : Int)) (total := (((rst l).1.length : Nat) : Int)) (z := ((rZ l : Nat) : Int)) ((sizedI_iff _).1 hl.sz) ⟨by omega, by omega⟩ ⟨by omega, by omega⟩).2 _ _ hh4
    obtain ⟨P5, e8, r8, f8⟩ := zeros_c hB (k + 6) hRS4.rx l.length (((rst l).1.length : Nat) : Int)
    rw [hzg] at e8 r8
    have hRS5 := hRS4.fr f8 r8
    obtain ⟨e9, hRS6⟩ := hRS5.sete
    obtain ⟨P6, hP6⟩ : ∃ P6, P6 = P5.set (S.next + 2) (some [.int .i64 0]) := ⟨_, rfl⟩
    rw [← hP6] at e9 hRS6
    obtain ⟨zb, hzb⟩ : ∃ zb, zb = (zerP l.length (((rst l).1.length : Nat) : Int) ((rZ l : Nat) : Int)).2 := ⟨_, rfl⟩
    rw [← hzb] at hRS6 hh5 hKe
    have w1 : IntKind.wrap .i64 (((rst l).1.length : Int) - 1) = ((rst l).2.1.length : Int) := by rw [(rst_sum l).2, wr _ (by omega)]; omega
    have hrp : a + (tok ++ onesB ((rst l).1.take (onesN (rst l).1)) ++ b ++ zb).length = a + tok.length + onesN (rst l).1 + b.length + zb.length := by simp only [List.length_append, hol]; omega
    rw [hrp] at hh5
    have hKl : K.length = tok.length + onesN (rst l).1 + b.length + zb.length + (runsP (rZ l) (rst l).2.1).length := by rw [← hKe]; simp only [List.length_append, hol]
    simp only [zB, decide_true, decide_false, Bool.false_eq_true, if_false, if_true, List.getElem?_cons_zero, List.getElem?_cons_succ, beq_self_eq_true, bne_self_eq_false, Int.reduceBNe, Int.reduceBEq, Int.reduceLT, Int.reduceGT, Int.reduceLE, Int.reduceGE, Nat.reduceAdd, Nat.reduceMul, Nat.reduceLeDiff, c3, hRS2.bc', e6, isl_cell, List.all_cons, List.all_nil, e7, hRS4.be, z0, hRS4.bc', e8, e9, hRS6.be, w1]
    have hss := hzr.2 h0
    obtain ⟨M, hM⟩ : ∃ M, M = (rst l).2.1 := ⟨_, rfl⟩
    have hMl := (rst_sum l).2
    rw [← hM] at hh5 hKl hss hMl ⊢
    refine loop_meas (fun o => ∃ S', o = some (AV.tup [isl l, .int .i64 0], S') ∧ Rdr S' p s (a + K.length) ∧ Fr S S' [p]) (fun m st => ∃ (i left : Nat) (T : Heap) (q pos : Nat), i + m = M.length ∧ st = ([.int .i64 (l.length : Int), .ptr (S.next + 1) 0, .ptr (S.next + 2) 0, .ptr bc 0, .agg [isl (rst l).1, .int .i64 (rZ l : Int), hv (natI (M.take i)) q], .int .i64 (left : Int), .int .i64 (M.length : Int), .int .i64 (i : Int)], T) ∧
        RS S p x bc s a T pos .nils ∧ HR T (natI (M.take i)) q ∧ (natI (M.take i) ≠ [] → bc < q) ∧ (M.drop i).sum ≤ left ∧ left ≤ rZ l ∧ Has s pos (runsP left (M.drop i)) ∧ pos + (runsP left (M.drop i)).length = a + K.length) M.length
      ⟨0, rZ l, P6, 0, a + tok.length + onesN (rst l).1 + b.length + zb.length, by omega, rfl, hRS6, fun h => absurd rfl h, fun h => absurd rfl h, by rw [List.drop_zero]; exact hss, Nat.le_refl _, by rw [List.drop_zero]; exact hh5, by rw [List.drop_zero, hKl]; omega⟩ ?_
    rintro m st ⟨i, left, T, q, pos, him, rfl, hRT, hHT, hqT, hsm, hlz, hhr, hpos⟩
    have hnx := hRT.nx
    have hox := hRT.ox
    cases m with
    | succ m =>
      have hi : i < M.length := by omega
      have c4 : (i : Int) < (M.length : Int) := by omega
      have w2 : IntKind.wrap .i64 ((i : Int) + 1) = ((i + 1 : Nat) : Int) := by rw [wr _ (by omega)]; omega
      rw [List.drop_eq_getElem_cons hi, List.sum_cons] at hsm
      rw [List.drop_eq_getElem_cons hi] at hhr hpos
      simp only [runsP, Has.app, List.length_append] at hhr hpos
      have hnt : natI (M.take (i + 1)) = natI (M.take i) ++ [((M[i] : Nat) : Int)] := by
        rw [List.take_add_one, List.getElem?_eq_getElem hi, Option.toList_some, natI_app]; rfl
      have htl : (natI (M.take i)).length ≤ 16 := by rw [natI_len, List.length_take]; omega
      by_cases hl0 : left = 0
      · subst hl0
        have hM0 : M[i] = 0 := by omega
        have c5 : ¬ (((0 : Nat) : Int) > 0) := by omega
        obtain ⟨T1, e10, hH1, n1, x1, o1⟩ := appI (0 : Int) hHT (by omega)
        rw [show ((0 : Int)) = ((M[i] : Nat) : Int) by rw [hM0]; rfl, ← hnt] at e10 hH1
        rw [show ((M[i] : Nat) : Int) = 0 by rw [hM0]; rfl] at e10
        have hk : ∀ j, j ≤ bc → T1.blk j = T.blk j := fun j hj => o1 j (by omega) (by
          by_cases hn : natI (M.take i) = []
          · exact .inr hn
          · exact .inl (by have := hqT hn; omega))
        have w3 : IntKind.wrap .i64 (((0 : Nat) : Int) - 0) = ((0 : Nat) : Int) := by rw [wr _ (by omega)]; rfl
        rw [hM0] at hhr hpos
        have hz1 : (runP ((0 : Nat) : Int) ((0 : Nat) : Int)).2.length = 0 := rfl
        rw [hz1] at hhr hpos
        rw [Nat.sub_self] at hhr hpos
        exact .inr ⟨m, ([.int .i64 (l.length : Int), .ptr (S.next + 1) 0, .ptr (S.next + 2) 0, .ptr bc 0, .agg [isl (rst l).1, .int .i64 (rZ l : Int), hv (natI (M.take (i + 1))) T.next], .int .i64 ((0 : Nat) : Int), .int .i64 (M.length : Int), .int .i64 ((i + 1 : Nat) : Int)], T1), by omega, by simp only [zB, decide_true, decide_false, Bool.false_eq_true, if_false, if_true, List.getElem?_cons_zero, List.getElem?_cons_succ, beq_self_eq_true, bne_self_eq_false, Int.reduceBNe, Int.reduceBEq, Int.reduceLT, Int.reduceGT, Int.reduceLE, Int.reduceGE, Nat.reduceAdd, Nat.reduceMul, Nat.reduceLeDiff, c4, c5, e10, hv_cell, List.all_cons, List.all_nil, List.length_cons, List.length_nil, set3_2, w3, w2], i + 1, 0, T1, T.next, pos, by omega, rfl,
          hRT.gen x1 (by omega) (fun j hj _ => hk j hj) ⟨(hk x (by omega)).trans hRT.rx.blk, by have := hRT.rx.lt; omega, hRT.rx.sz, hRT.rx.le⟩, hH1, fun _ => hnx, by omega, Nat.zero_le _, hhr.2, by omega⟩
      · have c5 : (left : Int) > 0 := by omega
        have hrg := (run_good (left := (left : Int)) (run := ((M[i] : Nat) : Int)) ⟨by omega, by omega⟩ ⟨by omega, by omega⟩).2 _ _ hhr.1
        obtain ⟨T0, e10, r10, f10⟩ := run_c hB (k + 5) hRT.rx (left : Int)
        rw [hrg] at e10 r10
        have hRT0 := hRT.fr f10 r10
        obtain ⟨e11, hRT1⟩ := hRT0.sete
        obtain ⟨T1, hT1⟩ : ∃ T1, T1 = T0.set (S.next + 2) (some [.int .i64 0]) := ⟨_, rfl⟩
        rw [← hT1] at e11 hRT1
        have t1n : T1.next = T0.next := by rw [hT1]; rfl
        have t0n := f10.1
        have hH0 : HR T1 (natI (M.take i)) q := fun hn => by
          have hq := hqT hn
          refine ⟨?_, by have := (hHT hn).2; omega⟩
          rw [hT1, set_other _ _ (by omega)]
          exact (f10.get (hHT hn).2 (by simp; omega)).trans (hHT hn).1
        obtain ⟨T2, e12, hH2, n2', x2, o2⟩ := appI ((M[i] : Nat) : Int) hH0 (by omega)
        rw [← hnt] at e12 hH2
        have hnx1 := hRT1.nx
        have hk : ∀ j, j ≤ bc → T2.blk j = T1.blk j := fun j hj => o2 j (by omega) (by
          by_cases hn : natI (M.take i) = []
          · exact .inr hn
          · exact .inl (by have := hqT hn; omega))
        have w3 : IntKind.wrap .i64 ((left : Int) - ((M[i] : Nat) : Int)) = ((left - M[i] : Nat) : Int) := by rw [wr _ (by omega)]; omega
        exact .inr ⟨m, ([.int .i64 (l.length : Int), .ptr (S.next + 1) 0, .ptr (S.next + 2) 0, .ptr bc 0, .agg [isl (rst l).1, .int .i64 (rZ l : Int), hv (natI (M.take (i + 1))) T1.next], .int .i64 ((left - M[i] : Nat) : Int), .int .i64 (M.length : Int), .int .i64 ((i + 1 : Nat) : Int)], T2), by omega, by simp only [zB, decide_true, decide_false, Bool.false_eq_true, if_false, if_true, List.getElem?_cons_zero, List.getElem?_cons_succ, beq_self_eq_true, bne_self_eq_false, Int.reduceBNe, Int.reduceBEq, Int.reduceLT, Int.reduceGT, Int.reduceLE, Int.reduceGE, Nat.reduceAdd, Nat.reduceMul, Nat.reduceLeDiff, c4, c5, hRT.bc', e10, e11, hRT1.be, z0, e12, hv_cell, List.all_cons, List.all_nil, List.length_cons, List.length_nil, set3_2, w3, w2], i + 1, left - M[i], T2, T1.next, pos + (runP (left : Int) ((M[i] : Nat) : Int)).2.length, by omega, rfl,
          hRT1.gen x2 (by omega) (fun j hj _ => hk j hj) ⟨(hk x (by omega)).trans hRT1.rx.blk, by have := hRT1.rx.lt; omega, hRT1.rx.sz, hRT1.rx.le⟩, hH2, fun _ => hnx1, by omega, by omega, hhr.2, by omega⟩
    | zero =>
      have hi : i = M.length := by omega
      subst hi
      have c4 : ¬ ((M.length : Int) < (M.length : Int)) := by omega
      rw [List.drop_length] at hpos
      simp only [runsP, List.length_nil, Nat.add_zero] at hpos
      rw [List.take_length] at hHT hqT ⊢
      refine .inl ⟨(0, [.int .i64 (l.length : Int), .ptr (S.next + 1) 0, .ptr (S.next + 2) 0, .agg [isl (rst l).1, .int .i64 (rZ l : Int), hv (natI M) q]], T), by simp only [zB, decide_true, decide_false, Bool.false_eq_true, if_false, if_true, List.getElem?_cons_zero, List.getElem?_cons_succ, beq_self_eq_true, bne_self_eq_false, Int.reduceBNe, Int.reduceBEq, Int.reduceLT, Int.reduceGT, Int.reduceLE, Int.reduceGE, Nat.reduceAdd, Nat.reduceMul, Nat.reduceLeDiff, c4], ?_⟩
      have hil : IL T (hv (natI M) q) (natI (rst l).2.1) q := by rw [← hM]; exact hv_il hHT
      obtain ⟨T1, e10, f10⟩ := block_c hB (k + 7) hl hil
      have hRT1 := hRT.fr0 f10
      obtain ⟨e11, hRT2⟩ := hRT1.setb (isl l)
      obtain ⟨T2, hT2⟩ : ∃ T2, T2 = T1.set (S.next + 1) (some [isl l]) := ⟨_, rfl⟩
      rw [← hT2] at e11 hRT2
      obtain ⟨e12, hRT3⟩ := hRT2.sete
      obtain ⟨T3, hT3⟩ : ∃ T3, T3 = T2.set (S.next + 2) (some [.int .i64 0]) := ⟨_, rfl⟩
      rw [← hT3] at e12 hRT3
      rw [hpos] at hRT3
      obtain ⟨T', S', q1, q2, q3, q4, q5, q6⟩ := read_end hB (k + 6) (fun _ => none) hr hRT3
      have hx3 := hRT3.cx
      refine ⟨S', ?_, q5, q6⟩
      simp only [zB, decide_true, decide_false, Bool.false_eq_true, if_false, if_true, List.getElem?_cons_zero, List.getElem?_cons_succ, beq_self_eq_true, bne_self_eq_false, Int.reduceBNe, Int.reduceBEq, Int.reduceLT, Int.reduceGT, Int.reduceLE, Int.reduceGE, Nat.reduceAdd, Nat.reduceMul, Nat.reduceLeDiff, sel_0, List.length_cons, List.length_nil, take3, e10, isl_cell, List.all_cons, List.all_nil, e11, e12, hx3, oneD_1, q1, q2, q3, ffz, q4]
end
end Go.Ab.tV
