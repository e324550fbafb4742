/- The runs of a block: runs.Of, with its way backwards. -/
import Derived.Test.YtfkmmiinlipcpaaVE2
set_option maxRecDepth 100000
set_option linter.unusedSimpArgs false
set_option linter.unusedVariables false
set_option linter.unusedSectionVars false
namespace Go.Ab.tV
open Go Go.Proofs

theorem callK_y {β : Type} (C : CallF) (y : Nat) (args : List AV) (S : Heap) (K : AV → Heap → Option β) : callK C .none (.yld y) args S K = bO (C yldId y args S) fun r => K r.1 r.2 := rfl
theorem withY_y (C : CallF) (y : Nat) (Y : List AV → Heap → Option (AV × Heap)) (args : List AV) (S : Heap) : withY C y Y yldId y args S = Y args S := by simp [withY]
theorem iter_bind {G : Nat → Option (List AV)} {C : CallF} {y : Nat} {Y : List AV → Heap → Option (AV × Heap)} {S : Heap} {cap : Nat} {β : Type} {g : AV × Heap → AExit × Heap} {F : AExit × Heap → Option β}
    (W : Option β → Prop) (a : AV) (l : List Int) (d : Nat) (I : Nat → Heap → Prop) (hlen : l.length ≤ 1000000000)
    (hI : ∀ m T, I m T → T.blk cap = some [a] ∧ IL T a l d) (h0 : I l.length S)
    (hz : ∀ m (hm : m < l.length) T, I (m + 1) T → l[m] = 0 → I m T)
    (hy : ∀ m (hm : m < l.length) T, I (m + 1) T → l[m] ≠ 0 → ∃ T', Y [.int .i64 (m : Int), .int .i64 l[m]] T = some (.bool true, T') ∧ I m T')
    (hfin : ∀ T, I 0 T → W (F (g (.tup [], T)))) :
    W (bO (bO (T_runs_backwards_1 ctlV G (withY C y Y) (.yld y) (.ptr cap 0) S) fun r => some (g r)) F) := by
  have key : ∃ T, T_runs_backwards_1 ctlV G (withY C y Y) (.yld y) (.ptr cap 0) S = some (.tup [], T) ∧ I 0 T := by
    unfold T_runs_backwards_1
    obtain ⟨b1, l1⟩ := hI _ _ h0
    have w0 : IntKind.wrap .i64 ((l.length : Int) - 1) = (l.length : Int) - 1 := wr _ (by omega)
    simp only [zB, decide_true, decide_false, Bool.false_eq_true, if_false, if_true, List.getElem?_cons_zero, List.getElem?_cons_succ, beq_self_eq_true, bne_self_eq_false, Int.reduceBNe, Int.reduceBEq, Int.reduceLT, Int.reduceGT, Int.reduceLE, Int.reduceGE, Nat.reduceAdd, Nat.reduceMul, Nat.reduceLeDiff, b1, l1.len, w0]
    refine loop_meas (fun o => ∃ T, o = some (AV.tup [], T) ∧ I 0 T) (fun m st => ∃ T, m ≤ l.length ∧ st = ([.yld y, .ptr cap 0, .int .i64 ((m : Int) - 1)], T) ∧ I m T) l.length ⟨S, Nat.le_refl _, rfl, h0⟩ ?_
    rintro m st ⟨T, hm, rfl, hT⟩
    obtain ⟨b2, l2⟩ := hI _ _ hT
    cases m with
    | zero =>
      have c1 : ¬ (((0 : Nat) : Int) - 1 ≥ 0) := by omega
      exact .inl ⟨(0, [], T), by simp only [zB, decide_true, decide_false, Bool.false_eq_true, if_false, if_true, List.getElem?_cons_zero, List.getElem?_cons_succ, beq_self_eq_true, bne_self_eq_false, Int.reduceBNe, Int.reduceBEq, Int.reduceLT, Int.reduceGT, Int.reduceLE, Int.reduceGE, Nat.reduceAdd, Nat.reduceMul, Nat.reduceLeDiff, c1], T, by simp only [zB, decide_true, decide_false, Bool.false_eq_true, if_false, if_true, List.getElem?_cons_zero, List.getElem?_cons_succ, beq_self_eq_true, bne_self_eq_false, Int.reduceBNe, Int.reduceBEq, Int.reduceLT, Int.reduceGT, Int.reduceLE, Int.reduceGE, Nat.reduceAdd, Nat.reduceMul, Nat.reduceLeDiff, sel], hT⟩
    | succ m =>
      have hi : m < l.length := by omega
      have c1 : (((m + 1 : Nat)) : Int) - 1 ≥ 0 := by omega
      have q1 : (((m + 1 : Nat)) : Int) - 1 = (m : Int) := by omega
      rw [q1] at c1 ⊢
      have w1 : IntKind.wrap .i64 ((m : Int) - 1) = (m : Int) - 1 := wr _ (by omega)
      obtain ⟨t, cs, o, x1, x2, x3⟩ := l2.at hi
      by_cases hv0 : l[m] = 0
      · have c2 : (l[m] != 0) = false := by simp [hv0]
        exact .inr ⟨m, ([.yld y, .ptr cap 0, .int .i64 ((m : Int) - 1)], T), by omega, by simp only [zB, decide_true, decide_false, Bool.false_eq_true, if_false, if_true, List.getElem?_cons_zero, List.getElem?_cons_succ, beq_self_eq_true, bne_self_eq_false, Int.reduceBNe, Int.reduceBEq, Int.reduceLT, Int.reduceGT, Int.reduceLE, Int.reduceGE, Nat.reduceAdd, Nat.reduceMul, Nat.reduceLeDiff, c1, b2, x1, x2, x3, c2, w1], T, by omega, rfl, hz m hi T hT hv0⟩
      · have c2 : (l[m] != 0) = true := by simp [hv0]
        obtain ⟨T', e, hT'⟩ := hy m hi T hT hv0
        exact .inr ⟨m, ([.yld y, .ptr cap 0, .int .i64 ((m : Int) - 1)], T'), by omega, by simp only [zB, decide_true, decide_false, Bool.false_eq_true, if_false, if_true, List.getElem?_cons_zero, List.getElem?_cons_succ, beq_self_eq_true, bne_self_eq_false, Int.reduceBNe, Int.reduceBEq, Int.reduceLT, Int.reduceGT, Int.reduceLE, Int.reduceGE, Nat.reduceAdd, Nat.reduceMul, Nat.reduceLeDiff, c1, b2, x1, x2, x3, c2, callK_y, withY_y, e, w1], T', by omega, rfl, hT'⟩
  obtain ⟨T, e, hT⟩ := key
  rw [e]
  exact hfin T hT
theorem IL.mv {S T : Heap} {a : AV} {l : List Int} {d : Nat} (h : IL S a l d) (hb : ∀ j, j < S.next → T.blk j = S.blk j) (hn : S.next ≤ T.next) : IL T a l d := by
  rcases h with h | h | ⟨h1, h2, h3⟩
  · exact .inl h
  · exact .inr (.inl h)
  · exact .inr (.inr ⟨h1, (hb d h3).trans h2, Nat.lt_of_lt_of_le h3 hn⟩)
theorem IL.cell {S : Heap} {a : AV} {l : List Int} {d : Nat} (h : IL S a l d) : cell a = true := by
  rcases h with ⟨rfl, _⟩ | rfl | ⟨rfl, _⟩ <;> rfl
theorem asFn_f {β : Type} (g : Nat) (first cap : List AV) (f : List AV → List AV → Option β) : asFn g (.fn g first cap) f = f first cap := by simp [asFn]
theorem ready_n {β : Type} {S : Heap} {c : List (Nat × List AV)} (h : S.cx = (none, c)) (o : Option β) : ready S o = o := by simp [ready, h]
theorem endIt_n {T : Heap} {v : AV} {c : List (Nat × List AV)} (cx : Cx) (h : T.cx = (none, c)) : endIt cx (v, T) = (.normal, { T with cx := cx }) := by simp [endIt, h]
structure OfI (S : Heap) (l : List Int) (a : AV) (p r cap m : Nat) (T : Heap) (bL bB : Nat) (lst : Int) : Prop where
  bp : T.blk p = some [hv (rst (l.drop m)).1 bL, .int .i64 ((rst (l.drop m)).2.1.sum : Int), hv (natI (rst (l.drop m)).2.1) bB]
  br : T.blk r = some [.int .i64 lst]
  bc : T.blk cap = some [a]
  hL : HR T (rst (l.drop m)).1 bL
  hB : HR T (natI (rst (l.drop m)).2.1) bB
  ne : (rst (l.drop m)).2.1 ≠ [] → bB ≠ bL
  nL : (rst (l.drop m)).1 ≠ [] → cap < bL
  nB : (rst (l.drop m)).2.1 ≠ [] → cap < bB
  hl : (rst (l.drop m)).1 ≠ [] → lst = ((m + (rst (l.drop m)).2.2 : Nat) : Int)
  fr : ∀ j, j < S.next → T.blk j = S.blk j
  nx : cap < T.next
  cx : T.cx = (none, S.cx.2)
section
variable {B : CallF} (hB : Silent B) (k : Nat) {S : Heap} {a : AV} {l : List Int} {d : Nat}
include hB
theorem back_c' (h : cell a = true) : Cn B (k + 1) f_runs_backwards 0 [a] S = some (.fn f_runs_backwards_1 [] [.ptr S.next 0], S.alloc [a]) := by
  rw [c_runs_backwards _ _ _ _ (hB.no _ _ _ _ (kn_no (by decide))), T_runs_backwards]
  simp only [zB, decide_true, decide_false, Bool.false_eq_true, if_false, if_true, List.getElem?_cons_zero, List.getElem?_cons_succ, beq_self_eq_true, bne_self_eq_false, Int.reduceBNe, Int.reduceBEq, Int.reduceLT, Int.reduceGT, Int.reduceLE, Int.reduceGE, Nat.reduceAdd, Nat.reduceMul, Nat.reduceLeDiff, h]
theorem of_c (h : IL S a l d) (hl0 : l.length ≤ 1000000000) : ∃ S', Cn B (k + 2) f_runs_Of 0 [a] S = some (ofR l, S') ∧ Fr S S' [] := by
  rw [c_runs_Of _ _ _ _ (hB.no _ _ _ _ (kn_no (by decide))), T_runs_Of]
  have e1 := rsized_c hB k (S := S) (l.length : Int)
  unfold ofR
  by_cases hs : sizedI (l.length : Int) = false
  · rw [hs] at e1
    rw [if_pos hs]
    exact ⟨S, by simp only [zB, decide_true, decide_false, Bool.false_eq_true, if_false, if_true, List.getElem?_cons_zero, List.getElem?_cons_succ, beq_self_eq_true, bne_self_eq_false, Int.reduceBNe, Int.reduceBEq, Int.reduceLT, Int.reduceGT, Int.reduceLE, Int.reduceGE, Nat.reduceAdd, Nat.reduceMul, Nat.reduceLeDiff, h.len, e1, fz_zR]; rfl, Fr.refl _ _⟩
  have hs' : sizedI (l.length : Int) = true := by simpa using hs
  rw [if_neg hs]
  rw [hs'] at e1
  have e2 := ranged_c hB k h hl0
  by_cases hr : rngd l = false
  · rw [hr] at e2
    rw [if_pos hr]
    exact ⟨S, by simp only [zB, decide_true, decide_false, Bool.false_eq_true, if_false, if_true, List.getElem?_cons_zero, List.getElem?_cons_succ, beq_self_eq_true, bne_self_eq_false, Int.reduceBNe, Int.reduceBEq, Int.reduceLT, Int.reduceGT, Int.reduceLE, Int.reduceGE, Nat.reduceAdd, Nat.reduceMul, Nat.reduceLeDiff, h.len, e1, e2, fz_zR]; rfl, Fr.refl _ _⟩
  have hr' : rngd l = true := by simpa using hr
  rw [if_neg hr]
  rw [hr'] at e2
  obtain ⟨hl16, _⟩ := sized_le hs'
  obtain ⟨U0, hU0⟩ : ∃ U0, U0 = (S.alloc [.nils, .int .i64 0, .nils]).alloc [.int .i64 0] := ⟨_, rfl⟩
  have n0 : (S.alloc [.nils, .int .i64 0, .nils]).next = S.next + 1 := rfl
  have n1 : U0.next = S.next + 2 := by rw [hU0]; rfl
  have p0 : U0.blk S.next = some [.nils, .int .i64 0, .nils] := by rw [hU0, alloc_other _ _ (by rw [alloc_next]; omega), alloc_blk]
  have r0 : U0.blk (S.next + 1) = some [.int .i64 0] := by rw [hU0]; exact alloc_blk (S.alloc _) _
  have f0 : ∀ j, j < S.next → U0.blk j = S.blk j := fun j hj => by rw [hU0, alloc_other _ _ (by rw [alloc_next]; omega), alloc_other _ _ (by omega)]
  have x0 : U0.cx = S.cx := by rw [hU0]; rfl
  have v1 : putV (.ptr S.next 0) [.nils, .int .i64 0, .nils] U0 = some (U0.set S.next (some [.nils, .int .i64 0, .nils])) := by rw [putV_p p0 (by simp)]; rfl
  obtain ⟨U1, hU1⟩ : ∃ U1, U1 = U0.set S.next (some [.nils, .int .i64 0, .nils]) := ⟨_, rfl⟩
  have r1 : U1.blk (S.next + 1) = some [.int .i64 0] := by rw [hU1, set_other _ _ (by omega)]; exact r0
  have v2 : putV (.ptr (S.next + 1) 0) [.int .i64 0] U1 = some (U1.set (S.next + 1) (some [.int .i64 0])) := by rw [putV_p r1 (by simp)]; rfl
  obtain ⟨U2, hU2⟩ : ∃ U2, U2 = U1.set (S.next + 1) (some [.int .i64 0]) := ⟨_, rfl⟩
  have p2 : U2.blk S.next = some [.nils, .int .i64 0, .nils] := by rw [hU2, set_other _ _ (by omega), hU1, set_blk]
  have r2 : U2.blk (S.next + 1) = some [.int .i64 0] := by rw [hU2, set_blk]
  have f2 : ∀ j, j < S.next → U2.blk j = S.blk j := fun j hj => by rw [hU2, set_other _ _ (by omega), hU1, set_other _ _ (by omega), f0 j hj]
  have n2 : U2.next = S.next + 2 := by rw [hU2, hU1]; exact n1
  have x2 : U2.cx = S.cx := by rw [hU2, hU1]; exact x0
  rw [← hU1] at v1
  rw [← hU2] at v2
  have e3 := back_c' hB k (S := U2) h.cell
  simp only [zB, decide_true, decide_false, Bool.false_eq_true, if_false, if_true, List.getElem?_cons_zero, List.getElem?_cons_succ, beq_self_eq_true, bne_self_eq_false, Int.reduceBNe, Int.reduceBEq, Int.reduceLT, Int.reduceGT, Int.reduceLE, Int.reduceGE, Nat.reduceAdd, Nat.reduceMul, Nat.reduceLeDiff, h.len, e1, e2, ← hU0, n0, v1, v2, e3, asFn_f, alloc_next]
  refine iter_bind (fun o => ∃ S', o = some (AV.tup [ofA l, .int .i64 0], S') ∧ Fr S S' []) a l d (fun m T => ∃ bL bB lst, OfI S l a S.next (S.next + 1) U2.next m T bL bB lst) (by omega) ?_ ?_ ?_ ?_ ?_
  · rintro m T ⟨bL, bB, lst, hT⟩
    exact ⟨hT.bc, h.mv hT.fr (by have := hT.nx; omega)⟩
  · refine ⟨0, 0, 0, ?_, ?_, ?_, ?_, ?_, ?_, ?_, ?_, ?_, ?_, ?_, ?_⟩
    · rw [List.drop_length]; exact (alloc_other U2 _ (by omega)).trans p2
    · exact (alloc_other U2 _ (by omega)).trans r2
    · exact alloc_blk U2 _
    · rw [List.drop_length]; exact fun h => absurd rfl h
    · rw [List.drop_length]; exact fun h => absurd rfl h
    · rw [List.drop_length]; exact fun h => absurd rfl h
    · rw [List.drop_length]; exact fun h => absurd rfl h
    · rw [List.drop_length]; exact fun h => absurd rfl h
    · rw [List.drop_length]; exact fun h => absurd rfl h
    · exact fun j hj => (alloc_other U2 _ (by omega)).trans (f2 j hj)
    · show U2.next < U2.next + 1 + 1; omega
    · show (none, U2.cx.2) = _; rw [x2]
  · rintro m hm T ⟨bL, bB, lst, hT⟩ hv0
    have hd2 : rst (l.drop m) = ((rst (l.drop (m + 1))).1, (rst (l.drop (m + 1))).2.1, (rst (l.drop (m + 1))).2.2 + 1) := by rw [List.drop_eq_getElem_cons hm]; simp only [rst, if_pos hv0]
    refine ⟨bL, bB, lst, ?_, hT.br, hT.bc, ?_, ?_, ?_, ?_, ?_, ?_, hT.fr, hT.nx, hT.cx⟩
    all_goals rw [hd2]
    · exact hT.bp
    · exact hT.hL
    · exact hT.hB
    · exact hT.ne
    · exact hT.nL
    · exact hT.nB
    · intro h0; rw [hT.hl h0]; simp only; omega
  · rintro m hm T ⟨bL, bB, lst, hT⟩ hv0
    have hrd := ready_n (β := AV × Heap) hT.cx
    obtain ⟨s1, s2⟩ := rst_sum (l.drop (m + 1))
    rw [List.length_drop] at s1
    have hnx := hT.nx
    by_cases h0 : (rst (l.drop (m + 1))).1 = []
    · have hd2 : rst (l.drop m) = ([l[m]], [], 0) := by rw [List.drop_eq_getElem_cons hm]; simp only [rst, if_neg hv0, if_pos h0]
      have hB0 : (rst (l.drop (m + 1))).2.1 = [] := by
        rw [h0] at s2
        exact List.length_eq_zero_iff.1 (by simpa using s2)
      have hlen0 : ((rst (l.drop (m + 1))).1.length : Int) = 0 := by rw [h0]; rfl
      have c4 : ¬ ((0 : Int) > 0) := by omega
      obtain ⟨T1, e4, hL2, m1, y1, o1⟩ := appI l[m] hT.hL (by omega)
      have bp1 : T1.blk S.next = some [hv (rst (l.drop (m + 1))).1 bL, .int .i64 ((rst (l.drop (m + 1))).2.1.sum : Int), hv (natI (rst (l.drop (m + 1))).2.1) bB] := (o1 _ (by omega) (.inr h0)).trans hT.bp
      have br1 : T1.blk (S.next + 1) = some [.int .i64 lst] := (o1 _ (by omega) (.inr h0)).trans hT.br
      have bc1 : T1.blk U2.next = some [a] := (o1 _ (by omega) (.inr h0)).trans hT.bc
      have e5 := put3_0 (x := hv ((rst (l.drop (m + 1))).1 ++ [l[m]]) T.next) bp1
      obtain ⟨T2, hT2⟩ : ∃ T2, T2 = T1.set S.next (some [hv ((rst (l.drop (m + 1))).1 ++ [l[m]]) T.next, .int .i64 ((rst (l.drop (m + 1))).2.1.sum : Int), hv (natI (rst (l.drop (m + 1))).2.1) bB]) := ⟨_, rfl⟩
      rw [← hT2] at e5
      have br2 : T2.blk (S.next + 1) = some [.int .i64 lst] := by rw [hT2, set_other _ _ (by omega)]; exact br1
      have e6 := put1_0 (x := .int .i64 (m : Int)) br2
      obtain ⟨T3, hT3⟩ : ∃ T3, T3 = T2.set (S.next + 1) (some [.int .i64 (m : Int)]) := ⟨_, rfl⟩
      rw [← hT3] at e6
      refine ⟨T3, ?_, T.next, bB, (m : Int), ?_, ?_, ?_, ?_, ?_, ?_, ?_, ?_, ?_, ?_, ?_, ?_⟩
      · simp only [zB, decide_true, decide_false, Bool.false_eq_true, if_false, if_true, List.getElem?_cons_zero, List.getElem?_cons_succ, beq_self_eq_true, bne_self_eq_false, Int.reduceBNe, Int.reduceBEq, Int.reduceLT, Int.reduceGT, Int.reduceLE, Int.reduceGE, Nat.reduceAdd, Nat.reduceMul, Nat.reduceLeDiff, hrd, hT.bp, hv_len, hlen0, c4, e4, hv_cell, List.all_cons, List.all_nil, e5, e6]
      · rw [hT3, set_other _ _ (by omega), hT2, set_blk, hd2, h0, hB0]; rfl
      · rw [hT3, set_blk]
      · rw [hT3, set_other _ _ (by omega), hT2, set_other _ _ (by omega)]; exact bc1
      · rw [hd2]
        rw [h0, List.nil_append] at hL2
        refine fun hh => ⟨?_, ?_⟩
        · rw [hT3, set_other _ _ (by omega), hT2, set_other _ _ (by omega)]; exact (hL2 hh).1
        · rw [hT3, hT2]; exact (hL2 hh).2
      · rw [hd2]; exact fun hh => absurd rfl hh
      · rw [hd2]; exact fun hh => absurd rfl hh
      · exact fun _ => hT.nx
      · rw [hd2]; exact fun hh => absurd rfl hh
      · rw [hd2]; exact fun _ => rfl
      · intro j hj
        rw [hT3, set_other _ _ (by omega), hT2, set_other _ _ (by omega), o1 _ (by omega) (.inr h0)]; exact hT.fr j hj
      · rw [hT3, hT2]; show U2.next < T1.next; omega
      · rw [hT3, hT2]; show T1.cx = _; rw [y1]; exact hT.cx
    · have hlp := List.length_pos_iff.2 h0
      have c4 : ((rst (l.drop (m + 1))).1.length : Int) > 0 := by omega
      have hd2 : rst (l.drop m) = ((rst (l.drop (m + 1))).1 ++ [l[m]], (rst (l.drop (m + 1))).2.1 ++ [(rst (l.drop (m + 1))).2.2], 0) := by rw [List.drop_eq_getElem_cons hm]; simp only [rst, if_neg hv0, if_neg h0]
      have hna : natI ((rst (l.drop (m + 1))).2.1 ++ [(rst (l.drop (m + 1))).2.2]) = natI (rst (l.drop (m + 1))).2.1 ++ [((rst (l.drop (m + 1))).2.2 : Int)] := natI_app _ _
      have hlst := hT.hl h0
      have w1 : IntKind.wrap .i64 (IntKind.wrap .i64 (lst - (m : Int)) - 1) = ((rst (l.drop (m + 1))).2.2 : Int) := by
        have z1 : lst - (m : Int) = (((rst (l.drop (m + 1))).2.2 + 1 : Nat) : Int) := by rw [hlst]; omega
        have z2 : (((rst (l.drop (m + 1))).2.2 + 1 : Nat) : Int) - 1 = ((rst (l.drop (m + 1))).2.2 : Int) := by omega
        rw [z1, wr ((((rst (l.drop (m + 1))).2.2 + 1 : Nat)) : Int) (by omega), z2, wr _ (by omega)]
      have w2 : IntKind.wrap .i64 (IntKind.wrap .i64 (IntKind.wrap .i64 (((rst (l.drop (m + 1))).2.1.sum : Int) + lst) - (m : Int)) - 1) = (((rst (l.drop (m + 1))).2.1.sum + (rst (l.drop (m + 1))).2.2 : Nat) : Int) := by
        have z1 : ((rst (l.drop (m + 1))).2.1.sum : Int) + lst = (((rst (l.drop (m + 1))).2.1.sum + (rst (l.drop (m + 1))).2.2 + m + 1 : Nat) : Int) := by rw [hlst]; omega
        have z2 : (((rst (l.drop (m + 1))).2.1.sum + (rst (l.drop (m + 1))).2.2 + m + 1 : Nat) : Int) - (m : Int) = (((rst (l.drop (m + 1))).2.1.sum + (rst (l.drop (m + 1))).2.2 + 1 : Nat) : Int) := by omega
        have z3 : (((rst (l.drop (m + 1))).2.1.sum + (rst (l.drop (m + 1))).2.2 + 1 : Nat) : Int) - 1 = (((rst (l.drop (m + 1))).2.1.sum + (rst (l.drop (m + 1))).2.2 : Nat) : Int) := by omega
        have z4 : ∀ n : Nat, n ≤ 1000000 → IntKind.wrap .i64 (n : Int) = (n : Int) := fun n hn => wr _ (by omega)
        rw [z1, z4 _ (by omega), z2, z4 _ (by omega), z3, z4 _ (by omega)]
      have hbb : (rst (l.drop (m + 1))).2.1 ≠ [] → U2.next < bB := hT.nB
      have hbl := hT.nL h0
      have hb_ne : ∀ j, j ≤ U2.next → (j ≠ bB ∨ natI (rst (l.drop (m + 1))).2.1 = []) := fun j hj => by
        by_cases hb0 : (rst (l.drop (m + 1))).2.1 = []
        · exact .inr ((natI_nil _).2 hb0)
        · exact .inl (by have := hbb hb0; omega)
      obtain ⟨T1, e4, hB2, m1, y1, o1⟩ := appI ((rst (l.drop (m + 1))).2.2 : Int) hT.hB (by rw [natI_len]; omega)
      have bp1 : T1.blk S.next = some [hv (rst (l.drop (m + 1))).1 bL, .int .i64 ((rst (l.drop (m + 1))).2.1.sum : Int), hv (natI (rst (l.drop (m + 1))).2.1) bB] := (o1 _ (by omega) (hb_ne _ (by omega))).trans hT.bp
      have e5 := put3_2 (x := hv (natI (rst (l.drop (m + 1))).2.1 ++ [((rst (l.drop (m + 1))).2.2 : Int)]) T.next) bp1
      obtain ⟨T2, hT2⟩ : ∃ T2, T2 = T1.set S.next (some [hv (rst (l.drop (m + 1))).1 bL, .int .i64 ((rst (l.drop (m + 1))).2.1.sum : Int), hv (natI (rst (l.drop (m + 1))).2.1 ++ [((rst (l.drop (m + 1))).2.2 : Int)]) T.next]) := ⟨_, rfl⟩
      rw [← hT2] at e5
      have bp2 : T2.blk S.next = some [hv (rst (l.drop (m + 1))).1 bL, .int .i64 ((rst (l.drop (m + 1))).2.1.sum : Int), hv (natI (rst (l.drop (m + 1))).2.1 ++ [((rst (l.drop (m + 1))).2.2 : Int)]) T.next] := by rw [hT2, set_blk]
      have br2 : T2.blk (S.next + 1) = some [.int .i64 lst] := by rw [hT2, set_other _ _ (by omega), o1 _ (by omega) (hb_ne _ (by omega))]; exact hT.br
      have e6 := put3_1 (x := .int .i64 (((rst (l.drop (m + 1))).2.1.sum + (rst (l.drop (m + 1))).2.2 : Nat) : Int)) bp2
      obtain ⟨T3, hT3⟩ : ∃ T3, T3 = T2.set S.next (some [hv (rst (l.drop (m + 1))).1 bL, .int .i64 (((rst (l.drop (m + 1))).2.1.sum + (rst (l.drop (m + 1))).2.2 : Nat) : Int), hv (natI (rst (l.drop (m + 1))).2.1 ++ [((rst (l.drop (m + 1))).2.2 : Int)]) T.next]) := ⟨_, rfl⟩
      rw [← hT3] at e6
      have bp3 : T3.blk S.next = some [hv (rst (l.drop (m + 1))).1 bL, .int .i64 (((rst (l.drop (m + 1))).2.1.sum + (rst (l.drop (m + 1))).2.2 : Nat) : Int), hv (natI (rst (l.drop (m + 1))).2.1 ++ [((rst (l.drop (m + 1))).2.2 : Int)]) T.next] := by rw [hT3, set_blk]
      have o3 : ∀ j, j ≠ S.next → T3.blk j = T1.blk j := fun j hj => by rw [hT3, set_other _ _ hj, hT2, set_other _ _ hj]
      have m3' : T3.next = T1.next := by rw [hT3, hT2]; rfl
      have y3 : T3.cx = T1.cx := by rw [hT3, hT2]; rfl
      have hL3 : HR T3 (rst (l.drop (m + 1))).1 bL := fun _ => ⟨by
        rw [o3 _ (by omega), o1 bL (by have := (hT.hL h0).2; omega) (by
          by_cases hb0 : (rst (l.drop (m + 1))).2.1 = []
          · exact .inr ((natI_nil _).2 hb0)
          · exact .inl (Ne.symm (hT.ne hb0)))]
        exact (hT.hL h0).1, by have := (hT.hL h0).2; omega⟩
      obtain ⟨T4, e7, hL4, m4, y4, o4⟩ := appI l[m] hL3 (by omega)
      have bp4 : T4.blk S.next = some [hv (rst (l.drop (m + 1))).1 bL, .int .i64 (((rst (l.drop (m + 1))).2.1.sum + (rst (l.drop (m + 1))).2.2 : Nat) : Int), hv (natI (rst (l.drop (m + 1))).2.1 ++ [((rst (l.drop (m + 1))).2.2 : Int)]) T.next] := (o4 _ (by omega) (.inl (by omega))).trans bp3
      have e8 := put3_0 (x := hv ((rst (l.drop (m + 1))).1 ++ [l[m]]) T3.next) bp4
      obtain ⟨T5, hT5⟩ : ∃ T5, T5 = T4.set S.next (some [hv ((rst (l.drop (m + 1))).1 ++ [l[m]]) T3.next, .int .i64 (((rst (l.drop (m + 1))).2.1.sum + (rst (l.drop (m + 1))).2.2 : Nat) : Int), hv (natI (rst (l.drop (m + 1))).2.1 ++ [((rst (l.drop (m + 1))).2.2 : Int)]) T.next]) := ⟨_, rfl⟩
      rw [← hT5] at e8
      have br5 : T5.blk (S.next + 1) = some [.int .i64 lst] := by
        rw [hT5, set_other _ _ (by omega), o4 _ (by omega) (.inl (by omega)), o3 _ (by omega), o1 _ (by omega) (hb_ne _ (by omega))]; exact hT.br
      have e9 := put1_0 (x := .int .i64 (m : Int)) br5
      obtain ⟨T6, hT6⟩ : ∃ T6, T6 = T5.set (S.next + 1) (some [.int .i64 (m : Int)]) := ⟨_, rfl⟩
      rw [← hT6] at e9
      have o6 : ∀ j, j ≠ S.next → j ≠ S.next + 1 → T6.blk j = T4.blk j := fun j h1 h2 => by rw [hT6, set_other _ _ h2, hT5, set_other _ _ h1]
      have m6 : T6.next = T4.next := by rw [hT6, hT5]; rfl
      refine ⟨T6, ?_, T3.next, T.next, (m : Int), ?_, ?_, ?_, ?_, ?_, ?_, ?_, ?_, ?_, ?_, ?_, ?_⟩
      · simp only [zB, decide_true, decide_false, Bool.false_eq_true, if_false, if_true, List.getElem?_cons_zero, List.getElem?_cons_succ, beq_self_eq_true, bne_self_eq_false, Int.reduceBNe, Int.reduceBEq, Int.reduceLT, Int.reduceGT, Int.reduceLE, Int.reduceGE, Nat.reduceAdd, Nat.reduceMul, Nat.reduceLeDiff, hrd, hT.bp, hT.br, hv_len, c4, w1, e4, hv_cell, List.all_cons, List.all_nil, e5, bp2, br2, w2, e6, bp3, e7, e8, e9]
      · rw [hT6, set_other _ _ (by omega), hT5, set_blk, hd2]
        simp only [List.sum_append, List.sum_cons, List.sum_nil, Nat.add_zero, hna]
      · rw [hT6, set_blk]
      · rw [o6 _ (by omega) (by omega), o4 _ (by omega) (.inl (by omega)), o3 _ (by omega), o1 _ (by omega) (hb_ne _ (by omega))]; exact hT.bc
      · rw [hd2]
        exact fun hh => ⟨by rw [o6 _ (by omega) (by omega)]; exact (hL4 hh).1, by rw [m6]; exact (hL4 hh).2⟩
      · rw [hd2]; simp only; rw [hna]
        exact fun hh => ⟨by rw [o6 _ (by omega) (by omega), o4 _ (by omega) (.inl (by have := (hT.hL h0).2; omega)), o3 _ (by omega)]; exact (hB2 hh).1, by omega⟩
      · exact fun _ => by omega
      · exact fun _ => by omega
      · exact fun _ => by omega
      · rw [hd2]; exact fun _ => rfl
      · intro j hj
        rw [o6 _ (by omega) (by omega), o4 _ (by omega) (.inl (by omega)), o3 _ (by omega), o1 _ (by omega) (hb_ne _ (by omega))]; exact hT.fr j hj
      · omega
      · rw [hT6, hT5]; show T4.cx = _; rw [y4, y3, y1]; exact hT.cx
  · rintro T ⟨bL, bB, lst, hT⟩
    have hcx := endIt_n (v := .tup []) S.cx hT.cx
    rw [show Heap.cx (U2.alloc [a]) = S.cx from x2, hcx]
    obtain ⟨V, hV⟩ : ∃ V : Heap, V = { T with cx := S.cx } := ⟨_, rfl⟩
    have bp := hT.bp
    have br := hT.br
    have hL := hT.hL
    have hBB := hT.hB
    have hnx := hT.nx
    rw [List.drop_zero] at bp hL hBB
    have ne := hT.ne
    have nL := hT.nL
    have nB := hT.nB
    have hlst := hT.hl
    rw [List.drop_zero] at ne nL nB hlst
    obtain ⟨s1, s2⟩ := rst_sum l
    rw [← hV]
    have vb : ∀ j, V.blk j = T.blk j := fun j => by rw [hV]
    have vn : V.next = T.next := by rw [hV]
    have bpV := (vb S.next).trans bp
    have brV := (vb (S.next + 1)).trans br
    have hFV : Fr S V [] := ⟨by omega, by rw [hV], fun j hj _ => (vb j).trans (hT.fr j hj)⟩
    have hz : ∀ (W : Heap) (x : Int), (∀ j, j ≠ S.next → W.blk j = V.blk j) → W.next = V.next → Fr S W [] → ∃ S', fz 40 (.tup [.agg [hv (rst l).1 bL, .int .i64 x, hv (natI (rst l).2.1) bB], .int .i64 0]) W = some (.tup [.agg [isl (rst l).1, .int .i64 x, isl (natI (rst l).2.1)], .int .i64 0], S') ∧ Fr S S' [] := by
      intro W x hW hWn hWF
      have q1 : HR W (rst l).1 bL := fun h0 => ⟨by rw [hW _ (by have := nL h0; omega), vb]; exact (hL h0).1, by have := (hL h0).2; omega⟩
      have q2 : HR W (natI (rst l).2.1) bB := fun h0 => ⟨by rw [hW _ (by have := nB (fun hh => h0 ((natI_nil _).2 hh)); omega), vb]; exact (hBB h0).1, by have := (hBB h0).2; omega⟩
      exact ⟨_, fz_runs q1 q2 (fun _ h1 => ne (fun h0 => h1 ((natI_nil _).2 h0))), (hWF.kill (fun h0 => .inr (by have := nL h0; omega))).kill (fun h1 => .inr (by have := nB (fun h0 => h1 ((natI_nil _).2 h0)); omega))⟩
    by_cases h0 : (rst l).1 = []
    · have h1 : (rst l).2.1 = [] := by
        rw [h0] at s2
        exact List.length_eq_zero_iff.1 (by simpa using s2)
      have hlen0 : ((rst l).1.length : Int) = 0 := by rw [h0]; rfl
      have c2 : ¬ ((0 : Int) > 0) := by omega
      have hzr : (rZ l : Int) = ((rst l).2.1.sum : Int) := by unfold rZ; rw [if_pos h0, h1]; rfl
      obtain ⟨S', e4, hF'⟩ := hz V ((rst l).2.1.sum : Int) (fun _ _ => rfl) rfl hFV
      refine ⟨S', ?_, hF'⟩
      unfold ofA
      rw [hzr]
      simp only [zB, decide_true, decide_false, Bool.false_eq_true, if_false, if_true, List.getElem?_cons_zero, List.getElem?_cons_succ, beq_self_eq_true, bne_self_eq_false, Int.reduceBNe, Int.reduceBEq, Int.reduceLT, Int.reduceGT, Int.reduceLE, Int.reduceGE, Nat.reduceAdd, Nat.reduceMul, Nat.reduceLeDiff, bpV, hv_len, hlen0, c2, take3, set3_a, List.length_cons, List.length_nil, List.all_cons, List.all_nil, hv_cell, cell_i, cell_nils, e4]
    · have hlp := List.length_pos_iff.2 h0
      have c2 : ((rst l).1.length : Int) > 0 := by omega
      have hl2 := hlst h0
      have hzr : (rZ l : Int) = (((rst l).2.2 + (rst l).2.1.sum : Nat) : Int) := by unfold rZ; rw [if_neg h0]
      have w1 : IntKind.wrap .i64 (((rst l).2.1.sum : Int) + lst) = (rZ l : Int) := by rw [hl2, hzr, wr _ (by omega)]; omega
      have e3 := put3_1 (x := .int .i64 (rZ l : Int)) bpV
      obtain ⟨V2, hV2⟩ : ∃ V2, V2 = V.set S.next (some [hv (rst l).1 bL, .int .i64 (rZ l : Int), hv (natI (rst l).2.1) bB]) := ⟨_, rfl⟩
      rw [← hV2] at e3
      have bp2 : V2.blk S.next = some [hv (rst l).1 bL, .int .i64 (rZ l : Int), hv (natI (rst l).2.1) bB] := by rw [hV2, set_blk]
      obtain ⟨S', e4, hF'⟩ := hz V2 (rZ l : Int) (fun j hj => by rw [hV2, set_other _ _ hj]) (by rw [hV2]; rfl) (by rw [hV2]; exact hFV.set (.inr (Nat.le_refl _)) _)
      refine ⟨S', ?_, hF'⟩
      unfold ofA
      simp only [zB, decide_true, decide_false, Bool.false_eq_true, if_false, if_true, List.getElem?_cons_zero, List.getElem?_cons_succ, beq_self_eq_true, bne_self_eq_false, Int.reduceBNe, Int.reduceBEq, Int.reduceLT, Int.reduceGT, Int.reduceLE, Int.reduceGE, Nat.reduceAdd, Nat.reduceMul, Nat.reduceLeDiff, bpV, brV, hv_len, c2, w1, e3, bp2, take3, set3_a, List.length_cons, List.length_nil, List.all_cons, List.all_nil, hv_cell, cell_i, cell_nils, e4]
end
end Go.Ab.tV
