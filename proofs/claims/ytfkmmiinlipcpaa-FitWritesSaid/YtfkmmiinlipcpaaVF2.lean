/- The statement FitBounds. -/
import Derived.Test.YtfkmmiinlipcpaaVF1
set_option maxRecDepth 100000
set_option linter.unusedSimpArgs false
set_option linter.unusedVariables false
set_option linter.unusedSectionVars false
namespace Go.Ab.tV
open Go Go.Proofs

theorem three {x : Int} (h : 0 ≤ x) : Int.tmod x 3 = 0 ∨ Int.tmod x 3 = 1 ∨ Int.tmod x 3 = 2 := by
  have h0 := Int.tmod_nonneg (a := x) 3 h
  have h1 := Int.tmod_lt_of_pos x (show (0 : Int) < 3 by omega)
  omega
theorem tab3 {x : Int} (h : 0 ≤ x) : ∃ (n : Nat) (t : AV) (cs : List AV) (o : Nat), aIdx 1 (.is 3 [.int .i64 4, .int .i64 15, .int .i64 16]) (Int.tmod x 3) = some t ∧ (∀ S, seeV t S = some (cs, o)) ∧ cs[o]? = some (.int .i64 (n : Int)) ∧ (n = 4 ∨ n = 15 ∨ n = 16) := by
  rcases three h with h | h | h <;> rw [h]
  · exact ⟨4, _, _, _, rfl, fun _ => rfl, rfl, .inl rfl⟩
  · exact ⟨15, _, _, _, rfl, fun _ => rfl, rfl, .inr (.inl rfl)⟩
  · exact ⟨16, _, _, _, rfl, fun _ => rfl, rfl, .inr (.inr rfl)⟩
theorem sz_n {n : Nat} (h : n = 4 ∨ n = 15 ∨ n = 16) : sizedI (n : Int) = true := by rcases h with rfl | rfl | rfl <;> rfl
theorem tmod_abs (v : Int) (n : Nat) (h : 0 < n) : (Int.tmod v (n : Int)).natAbs < n := by
  rw [Int.natAbs_tmod, Int.natAbs_natCast]; exact Nat.mod_lt _ h
theorem mk1 {n : Nat} (h : n ≤ 16) : (0 : Int) ≤ (n : Int) ∧ (n : Int) ≤ (n : Int) ∧ (n : Int) * ((8 : Nat) : Int) ≤ 2 ^ 44 ∧ (n : Int) ≤ 2 ^ 44 := by
  refine ⟨by omega, by omega, ?_, ?_⟩
  · have : (2 : Int) ^ 44 = 17592186044416 := by decide
    rw [this]; omega
  · have : (2 : Int) ^ 44 = 17592186044416 := by decide
    rw [this]; omega
theorem fitBounds_law' {a : AV} {l : List Int} (ha : IK .i16 a l) (hr : ∀ v ∈ l, -32768 ≤ v ∧ v ≤ 32767) (x : Int) (hx : 0 ≤ x ∧ x ≤ 255) (an gn : Nat) (han : an ≤ 255) (hgn : gn ≤ 65535) :
    ∃ S', Cn Bk 10 f_spindlelaw34_FitBounds 0 [a, .int .u8 x, .int .u8 (an : Int), .int .u16 (gn : Int)] S0 = some (.bool true, S') := by
  have hB := Bk_silent
  rw [c_spindlelaw34_FitBounds _ _ _ _ _ _ _ (hB.no _ _ _ _ (kn_no (by decide))), T_spindlelaw34_FitBounds]
  obtain ⟨n, t, cs, o, x1, x2, x3, hn⟩ := tab3 hx.1
  obtain ⟨k1, k2, k3, k4⟩ := mk1 (n := n) (by omega)
  obtain ⟨d, hd⟩ : ∃ d, d = S0.next := ⟨_, rfl⟩
  simp only [zB, decide_true, decide_false, Bool.false_eq_true, if_false, if_true, List.getElem?_cons_zero, List.getElem?_cons_succ, beq_self_eq_true, bne_self_eq_false, Int.reduceBNe, Int.reduceBEq, Int.reduceLT, Int.reduceGT, Int.reduceLE, Int.reduceGE, Nat.reduceAdd, Nat.reduceMul, Nat.reduceLeDiff, x1, x2, x3, k1, k2, k3, k4, Int.toNat_natCast, ints_rep, ← hd]
  obtain ⟨N, hN⟩ : ∃ N, N = min n l.length := ⟨_, rfl⟩
  have f0 : padZ (fun v => Int.tmod v 2001) l n 0 = List.replicate n 0 := by simp [padZ]
  refine loop_meas (fun o => ∃ S', o = some (AV.bool true, S')) (fun m st => ∃ (i : Nat) (T : Heap), i + m = N ∧ st = ([a, .int .u8 (an : Int), .int .u16 (gn : Int), .int .i64 (n : Int), .hs d 0 n 1, .int .i64 (i : Int)], T) ∧ T.blk d = some (ints (padZ (fun v => Int.tmod v 2001) l n i)) ∧ d < T.next) N
    ⟨0, _, by omega, rfl, by rw [f0, hd]; exact alloc_blk _ _, by rw [hd]; exact Nat.lt_succ_self _⟩ ?_
  rintro m st ⟨i, T, him, rfl, hb, hdT⟩
  cases m with
  | succ m =>
    have hi : i < l.length := by omega
    have c1 : (i : Int) < (n : Int) := by omega
    have c2 : (i : Int) < (l.length : Int) := by omega
    obtain ⟨t', cs', o', y1, y2, y3⟩ := ha.at (S := T) hi
    have w1 := w16 (hr _ (List.getElem_mem hi))
    have w2 : IntKind.wrap .i64 ((i : Int) + 1) = ((i + 1 : Nat) : Int) := by rw [wr _ (by omega)]; omega
    have e1 := idxI d n (i := i) (by omega)
    have e2 := putI (Int.tmod l[i] 2001) hb (i := i) (by rw [padZ_len (by omega) (by omega)]; omega)
    have e3 : (padZ (fun v => Int.tmod v 2001) l n i).set i (Int.tmod l[i] 2001) = padZ (fun v => Int.tmod v 2001) l n (i + 1) := padZ_set (f := fun v => Int.tmod v 2001) (by omega) hi
    rw [e3] at e2
    exact .inr ⟨m, ([a, .int .u8 (an : Int), .int .u16 (gn : Int), .int .i64 (n : Int), .hs d 0 n 1, .int .i64 ((i + 1 : Nat) : Int)], T.set d (some (ints (padZ (fun v => Int.tmod v 2001) l n (i + 1))))), by omega, by simp only [zB, decide_true, decide_false, Bool.false_eq_true, if_false, if_true, List.getElem?_cons_zero, List.getElem?_cons_succ, beq_self_eq_true, bne_self_eq_false, Int.reduceBNe, Int.reduceBEq, Int.reduceLT, Int.reduceGT, Int.reduceLE, Int.reduceGE, Nat.reduceAdd, Nat.reduceMul, Nat.reduceLeDiff, c1, ha.len16, c2, y1, y2, y3, w1, e1, e2, w2], i + 1, _, by omega, rfl, set_blk _ _ _, hdT⟩
  | zero =>
    refine .inl ⟨(0, [.int .u8 (an : Int), .int .u16 (gn : Int), .int .i64 (n : Int), .hs d 0 n 1], T), ?_, ?_⟩
    · by_cases h16 : (i : Int) < (n : Int)
      · have c2 : ¬ (i : Int) < (l.length : Int) := by omega
        simp only [zB, decide_true, decide_false, Bool.false_eq_true, if_false, if_true, List.getElem?_cons_zero, List.getElem?_cons_succ, beq_self_eq_true, bne_self_eq_false, Int.reduceBNe, Int.reduceBEq, Int.reduceLT, Int.reduceGT, Int.reduceLE, Int.reduceGE, Nat.reduceAdd, Nat.reduceMul, Nat.reduceLeDiff, h16, ha.len16, c2]
      · simp only [zB, decide_true, decide_false, Bool.false_eq_true, if_false, if_true, List.getElem?_cons_zero, List.getElem?_cons_succ, beq_self_eq_true, bne_self_eq_false, Int.reduceBNe, Int.reduceBEq, Int.reduceLT, Int.reduceGT, Int.reduceLE, Int.reduceGE, Nat.reduceAdd, Nat.reduceMul, Nat.reduceLeDiff, h16]
    obtain ⟨C, hC⟩ : ∃ C, C = padZ (fun v => Int.tmod v 2001) l n i := ⟨_, rfl⟩
    rw [← hC] at hb
    have hCn : C.length = n := by rw [hC]; exact padZ_len (by omega) (by omega)
    have hCr : ∀ v ∈ C, v.natAbs ≤ 2063 := by
      rw [hC]
      refine padZ_mem (P := fun v => v.natAbs ≤ 2063) (by simp) (fun v hv => ?_)
      have := tmod_abs v 2001 (by omega)
      show (Int.tmod v 2001).natAbs ≤ 2063
      have e : ((2001 : Nat) : Int) = 2001 := rfl
      rw [e] at this; omega
    have hBC : Blk C := ⟨by rw [hCn]; exact sz_n hn, rngd_of (fun v hv => by have := hCr v hv; omega)⟩
    obtain ⟨T1, e1, f1⟩ := fblockH_c hB 0 hb hdT (by omega)
    rw [hCn, fits_ok hBC hCr ⟨by omega, by omega⟩] at e1
    have b1 := (f1.get hdT (by simp)).trans hb
    have hd1 : d < T1.next := Nat.lt_of_lt_of_le hdT f1.1
    have w1 : IntKind.wrap .i64 (an : Int) = (an : Int) := wr _ (by omega)
    have w2 : IntKind.wrap .i64 (gn : Int) = (gn : Int) := wr _ (by omega)
    have r1 : aInt .rem .i64 (an : Int) (n : Int) = some (.int .i64 ((an % n : Nat) : Int)) := by rw [rem64 _ _ (by omega), tmodN]
    have hj : an % n < n := Nat.mod_lt _ (by omega)
    have r2 : Int.tmod (gn : Int) 30000 = ((gn % 30000 : Nat) : Int) := tmodN gn 30000
    have w3 : IntKind.wrap .i64 (2601 + ((gn % 30000 : Nat) : Int)) = ((2601 + gn % 30000 : Nat) : Int) := by rw [wr _ (by omega)]; omega
    have e2 := idxI d n hj
    have e3 := putI (((2601 + gn % 30000 : Nat) : Int)) b1 (i := an % n) (by omega)
    obtain ⟨g, hg⟩ : ∃ g, g = ((2601 + gn % 30000 : Nat) : Int) := ⟨_, rfl⟩
    rw [← hg] at e3 w3
    obtain ⟨T2, hT2⟩ : ∃ T2, T2 = T1.set d (some (ints (C.set (an % n) g))) := ⟨_, rfl⟩
    rw [← hT2] at e3
    have b2 : T2.blk d = some (ints (C.set (an % n) g)) := by rw [hT2, set_blk]
    have hd2 : d < T2.next := by rw [hT2]; exact hd1
    have e5 : ∀ S, Cn Bk 9 f_spindlelaw34_awake 0 [] S = some (.bool true, S) := fun S => chk_c hB awake34_chk _ _
    have bad : ∀ (w : Int), 2601 ≤ w.natAbs → w.natAbs ≤ 32768 → ∀ V : Heap, V.blk d = some (ints (C.set (an % n) w)) → d < V.next → ∃ V', Cn Bk 9 f_fit_Block 0 [.hs d 0 n 1] V = some (.bool false, V') := by
      intro w h1 h2 V hV hdV
      have hl : (C.set (an % n) w).length = n := by rw [List.length_set, hCn]
      have hm : ∀ v ∈ C.set (an % n) w, -32768 ≤ v ∧ v ≤ 32768 := fun v hv => by
        rcases List.mem_or_eq_of_mem_set hv with h | h
        · have := hCr v h; omega
        · subst h; omega
      have hBl : Blk (C.set (an % n) w) := ⟨by rw [hl]; exact sz_n hn, rngd_of hm⟩
      obtain ⟨V', e, _⟩ := fblockH_c hB 0 hV hdV (by omega)
      rw [hl, fits_bad hBl ⟨w, List.mem_of_getElem? (List.getElem?_set_self (a := w) (show an % n < C.length by omega)), h1⟩ ⟨by omega, by omega⟩] at e
      exact ⟨V', e⟩
    have q00 : ((0 : Int) == 0) = true := rfl
    rw [q00] at e1
    by_cases h128 : (an : Int) ≥ 128
    · have w4 : IntKind.wrap .i64 (0 - g) = -g := by rw [wr _ (by omega)]; omega
      have hgl : (C.set (an % n) g)[an % n]? = some g := by rw [List.getElem?_set_self (by omega)]
      have y3 : (ints (C.set (an % n) g))[an % n * 1]? = some (.int .i64 g) := by rw [Nat.mul_one]; simp only [ints, List.getElem?_map, hgl, Option.map_some]
      have e4 := putI (-g) b2 (i := an % n) (by rw [List.length_set]; omega)
      rw [List.set_set] at e4
      obtain ⟨V', e6⟩ := bad (-g) (by omega) (by omega) (T2.set d (some (ints (C.set (an % n) (-g))))) (set_blk _ _ _) hd2
      exact ⟨V', by simp only [zB, decide_true, decide_false, Bool.false_eq_true, if_false, if_true, List.getElem?_cons_zero, List.getElem?_cons_succ, beq_self_eq_true, bne_self_eq_false, Int.reduceBNe, Int.reduceBEq, Int.reduceLT, Int.reduceGT, Int.reduceLE, Int.reduceGE, Nat.reduceAdd, Nat.reduceMul, Nat.reduceLeDiff, sel_0, e1, w1, r1, e2, w2, r2, w3, e3, h128, b2, y3, w4, e4, e6, e5]⟩
    · obtain ⟨V', e6⟩ := bad g (by omega) (by omega) T2 b2 hd2
      exact ⟨V', by simp only [zB, decide_true, decide_false, Bool.false_eq_true, if_false, if_true, List.getElem?_cons_zero, List.getElem?_cons_succ, beq_self_eq_true, bne_self_eq_false, Int.reduceBNe, Int.reduceBEq, Int.reduceLT, Int.reduceGT, Int.reduceLE, Int.reduceGE, Nat.reduceAdd, Nat.reduceMul, Nat.reduceLeDiff, sel_0, e1, w1, r1, e2, w2, r2, w3, e3, h128, e6, e5]⟩
theorem fitBounds_law (xs : List AV) (h : argsOk Try.prog maxLen 16 Try.f12.params.toList xs) : ∃ (C : CallF) (S' : Heap), NOk Try.prog (fun _ => none) C ∧ C 12 0 xs S0 = some (.bool true, S') := by
  rw [Try.params12] at h
  obtain ⟨a, r, rfl, h1, b, r2, rfl, h2, c, r3, rfl, h3, e, r4, rfl, h4, rfl⟩ := h
  obtain ⟨l, hl, hr⟩ := arg_i16s h1
  obtain ⟨x, rfl, hx⟩ := arg5 h2
  obtain ⟨an, rfl, ha1, ha2⟩ := arg5 h3
  obtain ⟨gn, rfl, hg1, hg2⟩ := arg77 h4
  obtain ⟨an, rfl⟩ := Int.eq_ofNat_of_zero_le ha1
  obtain ⟨gn, rfl⟩ := Int.eq_ofNat_of_zero_le hg1
  obtain ⟨S', hS⟩ := fitBounds_law' hl hr x hx an gn (by omega) (by omega)
  exact ⟨Cn Bk 10, S', Cn_ok 10, hS⟩
end Go.Ab.tV
