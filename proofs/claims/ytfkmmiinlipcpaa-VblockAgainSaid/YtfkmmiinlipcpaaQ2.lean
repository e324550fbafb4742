/- Part 2 of what the statement needs; no condition beyond what each theorem says. -/
import Derived.Test.YtfkmmiinlipcpaaQ1
set_option maxRecDepth 100000
set_option linter.unusedSimpArgs false
set_option linter.unusedVariables false
set_option linter.unusedSectionVars false
namespace Go.Ab.tV
open Go Go.Proofs
theorem fill_app : ∀ (L : List Int) (B : List Nat) (pos : Nat) (out : List Int) (v : Int) (z : Nat), L ≠ [] → B.length = L.length - 1 → fill (L ++ [v]) (B ++ [z]) pos out = (fill L B pos out).set (pos - L.length - B.sum - z) v
  | [], B, pos, out, v, z, h0, h1 => absurd rfl h0
  | [w], B, pos, out, v, z, h0, h1 => by
    have : B = [] := List.length_eq_zero_iff.1 (by simpa using h1)
    subst this
    simp [fill]
  | w :: w2 :: L, B, pos, out, v, z, h0, h1 => by
    cases B with
    | nil => simp at h1
    | cons b B =>
      simp only [List.length_cons] at h1
      have ih := fill_app (w2 :: L) B (pos - 1 - b) (out.set pos w) v z (by simp) (by simp only [List.length_cons]; omega)
      have e : pos - 1 - b - (w2 :: L).length - B.sum - z = pos - (w :: w2 :: L).length - (b :: B).sum - z := by simp only [List.length_cons, List.sum_cons]; omega
      rw [e] at ih
      simp only [List.cons_append, fill, List.tail_cons, List.headD_cons] at ih ⊢
      exact ih
theorem rst_zero {l : List Int} (h : (rst l).1 = []) : l = List.replicate l.length 0 := by
  induction l with
  | nil => rfl
  | cons v l ih =>
    by_cases h0 : v = 0
    · have e : rst (v :: l) = ((rst l).1, (rst l).2.1, (rst l).2.2 + 1) := by simp only [rst, if_pos h0]
      rw [e] at h
      rw [h0, List.length_cons, List.replicate_succ, ← ih h]
    · exfalso
      by_cases h1 : (rst l).1 = []
      · have e : rst (v :: l) = ([v], [], 0) := by simp only [rst, if_neg h0, if_pos h1]
        rw [e] at h; simp at h
      · have e : rst (v :: l) = ((rst l).1 ++ [v], (rst l).2.1 ++ [(rst l).2.2], 0) := by simp only [rst, if_neg h0, if_neg h1]
        rw [e] at h; simp at h
theorem fill_rst : ∀ l : List Int, (rst l).1 ≠ [] → fill (rst l).1 (rst l).2.1 ((rst l).2.2 + ((rst l).1.length - 1) + (rst l).2.1.sum) (List.replicate l.length 0) = l
  | [], h => absurd rfl h
  | v :: l, h => by
    have hB := (rst_sum l).2
    by_cases h0 : v = 0
    · have e : rst (v :: l) = ((rst l).1, (rst l).2.1, (rst l).2.2 + 1) := by simp only [rst, if_pos h0]
      rw [e] at h ⊢
      have ih := fill_rst l h
      have := fill_shift (rst l).1 (rst l).2.1 ((rst l).2.2 + ((rst l).1.length - 1) + (rst l).2.1.sum) 0 (List.replicate l.length 0) hB (by omega)
      rw [ih] at this
      rw [h0, List.length_cons, List.replicate_succ]
      simp only
      rw [show (rst l).2.2 + 1 + ((rst l).1.length - 1) + (rst l).2.1.sum = (rst l).2.2 + ((rst l).1.length - 1) + (rst l).2.1.sum + 1 by omega]
      exact this
    · by_cases h1 : (rst l).1 = []
      · have e : rst (v :: l) = ([v], [], 0) := by simp only [rst, if_neg h0, if_pos h1]
        rw [e]
        have hz := rst_zero h1
        simp only [List.length_cons, List.replicate_succ, fill, List.length_nil, List.sum_nil]
        rw [show 0 + (0 + 1 - 1) + 0 = 0 from rfl, List.set_cons_zero, ← hz]
      · have e : rst (v :: l) = ((rst l).1 ++ [v], (rst l).2.1 ++ [(rst l).2.2], 0) := by simp only [rst, if_neg h0, if_neg h1]
        have hp := List.length_pos_iff.2 h1
        rw [e]
        have ih := fill_rst l h1
        have sh := fill_shift (rst l).1 (rst l).2.1 ((rst l).2.2 + ((rst l).1.length - 1) + (rst l).2.1.sum) 0 (List.replicate l.length 0) hB (by omega)
        rw [ih] at sh
        have ap := fill_app (rst l).1 (rst l).2.1 ((rst l).2.2 + ((rst l).1.length - 1) + (rst l).2.1.sum + 1) (0 :: List.replicate l.length 0) v (rst l).2.2 h1 hB
        rw [sh, show (rst l).2.2 + ((rst l).1.length - 1) + (rst l).2.1.sum + 1 - (rst l).1.length - (rst l).2.1.sum - (rst l).2.2 = 0 by omega, List.set_cons_zero] at ap
        simp only [List.length_cons, List.replicate_succ, List.length_append, List.length_nil, List.sum_append, List.sum_cons, List.sum_nil]
        rw [show 0 + ((rst l).1.length + (0 + 1) - 1) + ((rst l).2.1.sum + ((rst l).2.2 + 0)) = (rst l).2.2 + ((rst l).1.length - 1) + (rst l).2.1.sum + 1 by omega]
        exact ap
theorem setI2 : ∀ (B : List Int) (i : Nat) (v : Int), setCells (ints B) i [.int .i64 v] = ints (B.set i v) := by
  intro B i v
  simp only [setCells, ints, List.map_set]
theorem putI2 {T : Heap} {d : Nat} {B : List Int} {i : Nat} (v : Int) (h : T.blk d = some (ints B)) (hi : i < B.length) : putV (.ptr d (i * 1)) [.int .i64 v] T = some (T.set d (some (ints (B.set i v)))) := by
  rw [putV_p h (by rw [ints_len]; simp; omega), Nat.mul_one, setI2]
theorem idxI2 (d n : Nat) {i : Nat} (hi : i < n) : aIdx 1 (.hs d 0 n 1) (i : Int) = some (.ptr d (i * 1)) := by simp [aIdx, hi]
theorem ints_rep2 (n : Nat) : List.replicate n (AV.int .i64 0) = ints (List.replicate n 0) := by simp [ints]
theorem mk12 {n : Nat} (h : n ≤ 16) : (0 : Int) ≤ (n : Int) ∧ (n : Int) ≤ (n : Int) ∧ (n : Int) * ((8 : Nat) : Int) ≤ 2 ^ 44 ∧ (n : Int) ≤ 2 ^ 44 := by
  refine ⟨by omega, by omega, ?_, ?_⟩
  · have : (2 : Int) ^ 44 = 17592186044416 := by decide
    rw [this]; omega
  · have : (2 : Int) ^ 44 = 17592186044416 := by decide
    rw [this]; omega
theorem isl_is2 {l : List Int} (h : l ≠ []) : isl l = .is l.length (ints l) := by unfold isl; rw [if_neg h]
theorem sum_drop2 (M : List Nat) {i : Nat} (hi : i < M.length) : (M.drop i).sum = M[i] + (M.drop (i + 1)).sum := by rw [List.drop_eq_getElem_cons hi, List.sum_cons]
section
variable {B : CallF} (hB : Silent B) (k : Nat) {S : Heap}
include hB
theorem block_c {l : List Int} (hl : Blk l) {aM : AV} {dM : Nat} (hbM : IL S aM (natI (rst l).2.1) dM) : ∃ S', Cn B (k + 2) f_runs_Block 0 [.int .i64 (l.length : Int), .agg [isl (rst l).1, .int .i64 (rZ l : Int), aM]] S = some (.tup [isl l, .int .i64 0], S') ∧ Fr S S' [] := by
  rw [c_runs_Block _ _ _ _ _ (hB.no _ _ _ _ (kn_no (by decide))), T_runs_Block]
  have hll := hl.len
  have htot := hl.tot
  have hzr := hl.zr
  have hmem := fun v hv => hl.mem (v := v) hv
  have hsum := rst_sum l
  have hfill := fill_rst l
  have e1 := rsized_c hB k (S := S) (l.length : Int)
  rw [hl.sz] at e1
  have hrl : rngd (rst l).1 = true := by
    unfold rngd; rw [List.all_eq_true]; intro v hv; have := hmem v hv; simp; omega
  have hZ : (rst l).1 ≠ [] → rZ l = (rst l).2.2 + (rst l).2.1.sum := fun h => by unfold rZ; rw [if_neg h]
  have hZ0 : (rst l).1 = [] → rZ l = 0 := fun h => by unfold rZ; rw [if_pos h]
  have hz0 := rst_zero (l := l)
  obtain ⟨L, hL⟩ : ∃ L, L = (rst l).1 := ⟨_, rfl⟩
  obtain ⟨M, hM⟩ : ∃ M, M = (rst l).2.1 := ⟨_, rfl⟩
  obtain ⟨z, hz⟩ : ∃ z, z = (rst l).2.2 := ⟨_, rfl⟩
  obtain ⟨Z, hZZ⟩ : ∃ Z, Z = rZ l := ⟨_, rfl⟩
  rw [← hL] at htot hzr hmem hsum hfill hrl hZ hZ0 hz0 ⊢
  rw [← hM] at hzr hsum hfill hZ hbM
  rw [← hz] at hsum hfill hZ
  rw [← hZZ] at hzr hZ hZ0 ⊢
  have e2 := ranged_c hB k (isl_il S L 0) (by omega)
  rw [hrl] at e2
  have h1 := (isl_il S L 0).len
  have h2 := hbM.len
  rw [natI_len] at h2
  have c1 : ¬ (L.length : Int) > (l.length : Int) := by omega
  have w1 : (if (IntKind.wrap .i64 ((L.length : Int) - 1)) > 0 then IntKind.wrap .i64 ((L.length : Int) - 1) else 0) = ((L.length - 1 : Nat) : Int) := by
    rw [wr _ (by omega)]; split <;> omega
  have c2 : ((M.length : Int) != ((L.length - 1 : Nat) : Int)) = false := by rw [hsum.2]; simp
  have c3 : ¬ (Z : Int) < 0 := by omega
  have w2 : IntKind.wrap .i64 ((l.length : Int) - (L.length : Int)) = ((l.length - L.length : Nat) : Int) := by rw [wr _ (by omega)]; omega
  have c4 : ¬ (Z : Int) > ((l.length - L.length : Nat) : Int) := by omega
  obtain ⟨k1, k2, k3, k4⟩ := mk12 (n := l.length) (by omega)
  obtain ⟨d, hd⟩ : ∃ d, d = S.next := ⟨_, rfl⟩
  obtain ⟨S1, hS1⟩ : ∃ S1, S1 = S.alloc (ints (List.replicate l.length 0)) := ⟨_, rfl⟩
  have b1 : S1.blk d = some (ints (List.replicate l.length 0)) := by rw [hS1, hd]; exact alloc_blk _ _
  have n1 : d < S1.next := by rw [hS1, hd]; exact Nat.lt_succ_self _
  have f1 : Fr S S1 [] := by rw [hS1]; exact Fr.alloc _ _ _
  have hlne : l ≠ [] := fun h => by rw [h] at hll; simp at hll
  have fin : ∀ T : Heap, T.blk d = some (ints l) → d < T.next → Fr S T [] → ∃ S', fz 40 (.tup [.hs d 0 l.length 1, .int .i64 0]) T = some (.tup [isl l, .int .i64 0], S') ∧ Fr S S' [] := fun T hb hn hF => by
    have hR : HR T l d := fun _ => ⟨hb, hn⟩
    have hvv : hv l d = .hs d 0 l.length 1 := by unfold hv; rw [if_neg hlne]
    have e := fz_hv 37 hR
    rw [hvv] at e
    exact ⟨_, fz_tup (fzM_c e (fzM_c (fz_int 38 _ 0 _) rfl)), hF.kill (fun _ => .inr (by omega))⟩
  by_cases h0 : L = []
  · have c5 : ((L.length : Int) == 0) = true := by rw [h0]; rfl
    have c6 : ((Z : Int) != 0) = false := by rw [hZ0 h0]; rfl
    rw [← hz0 h0] at b1
    obtain ⟨S', e3, f3⟩ := fin S1 b1 n1 f1
    exact ⟨S', by simp only [zB, decide_true, decide_false, Bool.false_eq_true, if_false, if_true, List.getElem?_cons_zero, List.getElem?_cons_succ, beq_self_eq_true, bne_self_eq_false, Int.reduceBNe, Int.reduceBEq, Int.reduceLT, Int.reduceGT, Int.reduceLE, Int.reduceGE, Nat.reduceAdd, Nat.reduceMul, Nat.reduceLeDiff, List.length_cons, List.length_nil, h1, e1, e2, c1, h2, w1, c2, c3, w2, c4, c5, c6, k1, k2, k3, k4, Int.toNat_natCast, ints_rep2, ← hd, ← hS1, e3], f3⟩
  · have hLp := List.length_pos_iff.2 h0
    have c5 : ((L.length : Int) == 0) = false := by simp; exact h0
    have hZe := hZ h0
    have hfl := hfill h0
    have w3 : IntKind.wrap .i64 (IntKind.wrap .i64 ((L.length : Int) + (Z : Int)) - 1) = ((z + (L.length - 1) + M.sum : Nat) : Int) := by
      rw [wr ((L.length : Int) + (Z : Int)) (by omega), wr _ (by omega)]; omega
    simp only [zB, decide_true, decide_false, Bool.false_eq_true, if_false, if_true, List.getElem?_cons_zero, List.getElem?_cons_succ, beq_self_eq_true, bne_self_eq_false, Int.reduceBNe, Int.reduceBEq, Int.reduceLT, Int.reduceGT, Int.reduceLE, Int.reduceGE, Nat.reduceAdd, Nat.reduceMul, Nat.reduceLeDiff, List.length_cons, List.length_nil, h1, e1, e2, c1, h2, w1, c2, c3, w2, c4, c5, k1, k2, k3, k4, Int.toNat_natCast, ints_rep2, ← hd, ← hS1, w3]
    refine loop_meas (fun o => ∃ S', o = some (AV.tup [isl l, .int .i64 0], S') ∧ Fr S S' []) (fun m st => ∃ (i : Nat) (T : Heap) (out : List Int), i + m + 1 = L.length ∧ st = ([.agg [isl L, .int .i64 (Z : Int), aM], .hs d 0 l.length 1, .int .i64 (L.length : Int), .int .i64 ((z + m + (M.drop i).sum : Nat) : Int), isl L, .int .i64 (L.length : Int), .int .i64 (i : Int)], T) ∧
        T.blk d = some (ints out) ∧ out.length = l.length ∧ d < T.next ∧ Fr S T [] ∧ fill (L.drop i) (M.drop i) (z + m + (M.drop i).sum) out = l) (L.length - 1)
      ⟨0, S1, List.replicate l.length 0, by omega, rfl, b1, List.length_replicate, n1, f1, hfl⟩ ?_
    rintro m st ⟨i, T, out, him, rfl, hb, hol, hdT, hF, hfi⟩
    have hi : i < L.length := by omega
    have c6 : (i : Int) < (L.length : Int) := by omega
    obtain ⟨t, cs, o, x1, x2, x3⟩ := (isl_il T L 0).at hi
    have c7 : ¬ ((z + m + (M.drop i).sum : Nat) : Int) < 0 := by omega
    have hv0 := (hmem L[i] (List.getElem_mem hi)).1
    have c8 : (L[i] == 0) = false := by simp [hv0]
    have hpos : z + m + (M.drop i).sum < l.length := by
      have : (M.drop i).sum ≤ M.sum := by
        have := List.take_append_drop i M
        calc (M.drop i).sum ≤ (M.take i).sum + (M.drop i).sum := Nat.le_add_left _ _
          _ = M.sum := by rw [← List.sum_append, this]
      omega
    have e3 := idxI2 d l.length hpos
    have e4 := putI2 L[i] hb (i := z + m + (M.drop i).sum) (by omega)
    obtain ⟨T1, hT1⟩ : ∃ T1, T1 = T.set d (some (ints (out.set (z + m + (M.drop i).sum) L[i]))) := ⟨_, rfl⟩
    rw [← hT1] at e4
    have b2 : T1.blk d = some (ints (out.set (z + m + (M.drop i).sum) L[i])) := by rw [hT1, set_blk]
    have n2 : d < T1.next := by rw [hT1]; exact hdT
    have f2 : Fr S T1 [] := by rw [hT1]; exact hF.set (.inr (by omega)) _
    have w4 : IntKind.wrap .i64 ((i : Int) + 1) = ((i + 1 : Nat) : Int) := by rw [wr _ (by omega)]; omega
    rw [List.drop_eq_getElem_cons hi, fill] at hfi
    cases m with
    | zero =>
      have c9 : (((i + 1 : Nat) : Int) == (L.length : Int)) = true := by simp; omega
      rw [List.drop_eq_nil_of_le (by omega), fill] at hfi
      rw [hfi] at b2
      obtain ⟨S', e5, f5⟩ := fin T1 b2 n2 f2
      rw [Nat.add_zero] at c7 e3 e4
      exact .inl ⟨(2, [.hs d 0 l.length 1, .int .i64 0], T1), by simp only [zB, decide_true, decide_false, Bool.false_eq_true, if_false, if_true, List.getElem?_cons_zero, List.getElem?_cons_succ, beq_self_eq_true, bne_self_eq_false, Int.reduceBNe, Int.reduceBEq, Int.reduceLT, Int.reduceGT, Int.reduceLE, Int.reduceGE, Nat.reduceAdd, Nat.reduceMul, Nat.reduceLeDiff, c6, x1, x2, x3, c7, c8, e3, e4, w4, c9], S', by simp only [zB, decide_true, decide_false, Bool.false_eq_true, if_false, if_true, List.getElem?_cons_zero, List.getElem?_cons_succ, beq_self_eq_true, bne_self_eq_false, Int.reduceBNe, Int.reduceBEq, Int.reduceLT, Int.reduceGT, Int.reduceLE, Int.reduceGE, Nat.reduceAdd, Nat.reduceMul, Nat.reduceLeDiff, sel_2, e5], f5⟩
    | succ m =>
      have c9 : (((i + 1 : Nat) : Int) == (L.length : Int)) = false := by simp; omega
      have hiM : i < M.length := by omega
      have hi' : i < (natI M).length := by rw [natI_len]; exact hiM
      obtain ⟨t2, cs2, o2, y1, y2, y3⟩ := (hbM.fr f2 (by simp)).at hi'
      rw [natI_at hi'] at y3
      have hsd := sum_drop2 M hiM
      have hmz : (M.drop i).sum ≤ Z := by
        have := List.take_append_drop i M
        have h3 : (M.drop i).sum ≤ M.sum := by
          calc (M.drop i).sum ≤ (M.take i).sum + (M.drop i).sum := Nat.le_add_left _ _
            _ = M.sum := by rw [← List.sum_append, this]
        omega
      have c10 : ¬ ((M[i] : Nat) : Int) < 0 := by omega
      have c11 : ¬ ((M[i] : Nat) : Int) > (Z : Int) := by omega
      have w5 : IntKind.wrap .i64 (IntKind.wrap .i64 (((z + (m + 1) + (M.drop i).sum : Nat) : Int) - 1) - ((M[i] : Nat) : Int)) = ((z + m + (M.drop (i + 1)).sum : Nat) : Int) := by
        rw [wr (((z + (m + 1) + (M.drop i).sum : Nat) : Int) - 1) (by omega), wr _ (by omega)]; omega
      refine .inr ⟨m, ([.agg [isl L, .int .i64 (Z : Int), aM], .hs d 0 l.length 1, .int .i64 (L.length : Int), .int .i64 ((z + m + (M.drop (i + 1)).sum : Nat) : Int), isl L, .int .i64 (L.length : Int), .int .i64 ((i + 1 : Nat) : Int)], T1), by omega, by simp only [zB, decide_true, decide_false, Bool.false_eq_true, if_false, if_true, List.getElem?_cons_zero, List.getElem?_cons_succ, beq_self_eq_true, bne_self_eq_false, Int.reduceBNe, Int.reduceBEq, Int.reduceLT, Int.reduceGT, Int.reduceLE, Int.reduceGE, Nat.reduceAdd, Nat.reduceMul, Nat.reduceLeDiff, c6, x1, x2, x3, c7, c8, e3, e4, w4, c9, y1, y2, y3, c10, c11, w5], i + 1, T1, _, by omega, rfl, b2, by rw [List.length_set]; exact hol, n2, f2, ?_⟩
      rw [List.drop_eq_getElem_cons hiM, List.tail_cons, List.headD_cons, List.sum_cons] at hfi
      rw [show z + (m + 1) + (M[i] + (M.drop (i + 1)).sum) - 1 - M[i] = z + m + (M.drop (i + 1)).sum by omega] at hfi
      rw [hsd]; exact hfi
end
theorem fz_isl (d : Nat) (l : List Int) (S : Heap) : fz (d + 1) (isl l) S = some (isl l, S) := by unfold isl; split <;> rfl
section
variable {B : CallF} (hB : Silent B) (k : Nat) {S : Heap} {p : Nat} {s : ByteArray} {a : Nat}
include hB
theorem skip_c (n : Nat) : ∀ {S : Heap} {a : Nat}, Rdr S p s a → a + n ≤ 8 * s.size → ∃ S', Cn B (k + 3) f_vblock_skip 0 [.ptr p 0, .int .i64 (n : Int)] S = some (.tup [], S') ∧ Rdr S' p s (a + n) ∧ Fr S S' [p] := by
  intro S a hr hn
  rw [c_vblock_skip _ _ _ _ _ (hB.no _ _ _ _ (kn_no (by decide))), T_vblock_skip]
  have hsz := hr.sz
  simp only [zB, decide_true, decide_false, Bool.false_eq_true, if_false, if_true, List.getElem?_cons_zero, List.getElem?_cons_succ, beq_self_eq_true, bne_self_eq_false, Int.reduceBNe, Int.reduceBEq, Int.reduceLT, Int.reduceGT, Int.reduceLE, Int.reduceGE, Nat.reduceAdd, Nat.reduceMul, Nat.reduceLeDiff]
  refine loop_meas (fun o => ∃ S', o = some (AV.tup [], S') ∧ Rdr S' p s (a + n) ∧ Fr S S' [p]) (fun m st => ∃ (i : Nat) (T : Heap), i + m = n ∧ st = ([.ptr p 0, .int .i64 (m : Int)], T) ∧ Rdr T p s (a + i) ∧ Fr S T [p]) n ⟨0, S, by omega, rfl, hr, Fr.refl _ _⟩ ?_
  rintro m st ⟨i, T, him, rfl, hR, hF⟩
  by_cases hm : m = 0
  · subst hm
    have c1 : ¬ (((0 : Nat) : Int) > 0) := by omega
    have : i = n := by omega
    subst this
    exact .inl ⟨(0, [], T), by simp only [zB, decide_true, decide_false, Bool.false_eq_true, if_false, if_true, List.getElem?_cons_zero, List.getElem?_cons_succ, beq_self_eq_true, bne_self_eq_false, Int.reduceBNe, Int.reduceBEq, Int.reduceLT, Int.reduceGT, Int.reduceLE, Int.reduceGE, Nat.reduceAdd, Nat.reduceMul, Nat.reduceLeDiff, c1], T, by simp only [zB, decide_true, decide_false, Bool.false_eq_true, if_false, if_true, List.getElem?_cons_zero, List.getElem?_cons_succ, beq_self_eq_true, bne_self_eq_false, Int.reduceBNe, Int.reduceBEq, Int.reduceLT, Int.reduceGT, Int.reduceLE, Int.reduceGE, Nat.reduceAdd, Nat.reduceMul, Nat.reduceLeDiff, sel_0], hR, hF⟩
  · have c1 : (m : Int) > 0 := by omega
    have w1 : (if (64 : Int) < (m : Int) then (64 : Int) else (m : Int)) = ((min m 64 : Nat) : Int) := by split <;> omega
    obtain ⟨T1, e1, hR1, f1⟩ := u_ok hB k hR (min m 64) (by omega) (by omega)
    have w2 : IntKind.wrap .i64 ((m : Int) - ((min m 64 : Nat) : Int)) = ((m - min m 64 : Nat) : Int) := by rw [wr _ (by omega)]; omega
    exact .inr ⟨m - min m 64, ([.ptr p 0, .int .i64 ((m - min m 64 : Nat) : Int)], T1), by omega, by simp only [zB, decide_true, decide_false, Bool.false_eq_true, if_false, if_true, List.getElem?_cons_zero, List.getElem?_cons_succ, beq_self_eq_true, bne_self_eq_false, Int.reduceBNe, Int.reduceBEq, Int.reduceLT, Int.reduceGT, Int.reduceLE, Int.reduceGE, Nat.reduceAdd, Nat.reduceMul, Nat.reduceLeDiff, c1, w1, e1, w2], i + min m 64, T1, by omega, rfl, by rw [← Nat.add_assoc]; exact hR1, hF.trans f1 (fun j hj => .inl hj)⟩
end
theorem oneD_1 {β : Type} (f : Nat) (xs : List AV) (K0 : Option β) (K : List AV → Option β) : oneD [(f, xs)] f K0 K = K xs := by simp [oneD]
/-- What lasts while a block is read: the boxes, the reader and its copy. -/
structure RS (S : Heap) (p x bc : Nat) (s : ByteArray) (a : Nat) (T : Heap) (a' : Nat) (v : AV) : Prop where
  br : T.blk S.next = some [.ptr p 0]
  bb : T.blk (S.next + 1) = some [v]
  be : T.blk (S.next + 2) = some [.int .i64 0]
  bc' : T.blk bc = some [.ptr x 0]
  rx : Rdr T x s a'
  old : ∀ j, j < S.next → T.blk j = S.blk j
  nx : bc < T.next
  cx : T.cx = (S.cx.1, [(f_vblock_Read_1, [.ptr (S.next + 2) 0, .ptr (S.next + 1) 0, .ptr S.next 0, .ptr bc 0])])
  ox : S.next + 2 < x ∧ x < bc
theorem RS.gen {S : Heap} {p x bc : Nat} {s : ByteArray} {a : Nat} {T T' : Heap} {a' a'' : Nat} {v : AV} (h : RS S p x bc s a T a' v) (hc : T'.cx = T.cx) (hn : T.next ≤ T'.next) (hk : ∀ j, j ≤ bc → j ≠ x → T'.blk j = T.blk j) (hx : Rdr T' x s a'') : RS S p x bc s a T' a'' v := by
  have := h.ox
  exact ⟨(hk _ (by omega) (by omega)).trans h.br, (hk _ (by omega) (by omega)).trans h.bb, (hk _ (by omega) (by omega)).trans h.be, (hk _ (by omega) (by omega)).trans h.bc', hx, fun j hj => (hk j (by omega) (by omega)).trans (h.old j hj), by have := h.nx; omega, hc.trans h.cx, h.ox⟩
theorem RS.fr {S : Heap} {p x bc : Nat} {s : ByteArray} {a : Nat} {T T' : Heap} {a' a'' : Nat} {v : AV} (h : RS S p x bc s a T a' v) (f : Fr T T' [x]) (hx : Rdr T' x s a'') : RS S p x bc s a T' a'' v :=
  h.gen f.2.1 f.1 (fun j hj hjx => f.2.2 j (by have := h.nx; omega) (by simp; exact hjx)) hx
theorem RS.fr0 {S : Heap} {p x bc : Nat} {s : ByteArray} {a : Nat} {T T' : Heap} {a' : Nat} {v : AV} (h : RS S p x bc s a T a' v) (f : Fr T T' []) : RS S p x bc s a T' a' v :=
  h.gen f.2.1 f.1 (fun j hj hjx => f.2.2 j (by have := h.nx; omega) (by simp)) (h.rx.fr f (by simp))
theorem rdr_set {T : Heap} {x : Nat} {s : ByteArray} {a j : Nat} (h : Rdr T x s a) (hj : j ≠ x) (c : Option (List AV)) : Rdr (T.set j c) x s a := ⟨by rw [set_other _ _ (Ne.symm hj)]; exact h.blk, h.lt, h.sz, h.le⟩
theorem RS.sete {S : Heap} {p x bc : Nat} {s : ByteArray} {a : Nat} {T : Heap} {a' : Nat} {v : AV} (h : RS S p x bc s a T a' v) : putV (.ptr (S.next + 2) 0) [.int .i64 0] T = some (T.set (S.next + 2) (some [.int .i64 0])) ∧ RS S p x bc s a (T.set (S.next + 2) (some [.int .i64 0])) a' v := by
  have := h.ox
  refine ⟨put1_0' h.be, ⟨?_, ?_, set_blk _ _ _, ?_, rdr_set h.rx (by omega) _, fun j hj => ?_, h.nx, h.cx, h.ox⟩⟩
  · rw [set_other _ _ (by omega)]; exact h.br
  · rw [set_other _ _ (by omega)]; exact h.bb
  · rw [set_other _ _ (by omega)]; exact h.bc'
  · rw [set_other _ _ (by omega)]; exact h.old j hj
theorem RS.setb {S : Heap} {p x bc : Nat} {s : ByteArray} {a : Nat} {T : Heap} {a' : Nat} {v : AV} (h : RS S p x bc s a T a' v) (w : AV) : putV (.ptr (S.next + 1) 0) [w] T = some (T.set (S.next + 1) (some [w])) ∧ RS S p x bc s a (T.set (S.next + 1) (some [w])) a' w := by
  have := h.ox
  refine ⟨put1_0' h.bb, ⟨?_, set_blk _ _ _, ?_, ?_, rdr_set h.rx (by omega) _, fun j hj => ?_, h.nx, h.cx, h.ox⟩⟩
  · rw [set_other _ _ (by omega)]; exact h.br
  · rw [set_other _ _ (by omega)]; exact h.be
  · rw [set_other _ _ (by omega)]; exact h.bc'
  · rw [set_other _ _ (by omega)]; exact h.old j hj
section
variable {B : CallF} (hB : Silent B) (k : Nat) {S : Heap} {p : Nat} {s : ByteArray} {a : Nat}
include hB
/-- The end: the deferred call, and the results. -/
theorem read_end (G : Nat → Option (List AV)) (hr : Rdr S p s a) {x bc n : Nat} {l : List Int} {T : Heap} (h : RS S p x bc s a T (a + n) (isl l)) :
    ∃ T' S', T_vblock_Read_1 ctlV G (Cn B (k + 3)) (.ptr (S.next + 2) 0) (.ptr (S.next + 1) 0) (.ptr S.next 0) (.ptr bc 0) T = some (.tup [], T') ∧ T'.blk (S.next + 1) = some [isl l] ∧ T'.blk (S.next + 2) = some [.int .i64 0] ∧ S' = tidy S T' ∧ Rdr S' p s (a + n) ∧ Fr S S' [p] := by
  unfold T_vblock_Read_1
  have hox := h.ox
  have hplt := hr.lt
  have hRp : Rdr T p s a := ⟨(h.old p hplt).trans hr.blk, by have := h.nx; omega, hr.sz, hr.le⟩
  have e1 := pos_c hB (k + 2) h.rx
  have e2 := pos_c hB (k + 2) hRp
  have hsz := hr.sz
  have hle := h.rx.le
  have w1 : IntKind.wrap .i64 (((a + n : Nat) : Int) - (a : Int)) = (n : Int) := by rw [wr _ (by omega)]; omega
  obtain ⟨T', e3, hR', f3⟩ := skip_c hB k n hRp hle
  have z0 : ((0 : Int) != 0) = false := rfl
  refine ⟨T', tidy S T', by simp only [zB, decide_true, decide_false, Bool.false_eq_true, if_false, if_true, List.getElem?_cons_zero, List.getElem?_cons_succ, beq_self_eq_true, bne_self_eq_false, Int.reduceBNe, Int.reduceBEq, Int.reduceLT, Int.reduceGT, Int.reduceLE, Int.reduceGE, Nat.reduceAdd, Nat.reduceMul, Nat.reduceLeDiff, h.be, z0, h.br, h.bc', e1, e2, w1, e3], ?_, ?_, rfl, ⟨hR'.blk, hR'.lt, hR'.sz, hR'.le⟩, ?_⟩
  · exact (f3.get (by have := h.nx; omega) (by simp; omega)).trans h.bb
  · exact (f3.get (by have := h.nx; omega) (by simp; omega)).trans h.be
  · refine ⟨?_, rfl, fun j hj hn => ?_⟩
    · show S.next ≤ T'.next
      have := f3.1; have := h.nx; omega
    · show T'.blk j = S.blk j
      exact (f3.get (by have := h.nx; omega) hn).trans (h.old j hj)
end
theorem sel_1' {β : Type} (f g : List AV → Heap → Option β) (fs : List (List AV → Heap → Option β)) (v : List AV) (S : Heap) : sel (f :: g :: fs) 1 v S = g v S := (rfl)
/-- The level of a number. -/
def lvlI (n : Nat) : Int := if n % 2 = 1 then -((n / 2 + 1 : Nat) : Int) else ((n / 2 + 1 : Nat) : Int)
/-- What is read: the level and the place behind it, or the error. -/
def lvR (s : ByteArray) (a K sk : Nat) : Except Int (Int × Nat) := match lead s 16 a with
  | .error e => .error e
  | .ok P => if 8 * s.size < a + P + 1 + sufN K P then .error 5 else .ok (lvlI (baseN K P + num s (a + P + 1) (sufN K P) + sk), a + P + 1 + sufN K P)
def encL : Except Int (Int × Nat) → AV
  | .ok (v, _) => .tup [.int .i64 v, .int .i64 0]
  | .error e => .tup [.int .i64 0, .int .i64 e]
def posL (a : Nat) : Except Int (Int × Nat) → Nat
  | .ok (_, a') => a'
  | .error _ => a
theorem suf_le {K P : Nat} (hK : K ≤ 6) : sufN K P ≤ 12 := by unfold sufN; split; omega; split; omega; split <;> omega
theorem base_le {K P : Nat} (hK : K ≤ 6) (hP : P ≤ 15) : baseN K P ≤ 960 := by
  have := esc_le hK
  unfold baseN
  split
  · omega
  · split
    · have h1 : P * 2 ^ K ≤ 15 * 64 := Nat.mul_le_mul hP this.2.2.1
      omega
    · omega
theorem lvlI_abs (n : Nat) : (lvlI n).natAbs = n / 2 + 1 := by unfold lvlI; split <;> omega
section
variable {B : CallF} (hB : Silent B) (k : Nat) {S : Heap} {c K left sk : Nat}
include hB
theorem lreadF_c {p : Nat} {s : ByteArray} {a : Nat} (h : Cod S c K (left + 1) sk) (hr : Rdr S p s a) (hcp : c ≠ p) (hK : K ≤ 6) (hl : left ≤ 1000) (hs : sk ≤ 2) :
    ∃ S', Cn B (k + 4) f_level_Coder_Read 0 [.ptr c 0, .ptr p 0] S = some (encL (lvR s a K sk), S') ∧ Rdr S' p s (posL a (lvR s a K sk)) ∧ (match lvR s a K sk with | .ok (v, _) => Cod S' c (aftN K v.natAbs) left 0 | .error _ => Cod S' c K (left + 1) sk) ∧ Fr S S' [p, c] := by
  rw [c_level_Coder_Read _ _ _ _ _ (hB.no _ _ _ _ (kn_no (by decide))), T_level_Coder_Read]
  have hsz := hr.sz
  obtain ⟨S1, hS1⟩ : ∃ S1, S1 = S.alloc [.ptr c 0] := ⟨_, rfl⟩
  have f1 : Fr S S1 [] := by rw [hS1]; exact Fr.alloc _ _ _
  have b1 : S1.blk S.next = some [.ptr c 0] := by rw [hS1]; exact alloc_blk _ _
  have n1 : S1.next = S.next + 1 := by rw [hS1]; rfl
  have hc1 := h.fr f1 (by simp)
  have hr1 := hr.fr f1 (by simp)
  obtain ⟨S2, e2, r2, f2⟩ := rcopy_c hB (k + 2) hr1
  obtain ⟨x, hx⟩ : ∃ x, x = S1.next := ⟨_, rfl⟩
  rw [← hx] at e2 r2
  obtain ⟨y, hy⟩ : ∃ y, y = S2.next := ⟨_, rfl⟩
  obtain ⟨S3, hS3⟩ : ∃ S3, S3 = S2.alloc [.int .i64 0] := ⟨_, rfl⟩
  have b3 : S3.blk y = some [.int .i64 0] := by rw [hS3, hy]; exact alloc_blk _ _
  have n3 : S3.next = y + 1 := by rw [hS3, hy]; rfl
  have e3 := put1_0' (x := .int .i64 0) b3
  obtain ⟨S4, hS4⟩ : ∃ S4, S4 = S3.set y (some [.int .i64 0]) := ⟨_, rfl⟩
  rw [← hS4] at e3
  have b4 : S4.blk y = some [.int .i64 0] := by rw [hS4, set_blk]
  have n4 : S4.next = y + 1 := by rw [hS4]; exact n3
  have hxy : S2.next ≤ y := by omega
  have f24 : Fr S2 S4 [] := by rw [hS4, hS3]; exact (Fr.alloc S2 _ []).set (.inr hxy) _
  have cn0 : (((left + 1 : Nat) : Int) == 0) = false := by simp; omega
  have hca : cell (.ptr c 0) = true := rfl
  simp only [zB, decide_true, decide_false, Bool.false_eq_true, if_false, if_true, List.getElem?_cons_zero, List.getElem?_cons_succ, beq_self_eq_true, bne_self_eq_false, Int.reduceBNe, Int.reduceBEq, Int.reduceLT, Int.reduceGT, Int.reduceLE, Int.reduceGE, Nat.reduceAdd, Nat.reduceMul, Nat.reduceLeDiff, hca, ← hS1, b1, hc1.blk, cn0, e2, ← hy, ← hS3, e3]
  have hltx := r2.lt
  have hn12 := f2.1
  have hclt := h.lt
  have hplt := hr.lt
  have fail : ∀ (T : Heap) (e : Int), Fr S2 T [x] → lvR s a K sk = .error e → ∃ S', some (AV.tup [.int .i64 0, .int .i64 e], T) = some (encL (lvR s a K sk), S') ∧ Rdr S' p s (posL a (lvR s a K sk)) ∧ (match lvR s a K sk with | .ok (v, _) => Cod S' c (aftN K v.natAbs) left 0 | .error _ => Cod S' c K (left + 1) sk) ∧ Fr S S' [p, c] := by
    intro T e hFT he
    rw [he]
    have hFS : Fr S T [] := (f1.trans f2 (fun j hj => by simp at hj)).trans hFT (fun j hj => .inr (by simp at hj; omega))
    exact ⟨T, rfl, hr.fr hFS (by simp), h.fr hFS (by simp), hFS.nil⟩
  refine loop_meas (fun o => ∃ S', o = some (encL (lvR s a K sk), S') ∧ Rdr S' p s (posL a (lvR s a K sk)) ∧ (match lvR s a K sk with | .ok (v, _) => Cod S' c (aftN K v.natAbs) left 0 | .error _ => Cod S' c K (left + 1) sk) ∧ Fr S S' [p, c])
    (fun m st => ∃ (i : Nat) (T : Heap), i + m = 15 ∧ st = ([.ptr p 0, .ptr S.next 0, .ptr x 0, .ptr y 0], T) ∧ Rdr T x s (a + i) ∧ T.blk y = some [.int .i64 (i : Int)] ∧ Fr S2 T [x] ∧ y < T.next ∧ lead s 16 a = (lead s (m + 1) (a + i)).map (· + i)) 15
    ⟨0, S4, by omega, rfl, r2.fr f24 (by simp), b4, f24.weak (fun j hj => by simp at hj), by omega, by cases lead s 16 a <;> rfl⟩ ?_
  rintro m st ⟨i, T, him, rfl, hRx, hby, hFT, hyT, hld⟩
  rw [lead_succ s m (a + i)] at hld
  by_cases hsh : 8 * s.size ≤ a + i
  · rw [if_pos hsh] at hld
    have e4 := bit_short hB k hRx (by have := hRx.le; omega)
    have hlv : lvR s a K sk = .error 5 := by unfold lvR; rw [hld]; rfl
    have z5 : ((5 : Int) != 0) = true := rfl
    refine .inl ⟨(1, [.int .i64 0, .int .i64 5], T), by simp only [zB, decide_true, decide_false, Bool.false_eq_true, if_false, if_true, List.getElem?_cons_zero, List.getElem?_cons_succ, beq_self_eq_true, bne_self_eq_false, Int.reduceBNe, Int.reduceBEq, Int.reduceLT, Int.reduceGT, Int.reduceLE, Int.reduceGE, Nat.reduceAdd, Nat.reduceMul, Nat.reduceLeDiff, e4, z5], ?_⟩
    simp only [zB, decide_true, decide_false, Bool.false_eq_true, if_false, if_true, List.getElem?_cons_zero, List.getElem?_cons_succ, beq_self_eq_true, bne_self_eq_false, Int.reduceBNe, Int.reduceBEq, Int.reduceLT, Int.reduceGT, Int.reduceLE, Int.reduceGE, Nat.reduceAdd, Nat.reduceMul, Nat.reduceLeDiff, sel_1']
    exact fail T 5 hFT hlv
  rw [if_neg hsh] at hld
  obtain ⟨T1, e4, hRx1, fT1⟩ := bit_ok hB k hRx (by omega)
  have hby1 : T1.blk y = some [.int .i64 (i : Int)] := (fT1.get hyT (by simp; omega)).trans hby
  have hyT1 : y < T1.next := Nat.lt_of_lt_of_le hyT fT1.1
  have hFT1 : Fr S2 T1 [x] := hFT.trans fT1 (fun j hj => .inl hj)
  have z00 : ((0 : Int) != 0) = false := rfl
  by_cases hbit : sb s (a + i) = 1
  · rw [if_pos hbit] at hld
    have hld' : lead s 16 a = .ok i := by rw [hld]; simp [Except.map]
    rw [hbit] at e4
    have z1 : (((1 : Nat) : Int) == 1) = true := rfl
    refine .inl ⟨(0, [.ptr p 0, .ptr S.next 0, .ptr x 0, .ptr y 0], T1), by simp only [zB, decide_true, decide_false, Bool.false_eq_true, if_false, if_true, List.getElem?_cons_zero, List.getElem?_cons_succ, beq_self_eq_true, bne_self_eq_false, Int.reduceBNe, Int.reduceBEq, Int.reduceLT, Int.reduceGT, Int.reduceLE, Int.reduceGE, Nat.reduceAdd, Nat.reduceMul, Nat.reduceLeDiff, e4, z00, z1], ?_⟩
    have hS2c : Cod S2 c K (left + 1) sk := hc1.fr f2 (by simp)
    have hTc : Cod T1 c K (left + 1) sk := hS2c.fr hFT1 (by simp; omega)
    have hS2b : S2.blk S.next = some [.ptr c 0] := (f2.get (by omega) (by simp)).trans b1
    have hTb : T1.blk S.next = some [.ptr c 0] := (hFT1.get (by omega) (by simp; omega)).trans hS2b
    have e5 := read1_c' hB (k + 1) hTc hby1 hTb hK (show i ≤ 15 by omega)
    have hsuf := suf_le (P := i) hK
    have hbase := base_le hK (show i ≤ 15 by omega)
    obtain ⟨w, hw⟩ : ∃ w, w = sufN K i := ⟨_, rfl⟩
    rw [← hw] at e5 hsuf
    by_cases hU : 8 * s.size < a + i + 1 + w
    · have hlv : lvR s a K sk = .error 5 := by unfold lvR; rw [hld']; simp only [← hw]; rw [if_pos hU]
      have e6 := u_short hB (k + 1) hRx1 w (by omega) (by omega)
      have z5 : ((5 : Int) != 0) = true := rfl
      simp only [zB, decide_true, decide_false, Bool.false_eq_true, if_false, if_true, List.getElem?_cons_zero, List.getElem?_cons_succ, beq_self_eq_true, bne_self_eq_false, Int.reduceBNe, Int.reduceBEq, Int.reduceLT, Int.reduceGT, Int.reduceLE, Int.reduceGE, Nat.reduceAdd, Nat.reduceMul, Nat.reduceLeDiff, sel_0', e5, e6, z5]
      exact fail T1 5 hFT1 hlv
    · obtain ⟨N, hN⟩ : ∃ N, N = baseN K i + num s (a + i + 1) w := ⟨_, rfl⟩
      have hlv : lvR s a K sk = .ok (lvlI (N + sk), a + i + 1 + w) := by unfold lvR; rw [hld']; simp only [← hw]; rw [if_neg hU, hN]
      rw [hlv]
      obtain ⟨T2, e6, hRx2, fT2⟩ := u_ok hB (k + 1) hRx1 w (by omega) (by omega)
      have hFl := num_lt s (a + i + 1) w
      obtain ⟨F, hF⟩ : ∃ F, F = num s (a + i + 1) w := ⟨_, rfl⟩
      rw [← hF] at e6 hFl hN
      have hFb : F < 4096 := by
        have : 2 ^ w ≤ 2 ^ 12 := Nat.pow_le_pow_right (by omega) hsuf
        omega
      have hTc2 : Cod T2 c K (left + 1) sk := hTc.fr fT2 (by simp; omega)
      have hTb2 : T2.blk S.next = some [.ptr c 0] := (fT2.get (by have := hFT1.1; omega) (by simp; omega)).trans hTb
      have hby2 : T2.blk y = some [.int .i64 (i : Int)] := (fT2.get hyT1 (by simp; omega)).trans hby1
      have w1 : IntKind.wrap .i64 (F : Int) = (F : Int) := wr _ (by omega)
      have w2 : IntKind.wrap .i64 ((baseN K i : Int) + (F : Int)) = (N : Int) := by rw [wr _ (by omega)]; omega
      have w3 : IntKind.wrap .i64 ((N : Int) + (sk : Int)) = ((N + sk : Nat) : Int) := by rw [wr _ (by omega)]; omega
      have hFS : Fr S T2 [] := ((f1.trans f2 (fun j hj => by simp at hj)).trans hFT1 (fun j hj => .inr (by simp at hj; omega))).trans fT2 (fun j hj => .inr (by simp at hj; omega))
      have hR2 : Rdr T2 p s a := hr.fr hFS (by simp)
      obtain ⟨T3, e7, hR3, fT3⟩ := u_ok hB (k + 1) hR2 (i + 1 + w) (by omega) (by omega)
      have hTc3 : Cod T3 c K (left + 1) sk := hTc2.fr fT3 (by simp; exact hcp)
      have hTb3 : T3.blk S.next = some [.ptr c 0] := (fT3.get (by have := hFS.1; have := hFT1.1; have := fT2.1; omega) (by simp; omega)).trans hTb2
      have hab := lvlI_abs (N + sk)
      obtain ⟨T4, e8, hC4, fT4, n4'⟩ := next_c hB (k + 1) hTc3 hK hl (lvlI (N + sk)) (by omega)
      have w4 : IntKind.wrap .i64 (IntKind.wrap .i64 ((i : Int) + 1) + (w : Int)) = ((i + 1 + w : Nat) : Int) := by rw [wr ((i : Int) + 1) (by omega), wr _ (by omega)]; omega
      have w5 : IntKind.wrap .i64 (Int.tdiv ((N + sk : Nat) : Int) 2) = (((N + sk) / 2 : Nat) : Int) := by rw [tdiv2, wr _ (by omega)]
      have w6 : IntKind.wrap .i64 ((((N + sk) / 2 : Nat) : Int) + 1) = (((N + sk) / 2 + 1 : Nat) : Int) := by rw [wr _ (by omega)]; omega
      have hfin : Rdr T4 p s (a + i + 1 + w) ∧ Cod T4 c (aftN K (lvlI (N + sk)).natAbs) left 0 ∧ Fr S T4 [p, c] := by
        refine ⟨?_, hC4, ((hFS.weak (l' := [p, c]) (fun j hj => by simp at hj)).trans fT3 (fun j hj => .inl (by simp at hj ⊢; simp [hj]))).trans fT4 (fun j hj => .inl (by simp at hj ⊢; simp [hj]))⟩
        have := hR3.fr fT4 (by simp; exact Ne.symm hcp)
        rw [show a + (i + 1 + w) = a + i + 1 + w by omega] at this
        exact this
      refine ⟨T4, ?_, hfin⟩
      unfold lvlI at e8
      by_cases hodd : (N + sk) % 2 = 1
      · rw [if_pos hodd] at e8
        have c2 : (Int.tmod ((N + sk : Nat) : Int) 2 == 1) = true := by rw [tmod2, hodd]; rfl
        have w7 : IntKind.wrap .i64 (0 - (((N + sk) / 2 + 1 : Nat) : Int)) = -(((N + sk) / 2 + 1 : Nat) : Int) := by rw [wr _ (by omega)]; omega
        simp only [encL, lvlI, if_pos hodd]
        simp only [zB, decide_true, decide_false, Bool.false_eq_true, if_false, if_true, List.getElem?_cons_zero, List.getElem?_cons_succ, beq_self_eq_true, bne_self_eq_false, Int.reduceBNe, Int.reduceBEq, Int.reduceLT, Int.reduceGT, Int.reduceLE, Int.reduceGE, Nat.reduceAdd, Nat.reduceMul, Nat.reduceLeDiff, sel_0', e5, e6, z00, w1, w2, hTb2, hTc2.blk, w3, c2, w5, w6, w7, hby2, w4, e7, hTb3, e8]
      · rw [if_neg hodd] at e8
        have c2 : (Int.tmod ((N + sk : Nat) : Int) 2 == 1) = false := by rw [tmod2]; simp; omega
        simp only [encL, lvlI, if_neg hodd]
        simp only [zB, decide_true, decide_false, Bool.false_eq_true, if_false, if_true, List.getElem?_cons_zero, List.getElem?_cons_succ, beq_self_eq_true, bne_self_eq_false, Int.reduceBNe, Int.reduceBEq, Int.reduceLT, Int.reduceGT, Int.reduceLE, Int.reduceGE, Nat.reduceAdd, Nat.reduceMul, Nat.reduceLeDiff, sel_0', e5, e6, z00, w1, w2, hTb2, hTc2.blk, w3, c2, w5, w6, hby2, w4, e7, hTb3, e8]
  · rw [if_neg hbit] at hld
    have hb0 : sb s (a + i) = 0 := by have := sb_lt s (a + i); omega
    rw [hb0] at e4
    have w1 : IntKind.wrap .i64 ((i : Int) + 1) = ((i + 1 : Nat) : Int) := by rw [wr _ (by omega)]; omega
    have e5 := put1_0' (x := .int .i64 ((i + 1 : Nat) : Int)) hby1
    have z1 : (((0 : Nat) : Int) == 1) = false := rfl
    obtain ⟨T2, hT2⟩ : ∃ T2, T2 = T1.set y (some [.int .i64 ((i + 1 : Nat) : Int)]) := ⟨_, rfl⟩
    rw [← hT2] at e5
    have b2 : T2.blk y = some [.int .i64 ((i + 1 : Nat) : Int)] := by rw [hT2, set_blk]
    have hFT2 : Fr S2 T2 [x] := by rw [hT2]; exact hFT1.set (.inr (by omega)) _
    cases m with
    | zero =>
      have hlv : lvR s a K sk = .error 4 := by unfold lvR; rw [hld]; rfl
      have c1 : ((i + 1 : Nat) : Int) > 15 := by omega
      refine .inl ⟨(1, [.int .i64 0, .int .i64 4], T2), by simp only [zB, decide_true, decide_false, Bool.false_eq_true, if_false, if_true, List.getElem?_cons_zero, List.getElem?_cons_succ, beq_self_eq_true, bne_self_eq_false, Int.reduceBNe, Int.reduceBEq, Int.reduceLT, Int.reduceGT, Int.reduceLE, Int.reduceGE, Nat.reduceAdd, Nat.reduceMul, Nat.reduceLeDiff, e4, z00, z1, hby1, w1, e5, b2, c1], ?_⟩
      simp only [zB, decide_true, decide_false, Bool.false_eq_true, if_false, if_true, List.getElem?_cons_zero, List.getElem?_cons_succ, beq_self_eq_true, bne_self_eq_false, Int.reduceBNe, Int.reduceBEq, Int.reduceLT, Int.reduceGT, Int.reduceLE, Int.reduceGE, Nat.reduceAdd, Nat.reduceMul, Nat.reduceLeDiff, sel_1']
      exact fail T2 4 hFT2 hlv
    | succ m =>
      have c1 : ¬ (((i + 1 : Nat) : Int) > 15) := by omega
      refine .inr ⟨m, ([.ptr p 0, .ptr S.next 0, .ptr x 0, .ptr y 0], T2), by omega, by simp only [zB, decide_true, decide_false, Bool.false_eq_true, if_false, if_true, List.getElem?_cons_zero, List.getElem?_cons_succ, beq_self_eq_true, bne_self_eq_false, Int.reduceBNe, Int.reduceBEq, Int.reduceLT, Int.reduceGT, Int.reduceLE, Int.reduceGE, Nat.reduceAdd, Nat.reduceMul, Nat.reduceLeDiff, e4, z00, z1, hby1, w1, e5, b2, c1], i + 1, T2, by omega, rfl, ?_, b2, hFT2, by rw [hT2]; exact hyT1, ?_⟩
      · rw [hT2]; exact hRx1.fr ((Fr.refl T1 [y]).set (.inl (by simp)) _) (by simp; omega)
      · rw [hld, map_map']; rfl
end
/-- So many levels that are 1 or -1, one bit each. -/
def onR (s : ByteArray) : Nat → Nat → Except Int (List Int × Nat)
  | 0, a => .ok ([], a)
  | n + 1, a => if 8 * s.size ≤ a then .error 5 else match onR s n (a + 1) with
    | .error e => .error e
    | .ok (L, a') => .ok ((if sb s a = 1 then -1 else 1) :: L, a')
/-- So many levels, one after another. -/
def lvsR (s : ByteArray) : Nat → Nat → Nat → Nat → Except Int (List Int × Nat)
  | 0, a, _, _ => .ok ([], a)
  | n + 1, a, K, sk => match lvR s a K sk with
    | .error e => .error e
    | .ok (v, a') => match lvsR s n a' (aftN K v.natAbs) 0 with
      | .error e => .error e
      | .ok (L, a'') => .ok (v :: L, a'')
/-- All levels: the ones, and the others. -/
def levR (s : ByteArray) (a total ones : Nat) : Except Int (List Int × Nat) := match onR s ones a with
  | .error e => .error e
  | .ok (L, a') => match lvsR s (total - ones) a' (k0N total ones) (s0N ones) with
    | .error e => .error e
    | .ok (M, a'') => .ok (L ++ M, a'')
theorem lvR_good {s : ByteArray} {a K sk : Nat} {v : Int} {a' : Nat} (hK : K ≤ 6) (hs : sk ≤ 2) (ha : a ≤ 8 * s.size) (h : lvR s a K sk = .ok (v, a')) : v ≠ 0 ∧ v.natAbs ≤ 3000 ∧ a' ≤ 8 * s.size := by
  unfold lvR at h
  split at h
  · cases h
  · rename_i P hP
    have hlo := lead_ok hP
    split at h
    · cases h
    · rename_i hU
      have hv := congrArg (fun x => match x with | .ok (v, a') => (v, a') | .error _ => (0, 0)) h
      simp only [Prod.mk.injEq] at hv
      obtain ⟨hv1, hv2⟩ := hv
      have hab := lvlI_abs (baseN K P + num s (a + P + 1) (sufN K P) + sk)
      rw [hv1] at hab
      have hb := base_le hK (show P ≤ 15 by omega)
      have hsu := suf_le (P := P) hK
      have hn := num_lt s (a + P + 1) (sufN K P)
      have hp : 2 ^ sufN K P ≤ 2 ^ 12 := Nat.pow_le_pow_right (by omega) hsu
      refine ⟨fun h0 => by rw [h0] at hab; simp at hab, by omega, by omega⟩
def preL (X : List Int) : Except Int (List Int × Nat) → Except Int (List Int × Nat)
  | .ok (L, a') => .ok (X ++ L, a')
  | .error e => .error e
theorem preL_nil (r : Except Int (List Int × Nat)) : preL [] r = r := by cases r <;> rfl
theorem preL_app (X Y : List Int) (r : Except Int (List Int × Nat)) : preL X (preL Y r) = preL (X ++ Y) r := by cases r <;> simp [preL]
theorem onR_succ (s : ByteArray) (n a : Nat) (h : ¬ 8 * s.size ≤ a) : onR s (n + 1) a = preL [if sb s a = 1 then -1 else 1] (onR s n (a + 1)) := by
  rw [onR, if_neg h]
  cases onR s n (a + 1) <;> rfl
theorem lvsR_succ (s : ByteArray) (n a K sk : Nat) {v : Int} {a' : Nat} (h : lvR s a K sk = .ok (v, a')) : lvsR s (n + 1) a K sk = preL [v] (lvsR s n a' (aftN K v.natAbs) 0) := by
  rw [lvsR, h]
  simp only
  cases lvsR s n a' (aftN K v.natAbs) 0 <;> rfl
theorem bit3 (b : Nat) (h : b < 2) : IntKind.wrap .i64 (1 - IntKind.wrap .i64 (2 * IntKind.wrap .i64 (b : Int))) = if b = 1 then -1 else 1 := by
  match b, h with
  | 0, _ => decide
  | 1, _ => decide
/-- The outcome: the row and where the reader is, or the error. -/
def LOut (S : Heap) (p : Nat) (s : ByteArray) (r : Except Int (List Int × Nat)) (o : Option (AV × Heap)) : Prop := match r with
  | .ok (L, a') => ∃ S', o = some (.tup [isl L, .int .i64 0], S') ∧ Rdr S' p s a' ∧ Fr S S' [p]
  | .error e => ∃ S' b, o = some (.tup [.nils, .int .i64 e], S') ∧ Rdr S' p s b ∧ Fr S S' [p]
theorem fz_nt (e : Int) (S : Heap) : fz 40 (.tup [.nils, .int .i64 e]) S = some (.tup [.nils, .int .i64 e], S) := (rfl)
theorem lvR_err {s : ByteArray} {a K sk : Nat} {e : Int} (h : lvR s a K sk = .error e) : e ≠ 0 := by
  unfold lvR at h
  split at h
  · rename_i e' he
    have := lead_err he
    have h2 : e' = e := by injection h
    omega
  · split at h
    · have h2 : (5 : Int) = e := by injection h
      omega
    · cases h
section
variable {B : CallF} (hB : Silent B) (k : Nat) {S : Heap} {p : Nat} {s : ByteArray} {a : Nat}
include hB
theorem levelsF_c (hr : Rdr S p s a) {total ones : Nat} (ht : total ≤ 16) (ho : ones ≤ 3) (hto : ones ≤ total) :
    LOut S p s (levR s a total ones) (Cn B (k + 5) f_vblock_levels 0 [.ptr p 0, .int .i64 (total : Int), .int .i64 (ones : Int)] S) := by
  rw [c_vblock_levels _ _ _ _ _ _ (hB.no _ _ _ _ (kn_no (by decide))), T_vblock_levels]
  have hplt := hr.lt
  simp only [zB, decide_true, decide_false, Bool.false_eq_true, if_false, if_true, List.getElem?_cons_zero, List.getElem?_cons_succ, beq_self_eq_true, bne_self_eq_false, Int.reduceBNe, Int.reduceBEq, Int.reduceLT, Int.reduceGT, Int.reduceLE, Int.reduceGE, Nat.reduceAdd, Nat.reduceMul, Nat.reduceLeDiff]
  refine loop_meas (LOut S p s (levR s a total ones)) (fun m st => ∃ (i : Nat) (X : List Int) (T : Heap) (q : Nat), i + m = ones ∧ X.length = i ∧ st = ([.ptr p 0, .int .i64 (total : Int), .int .i64 (ones : Int), hv X q, .int .i64 (ones : Int), .int .i64 (i : Int)], T) ∧
      Rdr T p s (a + i) ∧ HR T X q ∧ (X ≠ [] → S.next ≤ q) ∧ Fr S T [p] ∧ onR s ones a = preL X (onR s m (a + i))) ones ⟨0, [], S, 0, by omega, rfl, rfl, hr, fun h => absurd rfl h, fun h => absurd rfl h, Fr.refl _ _, (preL_nil _).symm⟩ ?_
  rintro m st ⟨i, X, T, q, him, hXl, rfl, hR, hH, hq, hF, hon⟩
  cases m with
  | succ m =>
    have c1 : (i : Int) < (ones : Int) := by omega
    by_cases hsh : 8 * s.size ≤ a + i
    · have e1 := bit_short hB (k + 1) hR (by have := hR.le; omega)
      have z5 : ((5 : Int) != 0) = true := rfl
      refine .inl ⟨(1, [.nils, .int .i64 5], T), by simp only [zB, decide_true, decide_false, Bool.false_eq_true, if_false, if_true, List.getElem?_cons_zero, List.getElem?_cons_succ, beq_self_eq_true, bne_self_eq_false, Int.reduceBNe, Int.reduceBEq, Int.reduceLT, Int.reduceGT, Int.reduceLE, Int.reduceGE, Nat.reduceAdd, Nat.reduceMul, Nat.reduceLeDiff, c1, e1, z5], ?_⟩
      have hlev : levR s a total ones = .error 5 := by unfold levR; rw [hon, onR, if_pos hsh]; rfl
      rw [hlev]
      exact ⟨T, _, by simp only [zB, decide_true, decide_false, Bool.false_eq_true, if_false, if_true, List.getElem?_cons_zero, List.getElem?_cons_succ, beq_self_eq_true, bne_self_eq_false, Int.reduceBNe, Int.reduceBEq, Int.reduceLT, Int.reduceGT, Int.reduceLE, Int.reduceGE, Nat.reduceAdd, Nat.reduceMul, Nat.reduceLeDiff, sel_1, fz_nt], hR, hF⟩
    · obtain ⟨T1, e1, hR1, f1⟩ := bit_ok hB (k + 1) hR (by omega)
      have w1 := bit3 (sb s (a + i)) (sb_lt _ _)
      have hH1 := hH.fr f1 (fun h => by have := hq h; simp; omega)
      obtain ⟨T2, e2, hH2, n2, x2, o2⟩ := appI (if sb s (a + i) = 1 then -1 else 1) hH1 (by omega)
      have hpn := hR1.lt
      have hF1 : Fr S T1 [p] := hF.trans f1 (fun j hj => .inl hj)
      have hsn := hF1.1
      have hk : ∀ j, j < S.next → T2.blk j = T1.blk j := fun j hj => o2 j (by omega) (by
        by_cases hn : X = []
        · exact .inr hn
        · exact .inl (by have := hq hn; omega))
      have w2 : IntKind.wrap .i64 ((i : Int) + 1) = ((i + 1 : Nat) : Int) := by rw [wr _ (by omega)]; omega
      have z0 : ((0 : Int) != 0) = false := rfl
      refine .inr ⟨m, ([.ptr p 0, .int .i64 (total : Int), .int .i64 (ones : Int), hv (X ++ [if sb s (a + i) = 1 then -1 else 1]) T1.next, .int .i64 (ones : Int), .int .i64 ((i + 1 : Nat) : Int)], T2), by omega, by simp only [zB, decide_true, decide_false, Bool.false_eq_true, if_false, if_true, List.getElem?_cons_zero, List.getElem?_cons_succ, beq_self_eq_true, bne_self_eq_false, Int.reduceBNe, Int.reduceBEq, Int.reduceLT, Int.reduceGT, Int.reduceLE, Int.reduceGE, Nat.reduceAdd, Nat.reduceMul, Nat.reduceLeDiff, c1, e1, z0, w1, e2, w2], i + 1, X ++ [if sb s (a + i) = 1 then -1 else 1], T2, T1.next, by omega, by simp [hXl], rfl, ⟨(hk p hplt).trans hR1.blk, by omega, hR1.sz, by have := hR1.le; omega⟩, hH2, fun _ => hsn, ⟨by omega, x2.trans hF1.2.1, fun j hj hn => (hk j hj).trans (hF1.2.2 j hj hn)⟩, ?_⟩
      rw [hon, onR_succ s m (a + i) hsh, preL_app]; rfl
  | zero =>
    have hi : i = ones := by omega
    subst hi
    have c1 : ¬ ((i : Int) < (i : Int)) := by omega
    have hon' : onR s i a = .ok (X, a + i) := by rw [hon]; simp [onR, preL]
    refine .inl ⟨(0, [.ptr p 0, .int .i64 (total : Int), .int .i64 (i : Int), hv X q], T), by simp only [zB, decide_true, decide_false, Bool.false_eq_true, if_false, if_true, List.getElem?_cons_zero, List.getElem?_cons_succ, beq_self_eq_true, bne_self_eq_false, Int.reduceBNe, Int.reduceBEq, Int.reduceLT, Int.reduceGT, Int.reduceLE, Int.reduceGE, Nat.reduceAdd, Nat.reduceMul, Nat.reduceLeDiff, c1], ?_⟩
    obtain ⟨T1, e1, hC, f1⟩ := new_c hB (k + 3) (S := T) ht ho hto
    obtain ⟨cp, hcp⟩ : ∃ cp, cp = T.next := ⟨_, rfl⟩
    rw [← hcp] at e1 hC
    have hcS : S.next ≤ cp := by have := hF.1; omega
    have z0 : ((0 : Int) != 0) = false := rfl
    simp only [zB, decide_true, decide_false, Bool.false_eq_true, if_false, if_true, List.getElem?_cons_zero, List.getElem?_cons_succ, beq_self_eq_true, bne_self_eq_false, Int.reduceBNe, Int.reduceBEq, Int.reduceLT, Int.reduceGT, Int.reduceLE, Int.reduceGE, Nat.reduceAdd, Nat.reduceMul, Nat.reduceLeDiff, sel_0, e1]
    have hF1 : Fr S T1 [p] := hF.trans f1 (fun j hj => by simp at hj)
    refine loop_meas (LOut S p s (levR s a total i)) (fun m st => ∃ (X2 : List Int) (U : Heap) (q kk ss pos : Nat), X2.length + m = total ∧ st = ([.ptr p 0, .int .i64 (total : Int), hv X2 q, .ptr cp 0], U) ∧
        Rdr U p s pos ∧ HR U X2 q ∧ (X2 ≠ [] → S.next ≤ q ∧ q ≠ cp) ∧ Cod U cp kk m ss ∧ kk ≤ 6 ∧ ss ≤ 2 ∧ Fr S U [p] ∧ levR s a total i = preL X2 (lvsR s m pos kk ss)) (total - i)
      ⟨X, T1, q, _, _, a + i, by omega, rfl, hR.fr f1 (by simp), hH.fr f1 (fun _ => by simp), fun h => ⟨hq h, by have := (hH h).2; omega⟩, hC, k0_le _ _, s0_le _, hF1, by
        unfold levR; rw [hon']; simp only; cases lvsR s (total - i) (a + i) (k0N total i) (s0N i) <;> rfl⟩ ?_
    rintro m st ⟨X2, U, q, kk, ss, pos, hml, rfl, hRU, hHU, hqU, hCU, hkk, hss, hFU, hlev⟩
    have hlU := hv_len X2 q
    cases m with
    | succ m =>
      have c2 : (X2.length : Int) < (total : Int) := by omega
      have hcpp : cp ≠ p := by omega
      obtain ⟨U1, e2, hR1, hC1, f2⟩ := lreadF_c hB k hCU hRU hcpp hkk (by omega) hss
      have hF2 : Fr S U1 [p] := hFU.trans f2 (fun j hj => by
        simp only [List.mem_cons, List.not_mem_nil, or_false] at hj ⊢
        rcases hj with rfl | rfl
        · exact .inl rfl
        · exact .inr hcS)
      cases hlr : lvR s pos kk ss with
      | error e =>
        rw [hlr] at e2 hR1 hC1
        have he := lvR_err hlr
        have ze : (e != 0) = true := by simp [he]
        simp only [encL] at e2
        have hle : levR s a total i = .error e := by rw [hlev, lvsR, hlr]; rfl
        rw [hle]
        refine .inl ⟨(1, [.nils, .int .i64 e], U1), by simp only [zB, decide_true, decide_false, Bool.false_eq_true, if_false, if_true, List.getElem?_cons_zero, List.getElem?_cons_succ, beq_self_eq_true, bne_self_eq_false, Int.reduceBNe, Int.reduceBEq, Int.reduceLT, Int.reduceGT, Int.reduceLE, Int.reduceGE, Nat.reduceAdd, Nat.reduceMul, Nat.reduceLeDiff, hlU, c2, e2, ze], ?_⟩
        exact ⟨U1, _, by simp only [zB, decide_true, decide_false, Bool.false_eq_true, if_false, if_true, List.getElem?_cons_zero, List.getElem?_cons_succ, beq_self_eq_true, bne_self_eq_false, Int.reduceBNe, Int.reduceBEq, Int.reduceLT, Int.reduceGT, Int.reduceLE, Int.reduceGE, Nat.reduceAdd, Nat.reduceMul, Nat.reduceLeDiff, sel_1, fz_nt], hR1, hF2⟩
      | ok va =>
        obtain ⟨v, a'⟩ := va
        rw [hlr] at e2 hR1 hC1
        simp only [encL] at e2
        simp only [posL] at hR1
        simp only at hC1
        have hH1 := hHU.fr f2 (fun h => by have := hqU h; simp; exact ⟨by omega, this.2⟩)
        obtain ⟨U2, e3, hH2, n2, x2, o2⟩ := appI v hH1 (by omega)
        have hsn := hF2.1
        have hkS : ∀ j, j < S.next → U2.blk j = U1.blk j := fun j hj => o2 j (by omega) (by
          by_cases hn : X2 = []
          · exact .inr hn
          · exact .inl (by have := hqU hn; omega))
        have hcl := hC1.lt
        have hrl := hR1.lt
        refine .inr ⟨m, ([.ptr p 0, .int .i64 (total : Int), hv (X2 ++ [v]) U1.next, .ptr cp 0], U2), by omega, by simp only [zB, decide_true, decide_false, Bool.false_eq_true, if_false, if_true, List.getElem?_cons_zero, List.getElem?_cons_succ, beq_self_eq_true, bne_self_eq_false, Int.reduceBNe, Int.reduceBEq, Int.reduceLT, Int.reduceGT, Int.reduceLE, Int.reduceGE, Nat.reduceAdd, Nat.reduceMul, Nat.reduceLeDiff, hlU, c2, e2, z0, e3], X2 ++ [v], U2, U1.next, aftN kk v.natAbs, 0, a', by simp; omega, rfl, ⟨(hkS p hplt).trans hR1.blk, by omega, hR1.sz, hR1.le⟩, hH2, fun _ => ⟨hsn, by omega⟩, ⟨?_, by omega⟩, (aft_le hkk _).1, by omega, ⟨by omega, x2.trans hF2.2.1, fun j hj hn => (hkS j hj).trans (hF2.2.2 j hj hn)⟩, ?_⟩
        · rw [o2 cp (by omega) (by
            by_cases hn : X2 = []
            · exact .inr hn
            · exact .inl (Ne.symm (hqU hn).2))]
          exact hC1.blk
        · rw [hlev, lvsR_succ s m pos kk ss hlr, preL_app]
    | zero =>
      have c2 : ¬ ((X2.length : Int) < (total : Int)) := by omega
      have hle : levR s a total i = .ok (X2, pos) := by rw [hlev]; simp [lvsR, preL]
      rw [hle]
      have e4 : fz 40 (.tup [hv X2 q, .int .i64 0]) U = some (.tup [isl X2, .int .i64 0], kill U X2 q) := fz_tup (fzM_c (fz_hv 37 hHU) (fzM_c (fz_int 38 _ 0 _) rfl))
      have hFk : Fr S (kill U X2 q) [p] := hFU.kill (fun h => .inr (hqU h).1)
      refine .inl ⟨(0, [hv X2 q], U), by simp only [zB, decide_true, decide_false, Bool.false_eq_true, if_false, if_true, List.getElem?_cons_zero, List.getElem?_cons_succ, beq_self_eq_true, bne_self_eq_false, Int.reduceBNe, Int.reduceBEq, Int.reduceLT, Int.reduceGT, Int.reduceLE, Int.reduceGE, Nat.reduceAdd, Nat.reduceMul, Nat.reduceLeDiff, hlU, c2], kill U X2 q, by simp only [zB, decide_true, decide_false, Bool.false_eq_true, if_false, if_true, List.getElem?_cons_zero, List.getElem?_cons_succ, beq_self_eq_true, bne_self_eq_false, Int.reduceBNe, Int.reduceBEq, Int.reduceLT, Int.reduceGT, Int.reduceLE, Int.reduceGE, Nat.reduceAdd, Nat.reduceMul, Nat.reduceLeDiff, sel_0, e4], ?_, hFk⟩
      have hkb : (kill U X2 q).blk p = U.blk p := by
        unfold kill
        split
        · rfl
        · rename_i hn
          exact set_other _ _ (by have := (hqU hn).1; omega)
      have hkn : (kill U X2 q).next = U.next := by unfold kill; split <;> rfl
      exact ⟨hkb.trans hRU.blk, by rw [hkn]; exact hRU.lt, hRU.sz, hRU.le⟩
end
theorem pair_o : ∀ v : Fin 62, (pairL.getD v.val (0, 0)).2 ≤ min (pairL.getD v.val (0, 0)).1 3 := by decide
theorem zerR_in {s : ByteArray} {a : Nat} {size total : Int} (h : (zerR s a size total).2.1 = 0) : ∃ Z : Nat, (zerR s a size total).1 = (Z : Int) ∧ (Z : Int) ≤ size - total := by
  unfold zerR at h ⊢
  by_cases g1 : sizedI size = false ∨ total < 1 ∨ total > size
  · rw [if_pos g1] at h; cases h
  rw [if_neg g1] at h ⊢
  simp only [not_or] at g1
  have hs := (sizedI_iff size).1 (by simpa using g1.1)
  obtain ⟨m, hm⟩ := Int.eq_ofNat_of_zero_le (show 0 ≤ size - total by omega)
  rw [hm] at h ⊢
  rw [Int.toNat_natCast] at h ⊢
  obtain ⟨q1, q2, q3, q4, q5, q6⟩ := cut_facts ⟨m, by omega⟩
  simp only at q1 q2 q3 q4 q5 q6
  have hD : cutD m = 2 ^ (cutB m + 1) - (m + 1) := rfl
  by_cases g2 : 8 * s.size < a + cutB m
  · rw [if_pos g2] at h; cases h
  rw [if_neg g2] at h ⊢
  by_cases g3 : num s a (cutB m) < cutD m
  · rw [if_pos g3] at h ⊢
    exact ⟨num s a (cutB m), rfl, by omega⟩
  rw [if_neg g3] at h ⊢
  by_cases g4 : 8 * s.size < a + cutB m + 1
  · rw [if_pos g4] at h; cases h
  rw [if_neg g4] at h ⊢
  have hn := num_lt s a (cutB m + 1)
  have hpre := num_pre (s := s) (a := a) (b := cutB m)
  refine ⟨num s a (cutB m + 1) - cutD m, ?_, ?_⟩
  · show ((num s a (cutB m + 1) : Nat) : Int) - (cutD m : Nat) = _
    omega
  · omega
theorem runR_in {s : ByteArray} {a : Nat} {left : Int} (ha : a ≤ 8 * s.size) (h : (runR s a left).2.1 = 0) : ∃ n : Nat, (runR s a left).1 = (n : Int) ∧ (n : Int) ≤ left := by
  unfold runR at h ⊢
  by_cases g1 : left < 0 ∨ left > 15
  · rw [if_pos g1] at h; cases h
  rw [if_neg g1] at h ⊢
  simp only [not_or] at g1
  cases hr : runN s left.toNat a with
  | none => rw [hr] at h; cases h
  | some n =>
    have := runN_ok ha hr
    exact ⟨n, rfl, by omega⟩
theorem tokR_in {s : ByteArray} {a : Nat} {cls size : Int} (h : (tokR s a cls size).2.2.1 = 0) : ∃ t o : Nat, (tokR s a cls size).1 = (t : Int) ∧ (tokR s a cls size).2.1 = (o : Int) ∧ (t : Int) ≤ size ∧ o ≤ min t 3 ∧ sizedI size = true := by
  unfold tokR at h ⊢
  by_cases g1 : cls < 0 ∨ cls > 4 ∨ sizedI size = false
  · rw [if_pos g1] at h; cases h
  rw [if_neg g1] at h ⊢
  simp only [not_or] at g1
  have hsz : sizedI size = true := by simpa using g1.2.2
  cases hn : numR s cls.toNat a with
  | error e =>
    rw [hn] at h
    simp only at h
    have := numR_err hn
    omega
  | ok va =>
    obtain ⟨v, a'⟩ := va
    rw [hn] at h
    simp only at h ⊢
    by_cases g2 : v ≥ bef (size.toNat + 1)
    · rw [if_pos g2] at h; cases h
    rw [if_neg g2]
    have hb := bef_le size hsz
    have hv : v < 62 := by omega
    obtain ⟨q1, q2, q3⟩ := tok_same ⟨v, hv⟩
    have q4 := pair_o ⟨v, hv⟩
    simp only at q1 q2 q3 q4
    refine ⟨(pairL.getD v (0, 0)).1, (pairL.getD v (0, 0)).2, ?_, ?_, ?_, q4, hsz⟩
    · unfold pairR; rw [if_neg (by omega)]; simp
    · unfold pairR; rw [if_neg (by omega)]; simp
    · rcases (sizedI_iff size).1 hsz with rfl | rfl | rfl
      · have : ¬ v ≥ bef 5 := g2
        have := (not_congr q1).1 this
        simp only [Decidable.not_not] at this
        omega
      · have : ¬ v ≥ bef 16 := g2
        have := (not_congr q2).1 this
        simp only [Decidable.not_not] at this
        omega
      · have : ¬ v ≥ bef 17 := g2
        have := (not_congr q3).1 this
        simp only [Decidable.not_not] at this
        omega
/-- An error is met: it is laid down, the row is none, and what the deferred call then leaves. -/
theorem read_fail {B : CallF} (k : Nat) (G : Nat → Option (List AV)) {S : Heap} {p : Nat} {s : ByteArray} {a : Nat} (hr : Rdr S p s a) {x bc a' : Nat} {T : Heap} {v : AV} (h : RS S p x bc s a T a' v) (e : Int) (he : e ≠ 0) :
    ∃ T0 T1 T2 T3 S', putV (.ptr (S.next + 2) 0) [.int .i64 e] T = some T0 ∧ T0.blk (S.next + 2) = some [.int .i64 e] ∧ putV (.ptr (S.next + 1) 0) [.nils] T0 = some T1 ∧ T1.blk (S.next + 2) = some [.int .i64 e] ∧ putV (.ptr (S.next + 2) 0) [.int .i64 e] T1 = some T2 ∧
      T_vblock_Read_1 ctlV G (Cn B k) (.ptr (S.next + 2) 0) (.ptr (S.next + 1) 0) (.ptr S.next 0) (.ptr bc 0) T2 = some (.tup [], T3) ∧ T2.cx = T.cx ∧ T3.blk (S.next + 1) = some [.nils] ∧ T3.blk (S.next + 2) = some [.int .i64 e] ∧
      S' = tidy S T3 ∧ Rdr S' p s a ∧ Fr S S' [p] := by
  have hox := h.ox
  have hplt := hr.lt
  have hnx := h.nx
  have e0 := put1_0' (x := .int .i64 e) h.be
  obtain ⟨T0, hT0⟩ : ∃ T0, T0 = T.set (S.next + 2) (some [.int .i64 e]) := ⟨_, rfl⟩
  rw [← hT0] at e0
  have b0 : T0.blk (S.next + 2) = some [.int .i64 e] := by rw [hT0, set_blk]
  have b0' : T0.blk (S.next + 1) = some [v] := by rw [hT0, set_other _ _ (by omega)]; exact h.bb
  have e1 := put1_0' (x := .nils) b0'
  obtain ⟨T1, hT1⟩ : ∃ T1, T1 = T0.set (S.next + 1) (some [.nils]) := ⟨_, rfl⟩
  rw [← hT1] at e1
  have b1' : T1.blk (S.next + 2) = some [.int .i64 e] := by rw [hT1, set_other _ _ (by omega)]; exact b0
  have e2 := put1_0' (x := .int .i64 e) b1'
  obtain ⟨T2, hT2⟩ : ∃ T2, T2 = T1.set (S.next + 2) (some [.int .i64 e]) := ⟨_, rfl⟩
  rw [← hT2] at e2
  have b1 : T2.blk (S.next + 1) = some [.nils] := by rw [hT2, set_other _ _ (by omega), hT1, set_blk]
  have b2 : T2.blk (S.next + 2) = some [.int .i64 e] := by rw [hT2, set_blk]
  have e3 := put1_0' (x := .nils) b1
  obtain ⟨T3, hT3⟩ : ∃ T3, T3 = T2.set (S.next + 1) (some [.nils]) := ⟨_, rfl⟩
  rw [← hT3] at e3
  have ze : (e != 0) = true := by simp [he]
  have old : ∀ j, j < S.next → T3.blk j = S.blk j := fun j hj => by
    rw [hT3, set_other _ _ (by omega), hT2, set_other _ _ (by omega), hT1, set_other _ _ (by omega), hT0, set_other _ _ (by omega)]; exact h.old j hj
  have hn3 : T3.next = T.next := by rw [hT3, hT2, hT1, hT0]; rfl
  refine ⟨T0, T1, T2, T3, tidy S T3, e0, b0, e1, b1', e2, ?_, by rw [hT2, hT1, hT0]; rfl, by rw [hT3, set_blk], by rw [hT3, set_other _ _ (by omega)]; exact b2, rfl, ⟨(old p hplt).trans hr.blk, ?_, hr.sz, hr.le⟩, ?_, rfl, fun j hj _ => old j hj⟩
  · unfold T_vblock_Read_1
    simp only [zB, decide_true, decide_false, Bool.false_eq_true, if_false, if_true, List.getElem?_cons_zero, List.getElem?_cons_succ, beq_self_eq_true, bne_self_eq_false, Int.reduceBNe, Int.reduceBEq, Int.reduceLT, Int.reduceGT, Int.reduceLE, Int.reduceGE, Nat.reduceAdd, Nat.reduceMul, Nat.reduceLeDiff, b2, ze, e3]
  · show p < T3.next; omega
  · show S.next ≤ T3.next; omega
/-- So many runs of zeros, one after another. -/
def runsR (s : ByteArray) : Nat → Nat → Nat → Except Int (List Nat × Nat)
  | 0, _, a => .ok ([], a)
  | n + 1, left, a => if left = 0 then (match runsR s n 0 a with
      | .error e => .error e
      | .ok (M, a') => .ok (0 :: M, a'))
    else if (runR s a left).2.1 ≠ 0 then .error (runR s a left).2.1 else (match runsR s n (left - (runR s a left).1.toNat) (runR s a left).2.2 with
      | .error e => .error e
      | .ok (M, a') => .ok ((runR s a left).1.toNat :: M, a'))
/-- What is read: the block and the place behind it, or the error. -/
def readR (s : ByteArray) (a : Nat) (cls size : Int) : Except Int (List Int × Nat) :=
  if cls < 0 ∨ cls > 4 ∨ sizedI size = false then .error 3 else
  if (tokR s a cls size).2.2.1 ≠ 0 then .error (tokR s a cls size).2.2.1 else
  if (tokR s a cls size).1 = 0 then .ok (List.replicate size.toNat 0, (tokR s a cls size).2.2.2) else
  match levR s (tokR s a cls size).2.2.2 (tokR s a cls size).1.toNat (tokR s a cls size).2.1.toNat with
  | .error e => .error e
  | .ok (L, a1) => if (zerR s a1 size (tokR s a cls size).1).2.1 ≠ 0 then .error (zerR s a1 size (tokR s a cls size).1).2.1 else
    match runsR s ((tokR s a cls size).1.toNat - 1) (zerR s a1 size (tokR s a cls size).1).1.toNat (zerR s a1 size (tokR s a cls size).1).2.2 with
    | .error e => .error e
    | .ok (M, a3) => .ok (fill L M ((zerR s a1 size (tokR s a cls size).1).1.toNat + L.length - 1) (List.replicate size.toNat 0), a3)
theorem runsR_in {s : ByteArray} : ∀ (n left a : Nat) (M : List Nat) (a' : Nat), a ≤ 8 * s.size → runsR s n left a = .ok (M, a') → M.length = n ∧ M.sum ≤ left
  | 0, left, a, M, a', ha, h => by
    rw [runsR] at h
    injection h with h
    have := (Prod.mk.inj h).1
    subst this; simp
  | n + 1, left, a, M, a', ha, h => by
    rw [runsR] at h
    by_cases h0 : left = 0
    · rw [if_pos h0] at h
      cases hr : runsR s n 0 a with
      | error e => rw [hr] at h; cases h
      | ok x =>
        obtain ⟨M', b⟩ := x
        rw [hr] at h
        injection h with h
        have hM := (Prod.mk.inj h).1
        have ih := runsR_in n 0 a M' b ha hr
        rw [← hM]; simp [ih.1]; omega
    · rw [if_neg h0] at h
      by_cases h1 : (runR s a left).2.1 ≠ 0
      · rw [if_pos h1] at h; cases h
      · rw [if_neg h1] at h
        have h1' : (runR s a left).2.1 = 0 := by simpa using h1
        obtain ⟨m, q1, q2⟩ := runR_in ha h1'
        have hpos : (runR s a left).2.2 ≤ 8 * s.size := by
          unfold runR at h1' ⊢
          split
          · exact ha
          · rename_i hg
            rw [if_neg hg] at h1'
            cases hrn : runN s (left : Int).toNat a with
            | none => exact ha
            | some v => exact (runN_ok ha hrn).2
        cases hr : runsR s n (left - (runR s a left).1.toNat) (runR s a left).2.2 with
        | error e => rw [hr] at h; cases h
        | ok x =>
          obtain ⟨M', b⟩ := x
          rw [hr] at h
          injection h with h
          have hM := (Prod.mk.inj h).1
          have ih := runsR_in n _ _ M' b hpos hr
          rw [← hM, q1]
          rw [q1] at ih
          simp only [Int.toNat_natCast] at ih ⊢
          simp only [List.length_cons, List.sum_cons]; omega
theorem rst_zeros : ∀ (z : Nat) (l : List Int), rst (List.replicate z 0 ++ l) = ((rst l).1, (rst l).2.1, (rst l).2.2 + z)
  | 0, l => by simp
  | z + 1, l => by
    rw [List.replicate_succ, List.cons_append]
    have ih := rst_zeros z l
    have e : rst ((0 : Int) :: (List.replicate z 0 ++ l)) = ((rst (List.replicate z 0 ++ l)).1, (rst (List.replicate z 0 ++ l)).2.1, (rst (List.replicate z 0 ++ l)).2.2 + 1) := by simp only [rst, if_true]
    rw [e, ih]; rfl
theorem rst_rep (n : Nat) : rst (List.replicate n (0 : Int)) = ([], [], n) := by
  have := rst_zeros n []
  rw [List.append_nil] at this
  rw [this]; simp [rst]
theorem rst_has : ∀ (k : Nat) (L : List Int) (M : List Nat) (z n : Nat), L.length = k → L ≠ [] → (∀ v ∈ L, v ≠ 0) → M.length = L.length - 1 → L.length + M.sum + z ≤ n → ∃ l : List Int, l.length = n ∧ rst l = (L, M, z) ∧ ∀ v ∈ l, v = 0 ∨ v ∈ L
  | 0, L, M, z, n, hk, h0, hv, hM, hn => absurd (List.length_eq_zero_iff.1 hk) h0
  | k + 1, L, M, z, n, hk, h0, hv, hM, hn => by
    rcases List.eq_nil_or_concat L with h | ⟨L', v, hL⟩
    · exact absurd h h0
    rw [List.concat_eq_append] at hL
    subst hL
    have hv0 : v ≠ 0 := hv v (by simp)
    by_cases h1 : L' = []
    · subst h1
      have hM0 : M = [] := List.length_eq_zero_iff.1 (by simpa using hM)
      subst hM0
      simp only [List.nil_append, List.length_cons, List.length_nil, List.sum_nil] at hn
      refine ⟨List.replicate z 0 ++ v :: List.replicate (n - z - 1) 0, by simp; omega, ?_, fun w hw => ?_⟩
      · rw [rst_zeros]
        have e : rst (v :: List.replicate (n - z - 1) 0) = ([v], [], 0) := by
          have hr := rst_rep (n - z - 1)
          simp only [rst, if_neg hv0, hr, if_true]
        rw [e]; simp
      · rcases List.mem_append.1 hw with h | h
        · exact .inl (List.mem_replicate.1 h).2
        · rcases List.mem_cons.1 h with h | h
          · exact .inr (by simp [h])
          · exact .inl (List.mem_replicate.1 h).2
    · have hp := List.length_pos_iff.2 h1
      rcases List.eq_nil_or_concat M with h | ⟨M', b, hMe⟩
      · rw [h] at hM; simp at hM; omega
      rw [List.concat_eq_append] at hMe
      subst hMe
      simp only [List.length_append, List.length_cons, List.length_nil, List.sum_append, List.sum_cons, List.sum_nil] at hk hM hn
      obtain ⟨l, q1, q2, q3⟩ := rst_has k L' M' b (n - z - 1) (by omega) h1 (fun w hw => hv w (by simp [hw])) (by omega) (by omega)
      refine ⟨List.replicate z 0 ++ v :: l, by simp [q1]; omega, ?_, fun w hw => ?_⟩
      · rw [rst_zeros]
        have e : rst (v :: l) = (L' ++ [v], M' ++ [b], 0) := by
          simp only [rst, if_neg hv0, q2, if_neg h1]
        rw [e]; simp
      · rcases List.mem_append.1 hw with h | h
        · exact .inl (List.mem_replicate.1 h).2
        · rcases List.mem_cons.1 h with h | h
          · exact .inr (by simp [h])
          · rcases q3 w h with h | h
            · exact .inl h
            · exact .inr (by simp [h])
theorem rUe_mono {s : ByteArray} {a v a' : Nat} (h : rUe s a = .ok (v, a')) : a ≤ a' := by
  unfold rUe at h
  split at h
  · cases h
  · split at h
    · cases h
    · injection h with h
      have := (Prod.mk.inj h).2
      omega
theorem rUk_mono {s : ByteArray} {k a v a' : Nat} (h : rUk s k a = .ok (v, a')) : a ≤ a' := by
  unfold rUk at h
  split at h
  · cases h
  · rename_i w b hw
    have := rUe_mono hw
    split at h
    · cases h
    · injection h with h
      have := (Prod.mk.inj h).2
      omega
theorem numR_mono {s : ByteArray} {c a v a' : Nat} (h : numR s c a = .ok (v, a')) : a ≤ a' := by
  unfold numR at h
  split at h
  · unfold rU at h
    split at h
    · cases h
    · injection h with h
      have := (Prod.mk.inj h).2
      omega
  · exact rUk_mono h
theorem tokR_mono (s : ByteArray) (a : Nat) (cls size : Int) : a ≤ (tokR s a cls size).2.2.2 := by
  unfold tokR
  split
  · exact Nat.le_refl _
  · cases hn : numR s cls.toNat a with
    | error e => exact Nat.le_refl _
    | ok x =>
      obtain ⟨v, a'⟩ := x
      have := numR_mono hn
      simp only
      split
      · exact Nat.le_refl _
      · exact this
theorem oneD_0 {β : Type} (f : Nat) (K0 : Option β) (K : List AV → Option β) : oneD [] f K0 K = K0 := rfl
/-- The outcome of reading a block. -/
def BOut (S : Heap) (p : Nat) (s : ByteArray) (a : Nat) (r : Except Int (List Int × Nat)) (o : Option (AV × Heap)) : Prop := match r with
  | .ok (l, a') => ∃ S', o = some (.tup [isl l, .int .i64 0], S') ∧ Rdr S' p s a' ∧ Fr S S' [p]
  | .error e => ∃ S', o = some (.tup [.nils, .int .i64 e], S') ∧ Rdr S' p s a ∧ Fr S S' [p]
section
variable {B : CallF} (hB : Silent B) (k : Nat) {S : Heap} {p : Nat} {s : ByteArray} {a : Nat}
include hB
theorem readTok_c (hr : Rdr S p s a) {cls size : Int} (hc : ¬ (cls < 0 ∨ cls > 4)) (hsz' : sizedI size = true) (he : (tokR s a cls size).2.2.1 ≠ 0 ∨ (tokR s a cls size).1 = 0) :
    BOut S p s a (readR s a cls size) (Cn B (k + 10) f_vblock_Read 0 [.ptr p 0, .int .i64 cls, .int .i64 size] S) := by
  rw [c_vblock_Read _ _ _ _ _ _ (hB.no _ _ _ _ (kn_no (by decide))), T_vblock_Read]
  have hplt := hr.lt
  have hca : cell (.ptr p 0) = true := rfl
  have n2 : ∀ n : Nat, n + 1 + 1 = n + 2 := fun _ => rfl
  have on : (openD S).next = S.next := rfl
  obtain ⟨U, hU⟩ : ∃ U, U = (((openD S).alloc [.ptr p 0]).alloc [.nils]).alloc [.int .i64 0] := ⟨_, rfl⟩
  have un : U.next = S.next + 3 := by rw [hU]; rfl
  have ub : ∀ j, j < S.next → U.blk j = S.blk j := fun j hj => by
    rw [hU, alloc_other _ _ (by show j ≠ S.next + 1 + 1; omega), alloc_other _ _ (by show j ≠ S.next + 1; omega), alloc_other _ _ (by show j ≠ S.next; omega)]; rfl
  have u0 : U.blk S.next = some [.ptr p 0] := by
    rw [hU, alloc_other _ _ (by show S.next ≠ S.next + 1 + 1; omega), alloc_other _ _ (by show S.next ≠ S.next + 1; omega)]; exact alloc_blk (openD S) _
  have u1 : U.blk (S.next + 1) = some [.nils] := by
    rw [hU, alloc_other _ _ (by show S.next + 1 ≠ S.next + 1 + 1; omega)]; exact alloc_blk ((openD S).alloc _) _
  have u2 : U.blk (S.next + 2) = some [.int .i64 0] := by rw [hU]; exact alloc_blk (((openD S).alloc _).alloc _) _
  have ux : U.cx = (S.cx.1, []) := by rw [hU]; rfl
  have hRU : Rdr U p s a := ⟨(ub p hplt).trans hr.blk, by omega, hr.sz, hr.le⟩
  have c1 : ¬ cls < 0 := by omega
  have c2 : ¬ cls > 4 := by omega
  have e1 := vsized_c hB (k + 8) (S := U) size
  rw [hsz'] at e1
  obtain ⟨V, e2, rV, fV⟩ := rcopy_c hB (k + 8) hRU
  have vn := fV.1
  obtain ⟨x, hx⟩ : ∃ x, x = U.next := ⟨_, rfl⟩
  rw [← hx] at e2 rV
  have hxlt := rV.lt
  obtain ⟨bc, hbc⟩ : ∃ bc, bc = V.next := ⟨_, rfl⟩
  obtain ⟨V1, hV1⟩ : ∃ V1, V1 = V.alloc [.nilp] := ⟨_, rfl⟩
  have v1b : V1.blk bc = some [.nilp] := by rw [hV1, hbc]; exact alloc_blk _ _
  have e3 := put1_0' (x := .ptr x 0) v1b
  obtain ⟨W, hW⟩ : ∃ W, W = V1.set bc (some [.ptr x 0]) := ⟨_, rfl⟩
  rw [← hW] at e3
  have wk : ∀ j, j < bc → W.blk j = V.blk j := fun j hj => by rw [hW, set_other _ _ (by omega), hV1, alloc_other _ _ (by omega)]
  have hcx2 : cell (.ptr x 0) = true := rfl
  obtain ⟨P, hP⟩ : ∃ P, P = pushD W f_vblock_Read_1 [.ptr (S.next + 2) 0, .ptr (S.next + 1) 0, .ptr S.next 0, .ptr bc 0] := ⟨_, rfl⟩
  have pk : ∀ j, P.blk j = W.blk j := fun j => by rw [hP]; rfl
  have hRS : RS S p x bc s a P a .nils := by
    refine ⟨?_, ?_, ?_, ?_, ⟨?_, ?_, rV.sz, rV.le⟩, fun j hj => ?_, ?_, ?_, ⟨by omega, by omega⟩⟩
    · rw [pk, wk _ (by omega)]; exact (fV.get (by omega) (by simp)).trans u0
    · rw [pk, wk _ (by omega)]; exact (fV.get (by omega) (by simp)).trans u1
    · rw [pk, wk _ (by omega)]; exact (fV.get (by omega) (by simp)).trans u2
    · rw [pk, hW, set_blk]
    · rw [pk, wk _ (by omega)]; exact rV.blk
    · rw [hP, hW, hV1]; show x < V.next + 1; omega
    · rw [pk, wk _ (by omega)]; exact (fV.get (by omega) (by simp)).trans (ub j hj)
    · rw [hP, hW, hV1]; show bc < V.next + 1; omega
    · have wx : W.cx = (S.cx.1, []) := by rw [hW, hV1]; exact fV.2.1.trans ux
      rw [hP]; unfold pushD; rw [wx]
  obtain ⟨P1, e4, r4, f4⟩ := token_c hB k hRS.rx cls size
  have hRS1 := hRS.fr f4 r4
  have hg : ¬ (cls < 0 ∨ cls > 4 ∨ sizedI size = false) := by rw [hsz']; simp; omega
  by_cases te : (tokR s a cls size).2.2.1 ≠ 0
  · have hrr : readR s a cls size = .error (tokR s a cls size).2.2.1 := by unfold readR; rw [if_neg hg, if_pos te]
    rw [hrr]
    obtain ⟨T0, T1, T2, T3, S', q0, q1, q2, q3, q4, q5, q6, q7, q8, q9, q10, q11⟩ := read_fail (B := B) (k + 9) (fun _ => none) hr hRS1 _ te
    have ze : ((tokR s a cls size).2.2.1 != 0) = true := by simp [te]
    have hcx1 := q6.trans hRS1.cx
    have ffz : fz 40 (.tup [.nils, .int .i64 (tokR s a cls size).2.2.1]) T3 = some (.tup [.nils, .int .i64 (tokR s a cls size).2.2.1], T3) := rfl
    refine ⟨S', ?_, q10, q11⟩
    simp only [zB, decide_true, decide_false, Bool.false_eq_true, if_false, if_true, List.getElem?_cons_zero, List.getElem?_cons_succ, beq_self_eq_true, bne_self_eq_false, Int.reduceBNe, Int.reduceBEq, Int.reduceLT, Int.reduceGT, Int.reduceLE, Int.reduceGE, Nat.reduceAdd, Nat.reduceMul, Nat.reduceLeDiff, hca, on, alloc_next, n2, ← hU, u0, c1, c2, e1, e2, ← hbc, ← hV1, hcx2, List.all_cons, List.all_nil, e3, ← hP, hRS.bc', e4, q0, q1, ze, q2, q3, q4, hcx1, oneD_1, q5, q7, q8, ffz, q9]
  · have te0 : (tokR s a cls size).2.2.1 = 0 := by simpa using te
    have t0 : (tokR s a cls size).1 = 0 := he.resolve_left te
    have hrr : readR s a cls size = .ok (List.replicate size.toNat 0, (tokR s a cls size).2.2.2) := by unfold readR; rw [if_neg hg, if_neg te, if_pos t0]
    rw [hrr]
    obtain ⟨n, hn⟩ := Int.eq_ofNat_of_zero_le (show 0 ≤ size by rcases (sizedI_iff size).1 hsz' with h | h | h <;> omega)
    have hn16 : n ≤ 16 ∧ 4 ≤ n := by rcases (sizedI_iff size).1 hsz' with h | h | h <;> omega
    rw [te0] at e4
    obtain ⟨e5, hRS2⟩ := hRS1.sete
    obtain ⟨P2, hP2⟩ : ∃ P2, P2 = P1.set (S.next + 2) (some [.int .i64 0]) := ⟨_, rfl⟩
    rw [← hP2] at e5 hRS2
    obtain ⟨l, hl⟩ : ∃ l, l = List.replicate size.toNat (0 : Int) := ⟨_, rfl⟩
    rw [← hl]
    have hll : l.length = n := by rw [hl, List.length_replicate, hn]; rfl
    have hlne : l ≠ [] := fun h => by rw [h] at hll; simp at hll; omega
    have his : isl l = .is n (List.replicate n (.int .i64 0)) := by rw [isl_is2 hlne, hll, ints_rep2, hl, hn]; rfl
    obtain ⟨k1, k2, k3, k4⟩ := mk12 (n := n) (by omega)
    have c3 : ((tokR s a cls size).1 == 0) = true := by rw [t0]; rfl
    have z0 : ((0 : Int) != 0) = false := rfl
    obtain ⟨e6, hRS3⟩ := hRS2.setb (isl l)
    obtain ⟨P3, hP3⟩ : ∃ P3, P3 = P2.set (S.next + 1) (some [isl l]) := ⟨_, rfl⟩
    rw [← hP3] at e6 hRS3
    obtain ⟨e7, hRS4⟩ := hRS3.sete
    obtain ⟨P4, hP4⟩ : ∃ P4, P4 = P3.set (S.next + 2) (some [.int .i64 0]) := ⟨_, rfl⟩
    rw [← hP4] at e7 hRS4
    have hle : a ≤ (tokR s a cls size).2.2.2 := tokR_mono s a cls size
    obtain ⟨m, hm⟩ := Nat.le.dest hle
    rw [← hm] at hRS4
    obtain ⟨T', S', q1, q2, q3, q4, q5, q6⟩ := read_end hB (k + 6) (fun _ => none) hr hRS4
    rw [hm] at q5
    have hx4 := hRS4.cx
    rw [his] at e6
    have ffz : ∀ T : Heap, fz 40 (.tup [isl l, .int .i64 0]) T = some (.tup [isl l, .int .i64 0], T) := fun T => fz_tup (fzM_c (fz_isl 38 l T) (fzM_c (fz_int 38 _ 0 _) rfl))
    refine ⟨S', ?_, q5, q6⟩
    rw [hn] at e1 e4 c3 ⊢
    simp only [zB, decide_true, decide_false, Bool.false_eq_true, if_false, if_true, List.getElem?_cons_zero, List.getElem?_cons_succ, beq_self_eq_true, bne_self_eq_false, Int.reduceBNe, Int.reduceBEq, Int.reduceLT, Int.reduceGT, Int.reduceLE, Int.reduceGE, Nat.reduceAdd, Nat.reduceMul, Nat.reduceLeDiff, hca, on, alloc_next, n2, ← hU, u0, c1, c2, e1, e2, ← hbc, ← hV1, hcx2, List.all_cons, List.all_nil, e3, ← hP, hRS.bc', e4, e5, hRS2.be, z0, c3, k1, k2, k3, k4, Int.toNat_natCast, e6, e7, hx4, oneD_1, q1, q2, q3, ffz, q4]
end
theorem onR_good {s : ByteArray} : ∀ (n a : Nat) (L : List Int) (a' : Nat), a ≤ 8 * s.size → onR s n a = .ok (L, a') → L.length = n ∧ (∀ v ∈ L, v ≠ 0 ∧ v.natAbs ≤ 3000) ∧ a' ≤ 8 * s.size
  | 0, a, L, a', ha, h => by
    rw [onR] at h
    injection h with h
    obtain ⟨h1, h2⟩ := Prod.mk.inj h
    subst h1; subst h2; simp [ha]
  | n + 1, a, L, a', ha, h => by
    rw [onR] at h
    by_cases h0 : 8 * s.size ≤ a
    · rw [if_pos h0] at h; cases h
    · rw [if_neg h0] at h
      cases hr : onR s n (a + 1) with
      | error e => rw [hr] at h; cases h
      | ok x =>
        obtain ⟨M, b⟩ := x
        rw [hr] at h
        injection h with h
        obtain ⟨h1, h2⟩ := Prod.mk.inj h
        obtain ⟨i1, i2, i3⟩ := onR_good n (a + 1) M b (by omega) hr
        rw [← h1, ← h2]
        refine ⟨by simp [i1], fun v hv => ?_, i3⟩
        rcases List.mem_cons.1 hv with hv | hv
        · rw [hv]; split <;> exact ⟨by decide, by decide⟩
        · exact i2 v hv
theorem aftN_le {K v : Nat} (h : K ≤ 6) : aftN K v ≤ 6 := (aft_le h v).1
theorem lvsR_good {s : ByteArray} : ∀ (n a K sk : Nat) (L : List Int) (a' : Nat), K ≤ 6 → sk ≤ 2 → a ≤ 8 * s.size → lvsR s n a K sk = .ok (L, a') → L.length = n ∧ (∀ v ∈ L, v ≠ 0 ∧ v.natAbs ≤ 3000) ∧ a' ≤ 8 * s.size
  | 0, a, K, sk, L, a', hK, hs, ha, h => by
    rw [lvsR] at h
    injection h with h
    obtain ⟨h1, h2⟩ := Prod.mk.inj h
    subst h1; subst h2; simp [ha]
  | n + 1, a, K, sk, L, a', hK, hs, ha, h => by
    rw [lvsR] at h
    cases hl : lvR s a K sk with
    | error e => rw [hl] at h; cases h
    | ok x =>
      obtain ⟨v, b⟩ := x
      rw [hl] at h
      simp only at h
      obtain ⟨v1, v2, v3⟩ := lvR_good hK hs ha hl
      cases hr : lvsR s n b (aftN K v.natAbs) 0 with
      | error e => rw [hr] at h; cases h
      | ok x =>
        obtain ⟨M, c⟩ := x
        rw [hr] at h
        injection h with h
        obtain ⟨h1, h2⟩ := Prod.mk.inj h
        obtain ⟨i1, i2, i3⟩ := lvsR_good n b _ 0 M c (aftN_le hK) (by omega) v3 hr
        rw [← h1, ← h2]
        refine ⟨by simp [i1], fun w hw => ?_, i3⟩
        rcases List.mem_cons.1 hw with hw | hw
        · rw [hw]; exact ⟨v1, v2⟩
        · exact i2 w hw
theorem levR_good {s : ByteArray} {a t o : Nat} {L : List Int} {a' : Nat} (hto : o ≤ t) (ha : a ≤ 8 * s.size) (h : levR s a t o = .ok (L, a')) : L.length = t ∧ (∀ v ∈ L, v ≠ 0 ∧ v.natAbs ≤ 3000) ∧ a' ≤ 8 * s.size := by
  unfold levR at h
  cases h1 : onR s o a with
  | error e => rw [h1] at h; cases h
  | ok x =>
    obtain ⟨M, b⟩ := x
    rw [h1] at h
    simp only at h
    obtain ⟨m1, m2, m3⟩ := onR_good o a M b ha h1
    cases h2 : lvsR s (t - o) b (k0N t o) (s0N o) with
    | error e => rw [h2] at h; cases h
    | ok y =>
      obtain ⟨M2, c⟩ := y
      rw [h2] at h
      injection h with h
      obtain ⟨e1, e2⟩ := Prod.mk.inj h
      obtain ⟨n1, n2, n3⟩ := lvsR_good (t - o) b _ _ M2 c (by unfold k0N; split <;> omega) (by unfold s0N; split <;> omega) m3 h2
      rw [← e1, ← e2]
      refine ⟨by simp [m1, n1]; omega, fun v hv => ?_, n3⟩
      rcases List.mem_append.1 hv with hv | hv
      · exact m2 v hv
      · exact n2 v hv
theorem onR_err {s : ByteArray} : ∀ (n a : Nat) (e : Int), onR s n a = .error e → e ≠ 0
  | 0, a, e, h => by rw [onR] at h; cases h
  | n + 1, a, e, h => by
    rw [onR] at h
    by_cases h0 : 8 * s.size ≤ a
    · rw [if_pos h0] at h
      have : (5 : Int) = e := by injection h
      omega
    · rw [if_neg h0] at h
      cases hr : onR s n (a + 1) with
      | error e' =>
        rw [hr] at h
        have : e' = e := by injection h
        subst this; exact onR_err n (a + 1) e' hr
      | ok x => rw [hr] at h; cases h
theorem lvsR_err {s : ByteArray} : ∀ (n a K sk : Nat) (e : Int), lvsR s n a K sk = .error e → e ≠ 0
  | 0, a, K, sk, e, h => by rw [lvsR] at h; cases h
  | n + 1, a, K, sk, e, h => by
    rw [lvsR] at h
    cases hl : lvR s a K sk with
    | error e' =>
      rw [hl] at h
      have : e' = e := by injection h
      subst this; exact lvR_err hl
    | ok x =>
      obtain ⟨v, b⟩ := x
      rw [hl] at h
      simp only at h
      cases hr : lvsR s n b (aftN K v.natAbs) 0 with
      | error e' =>
        rw [hr] at h
        have : e' = e := by injection h
        subst this; exact lvsR_err n b _ 0 e' hr
      | ok x => rw [hr] at h; cases h
theorem levR_err {s : ByteArray} {a t o : Nat} {e : Int} (h : levR s a t o = .error e) : e ≠ 0 := by
  unfold levR at h
  cases h1 : onR s o a with
  | error e' =>
    rw [h1] at h
    have : e' = e := by injection h
    subst this; exact onR_err o a e' h1
  | ok x =>
    obtain ⟨M, b⟩ := x
    rw [h1] at h
    simp only at h
    cases h2 : lvsR s (t - o) b (k0N t o) (s0N o) with
    | error e' =>
      rw [h2] at h
      have : e' = e := by injection h
      subst this; exact lvsR_err _ _ _ _ e' h2
    | ok y => rw [h2] at h; cases h
theorem zerR_pos {s : ByteArray} {a : Nat} {size total : Int} (ha : a ≤ 8 * s.size) : a ≤ (zerR s a size total).2.2 ∧ (zerR s a size total).2.2 ≤ 8 * s.size := by
  unfold zerR
  split
  · exact ⟨Nat.le_refl _, ha⟩
  · split
    · exact ⟨Nat.le_refl _, ha⟩
    · split
      · exact ⟨by simp only; omega, by simp only; omega⟩
      · split
        · exact ⟨Nat.le_refl _, ha⟩
        · exact ⟨by simp only; omega, by simp only; omega⟩
theorem lvR_mono {s : ByteArray} {a K sk : Nat} {v : Int} {a' : Nat} (h : lvR s a K sk = .ok (v, a')) : a ≤ a' := by
  unfold lvR at h
  split at h
  · cases h
  · split at h
    · cases h
    · have hv := congrArg (fun x => match x with | .ok (v, a') => a' | .error _ => 0) h
      simp only at hv
      omega
theorem onR_mono {s : ByteArray} : ∀ (n a : Nat) (L : List Int) (a' : Nat), onR s n a = .ok (L, a') → a ≤ a'
  | 0, a, L, a', h => by
    rw [onR] at h
    injection h with h
    have := (Prod.mk.inj h).2
    omega
  | n + 1, a, L, a', h => by
    rw [onR] at h
    by_cases h0 : 8 * s.size ≤ a
    · rw [if_pos h0] at h; cases h
    · rw [if_neg h0] at h
      cases hr : onR s n (a + 1) with
      | error e => rw [hr] at h; cases h
      | ok x =>
        obtain ⟨M, b⟩ := x
        rw [hr] at h
        injection h with h
        have := (Prod.mk.inj h).2
        have := onR_mono n (a + 1) M b hr
        omega
theorem lvsR_mono {s : ByteArray} : ∀ (n a K sk : Nat) (L : List Int) (a' : Nat), lvsR s n a K sk = .ok (L, a') → a ≤ a'
  | 0, a, K, sk, L, a', h => by
    rw [lvsR] at h
    injection h with h
    have := (Prod.mk.inj h).2
    omega
  | n + 1, a, K, sk, L, a', h => by
    rw [lvsR] at h
    cases hl : lvR s a K sk with
    | error e => rw [hl] at h; cases h
    | ok x =>
      obtain ⟨v, b⟩ := x
      rw [hl] at h
      simp only at h
      have := lvR_mono hl
      cases hr : lvsR s n b (aftN K v.natAbs) 0 with
      | error e => rw [hr] at h; cases h
      | ok x =>
        obtain ⟨M, c⟩ := x
        rw [hr] at h
        injection h with h
        have := (Prod.mk.inj h).2
        have := lvsR_mono n b _ 0 M c hr
        omega
theorem levR_mono {s : ByteArray} {a t o : Nat} {L : List Int} {a' : Nat} (h : levR s a t o = .ok (L, a')) : a ≤ a' := by
  unfold levR at h
  cases h1 : onR s o a with
  | error e => rw [h1] at h; cases h
  | ok x =>
    obtain ⟨M, b⟩ := x
    rw [h1] at h
    simp only at h
    have := onR_mono o a M b h1
    cases h2 : lvsR s (t - o) b (k0N t o) (s0N o) with
    | error e => rw [h2] at h; cases h
    | ok y =>
      obtain ⟨M2, c⟩ := y
      rw [h2] at h
      injection h with h
      have := (Prod.mk.inj h).2
      have := lvsR_mono _ _ _ _ M2 c h2
      omega
/-- What the runs that were read go on with. -/
def preM (X : List Nat) : Except Int (List Nat × Nat) → Except Int (List Nat × Nat)
  | .ok (L, a') => .ok (X ++ L, a')
  | .error e => .error e
theorem preM_nil (r : Except Int (List Nat × Nat)) : preM [] r = r := by cases r <;> rfl
theorem preM_app (X Y : List Nat) (r : Except Int (List Nat × Nat)) : preM X (preM Y r) = preM (X ++ Y) r := by cases r <;> simp [preM]
theorem runsR_0 (s : ByteArray) (n a : Nat) : runsR s (n + 1) 0 a = preM [0] (runsR s n 0 a) := by
  rw [runsR, if_pos rfl]
  cases runsR s n 0 a <;> rfl
theorem runsR_s {s : ByteArray} {n left a : Nat} (h0 : left ≠ 0) (h1 : (runR s a left).2.1 = 0) : runsR s (n + 1) left a = preM [(runR s a left).1.toNat] (runsR s n (left - (runR s a left).1.toNat) (runR s a left).2.2) := by
  rw [runsR, if_neg h0, if_neg (by simp [h1])]
  cases runsR s n (left - (runR s a left).1.toNat) (runR s a left).2.2 <;> rfl
theorem runsR_e {s : ByteArray} {n left a : Nat} (h0 : left ≠ 0) (h1 : (runR s a left).2.1 ≠ 0) : runsR s (n + 1) left a = .error (runR s a left).2.1 := by
  rw [runsR, if_neg h0, if_pos h1]
theorem runsR_err {s : ByteArray} : ∀ (n left a : Nat) (e : Int), runsR s n left a = .error e → e ≠ 0
  | 0, left, a, e, h => by rw [runsR] at h; cases h
  | n + 1, left, a, e, h => by
    by_cases h0 : left = 0
    · subst h0
      rw [runsR_0] at h
      cases hr : runsR s n 0 a with
      | error e' =>
        rw [hr] at h
        have : e' = e := by injection h
        subst this; exact runsR_err n 0 a e' hr
      | ok x => rw [hr] at h; cases h
    · by_cases h1 : (runR s a left).2.1 ≠ 0
      · rw [runsR_e h0 h1] at h
        have : (runR s a left).2.1 = e := by injection h
        rw [← this]; exact h1
      · rw [runsR_s h0 (by simpa using h1)] at h
        cases hr : runsR s n (left - (runR s a left).1.toNat) (runR s a left).2.2 with
        | error e' =>
          rw [hr] at h
          have : e' = e := by injection h
          subst this; exact runsR_err n _ _ e' hr
        | ok x => rw [hr] at h; cases h
theorem readR_err {s : ByteArray} {a : Nat} {cls size e : Int} (h : readR s a cls size = .error e) : e ≠ 0 := by
  unfold readR at h
  split at h
  · have : (3 : Int) = e := by injection h
    omega
  · split at h
    · rename_i h1
      have : (tokR s a cls size).2.2.1 = e := by injection h
      rw [← this]; exact h1
    · split at h
      · cases h
      · split at h
        · rename_i e' he
          have : e' = e := by injection h
          rw [← this]; exact levR_err he
        · split at h
          · rename_i L a1 _ h1
            have : (zerR s a1 size (tokR s a cls size).1).2.1 = e := by injection h
            rw [← this]; exact h1
          · split at h
            · rename_i e' he
              have : e' = e := by injection h
              rw [← this]; exact runsR_err _ _ _ _ he
            · cases h
/-- The block of the levels and the runs. -/
def finR (L : List Int) (Z n : Nat) : Except Int (List Nat × Nat) → Except Int (List Int × Nat)
  | .error e => .error e
  | .ok (M, a3) => .ok (fill L M (Z + L.length - 1) (List.replicate n 0), a3)
/-- Of what was read there is a block. -/
theorem read_blk {n : Nat} (hn : sizedI (n : Int) = true) {L : List Int} {M : List Nat} {Z : Nat} (hL0 : L ≠ []) (hL : ∀ v ∈ L, v ≠ 0 ∧ v.natAbs ≤ 3000) (hM : M.length = L.length - 1) (hZ : M.sum ≤ Z) (hsz : L.length + Z ≤ n) :
    ∃ l, l = fill L M (Z + L.length - 1) (List.replicate n 0) ∧ Blk l ∧ l.length = n ∧ (rst l).1 = L ∧ (rst l).2.1 = M ∧ rZ l = Z := by
  obtain ⟨l, q1, q2, q3⟩ := rst_has L.length L M (Z - M.sum) n rfl hL0 (fun v hv => (hL v hv).1) hM (by omega)
  have e1 : (rst l).1 = L := by rw [q2]
  have e2 : (rst l).2.1 = M := by rw [q2]
  have e3 : (rst l).2.2 = Z - M.sum := by rw [q2]
  have hf := fill_rst l (by rw [e1]; exact hL0)
  have hp := List.length_pos_iff.2 hL0
  rw [e1, e2, e3, q1, show Z - M.sum + (L.length - 1) + M.sum = Z + L.length - 1 by omega] at hf
  refine ⟨l, hf.symm, ⟨by rw [q1]; exact hn, ?_⟩, q1, e1, e2, ?_⟩
  · unfold rngd
    rw [List.all_eq_true]
    intro v hv
    rcases q3 v hv with h | h
    · rw [h]; decide
    · have := (hL v h).2
      simp only [Bool.and_eq_true, decide_eq_true_eq]; omega
  · unfold rZ
    rw [if_neg (by rw [e1]; exact hL0), e2, e3]; omega
section
variable {B : CallF} (hB : Silent B) (k : Nat) {S : Heap} {p : Nat} {s : ByteArray} {a : Nat}
include hB
theorem readBig_c (hr : Rdr S p s a) {cls size : Int} (hc : ¬ (cls < 0 ∨ cls > 4)) (hsz' : sizedI size = true) (te0 : (tokR s a cls size).2.2.1 = 0) (t0 : (tokR s a cls size).1 ≠ 0) :
    BOut S p s a (readR s a cls size) (Cn B (k + 10) f_vblock_Read 0 [.ptr p 0, .int .i64 cls, .int .i64 size] S) := by
  rw [c_vblock_Read _ _ _ _ _ _ (hB.no _ _ _ _ (kn_no (by decide))), T_vblock_Read]
  have hplt := hr.lt
  have hca : cell (.ptr p 0) = true := rfl
  have n2 : ∀ n : Nat, n + 1 + 1 = n + 2 := fun _ => rfl
  have on : (openD S).next = S.next := rfl
  obtain ⟨U, hU⟩ : ∃ U, U = (((openD S).alloc [.ptr p 0]).alloc [.nils]).alloc [.int .i64 0] := ⟨_, rfl⟩
  have un : U.next = S.next + 3 := by rw [hU]; rfl
  have ub : ∀ j, j < S.next → U.blk j = S.blk j := fun j hj => by
    rw [hU, alloc_other _ _ (by show j ≠ S.next + 1 + 1; omega), alloc_other _ _ (by show j ≠ S.next + 1; omega), alloc_other _ _ (by show j ≠ S.next; omega)]; rfl
  have u0 : U.blk S.next = some [.ptr p 0] := by
    rw [hU, alloc_other _ _ (by show S.next ≠ S.next + 1 + 1; omega), alloc_other _ _ (by show S.next ≠ S.next + 1; omega)]; exact alloc_blk (openD S) _
  have u1 : U.blk (S.next + 1) = some [.nils] := by
    rw [hU, alloc_other _ _ (by show S.next + 1 ≠ S.next + 1 + 1; omega)]; exact alloc_blk ((openD S).alloc _) _
  have u2 : U.blk (S.next + 2) = some [.int .i64 0] := by rw [hU]; exact alloc_blk (((openD S).alloc _).alloc _) _
  have ux : U.cx = (S.cx.1, []) := by rw [hU]; rfl
  have hRU : Rdr U p s a := ⟨(ub p hplt).trans hr.blk, by omega, hr.sz, hr.le⟩
  have c1 : ¬ cls < 0 := by omega
  have c2 : ¬ cls > 4 := by omega
  have e1 := vsized_c hB (k + 8) (S := U) size
  rw [hsz'] at e1
  obtain ⟨V, e2, rV, fV⟩ := rcopy_c hB (k + 8) hRU
  have vn := fV.1
  obtain ⟨x, hx⟩ : ∃ x, x = U.next := ⟨_, rfl⟩
  rw [← hx] at e2 rV
  have hxlt := rV.lt
  obtain ⟨bc, hbc⟩ : ∃ bc, bc = V.next := ⟨_, rfl⟩
  obtain ⟨V1, hV1⟩ : ∃ V1, V1 = V.alloc [.nilp] := ⟨_, rfl⟩
  have v1b : V1.blk bc = some [.nilp] := by rw [hV1, hbc]; exact alloc_blk _ _
  have e3 := put1_0' (x := .ptr x 0) v1b
  obtain ⟨W, hW⟩ : ∃ W, W = V1.set bc (some [.ptr x 0]) := ⟨_, rfl⟩
  rw [← hW] at e3
  have wk : ∀ j, j < bc → W.blk j = V.blk j := fun j hj => by rw [hW, set_other _ _ (by omega), hV1, alloc_other _ _ (by omega)]
  have hcx2 : cell (.ptr x 0) = true := rfl
  obtain ⟨P, hP⟩ : ∃ P, P = pushD W f_vblock_Read_1 [.ptr (S.next + 2) 0, .ptr (S.next + 1) 0, .ptr S.next 0, .ptr bc 0] := ⟨_, rfl⟩
  have pk : ∀ j, P.blk j = W.blk j := fun j => by rw [hP]; rfl
  have hRS : RS S p x bc s a P a .nils := by
    refine ⟨?_, ?_, ?_, ?_, ⟨?_, ?_, rV.sz, rV.le⟩, fun j hj => ?_, ?_, ?_, ⟨by omega, by omega⟩⟩
    · rw [pk, wk _ (by omega)]; exact (fV.get (by omega) (by simp)).trans u0
    · rw [pk, wk _ (by omega)]; exact (fV.get (by omega) (by simp)).trans u1
    · rw [pk, wk _ (by omega)]; exact (fV.get (by omega) (by simp)).trans u2
    · rw [pk, hW, set_blk]
    · rw [pk, wk _ (by omega)]; exact rV.blk
    · rw [hP, hW, hV1]; show x < V.next + 1; omega
    · rw [pk, wk _ (by omega)]; exact (fV.get (by omega) (by simp)).trans (ub j hj)
    · rw [hP, hW, hV1]; show bc < V.next + 1; omega
    · have wx : W.cx = (S.cx.1, []) := by rw [hW, hV1]; exact fV.2.1.trans ux
      rw [hP]; unfold pushD; rw [wx]
  obtain ⟨P1, e4, r4, f4⟩ := token_c hB k hRS.rx cls size
  have hRS1 := hRS.fr f4 r4
  have hg : ¬ (cls < 0 ∨ cls > 4 ∨ sizedI size = false) := by rw [hsz']; simp; omega
  obtain ⟨t, o, t1, t2, t3, t4, t5⟩ := tokR_in te0
  obtain ⟨n, hn⟩ := Int.eq_ofNat_of_zero_le (show 0 ≤ size by rcases (sizedI_iff size).1 hsz' with h | h | h <;> omega)
  have hn16 : n ≤ 16 ∧ 4 ≤ n := by rcases (sizedI_iff size).1 hsz' with h | h | h <;> omega
  have htn : t ≤ n := by omega
  have ht0 : t ≠ 0 := fun h => t0 (by rw [t1, h]; rfl)
  have hrr : readR s a cls size = match levR s (tokR s a cls size).2.2.2 t o with
    | .error e => .error e
    | .ok (L, a1) => if (zerR s a1 size (t : Int)).2.1 ≠ 0 then .error (zerR s a1 size (t : Int)).2.1 else
      match runsR s (t - 1) (zerR s a1 size (t : Int)).1.toNat (zerR s a1 size (t : Int)).2.2 with
      | .error e => .error e
      | .ok (M, a3) => .ok (fill L M ((zerR s a1 size (t : Int)).1.toNat + L.length - 1) (List.replicate size.toNat 0), a3) := by
    unfold readR
    rw [if_neg hg, if_neg (by simp [te0]), if_neg t0, t1, t2]
    rfl
  rw [hrr]
  rw [te0, t1, t2] at e4
  have tle := tokR_mono s a cls size
  obtain ⟨a1, ha1⟩ : ∃ a1, a1 = (tokR s a cls size).2.2.2 := ⟨_, rfl⟩
  rw [← ha1] at hRS1 tle ⊢
  obtain ⟨e5, hRS2⟩ := hRS1.sete
  obtain ⟨P2, hP2⟩ : ∃ P2, P2 = P1.set (S.next + 2) (some [.int .i64 0]) := ⟨_, rfl⟩
  rw [← hP2] at e5 hRS2
  have z0 : ((0 : Int) != 0) = false := rfl
  have c3 : (((t : Nat) : Int) == 0) = false := by simp; exact ht0
  have ffe : ∀ (e : Int) (T : Heap), fz 40 (.tup [.nils, .int .i64 e]) T = some (.tup [.nils, .int .i64 e], T) := fun e T => rfl
  have e6 := levelsF_c hB (k + 4) hRS2.rx (total := t) (ones := o) (by omega) (by omega) (by omega)
  cases hL : levR s a1 t o with
  | error e =>
    rw [hL] at e6
    obtain ⟨P3, b, e6, r6, f6⟩ := e6
    have hRS3 := hRS2.fr f6 r6
    have hne := levR_err hL
    obtain ⟨T0, T1, T2, T3, S', q0, q1, q2, q3, q4, q5, q6, q7, q8, q9, q10, q11⟩ := read_fail (B := B) (k + 9) (fun _ => none) hr hRS3 e hne
    have ze : (e != 0) = true := by simp [hne]
    have hcx1 := q6.trans hRS3.cx
    have ffz := ffe e T3
    refine ⟨S', ?_, q10, q11⟩
    simp only [zB, decide_true, decide_false, Bool.false_eq_true, if_false, if_true, List.getElem?_cons_zero, List.getElem?_cons_succ, beq_self_eq_true, bne_self_eq_false, Int.reduceBNe, Int.reduceBEq, Int.reduceLT, Int.reduceGT, Int.reduceLE, Int.reduceGE, Nat.reduceAdd, Nat.reduceMul, Nat.reduceLeDiff, hca, on, alloc_next, n2, ← hU, u0, c1, c2, e1, e2, ← hbc, ← hV1, hcx2, List.all_cons, List.all_nil, e3, ← hP, hRS.bc', e4, e5, hRS2.be, hRS2.bc', z0, c3, e6, cell, q0, q1, ze, q2, q3, q4, hcx1, oneD_1, q5, q7, q8, ffz, q9]
  | ok x =>
    obtain ⟨L, a2⟩ := x
    rw [hL] at e6
    obtain ⟨P3, e6, r6, f6⟩ := e6
    obtain ⟨hLl, hLv, ha2⟩ := levR_good (by omega) hRS2.rx.le hL
    have hL0 : L ≠ [] := fun h => by rw [h] at hLl; simp at hLl; omega
    have hRS3 := hRS2.fr f6 r6
    obtain ⟨e7, hRS4⟩ := hRS3.sete
    obtain ⟨P4, hP4⟩ : ∃ P4, P4 = P3.set (S.next + 2) (some [.int .i64 0]) := ⟨_, rfl⟩
    rw [← hP4] at e7 hRS4
    obtain ⟨P5, e8, r8, f8⟩ := zeros_c hB (k + 6) hRS4.rx size (t : Int)
    have hRS5 := hRS4.fr f8 r8
    by_cases hze : (zerR s a2 size (t : Int)).2.1 ≠ 0
    · simp only [if_pos hze]
      obtain ⟨T0, T1, T2, T3, S', q0, q1, q2, q3, q4, q5, q6, q7, q8, q9, q10, q11⟩ := read_fail (B := B) (k + 9) (fun _ => none) hr hRS5 _ hze
      have ze : ((zerR s a2 size (t : Int)).2.1 != 0) = true := by simp [hze]
      have hcx1 := q6.trans hRS5.cx
      have ffz := ffe (zerR s a2 size (t : Int)).2.1 T3
      refine ⟨S', ?_, q10, q11⟩
      simp only [zB, decide_true, decide_false, Bool.false_eq_true, if_false, if_true, List.getElem?_cons_zero, List.getElem?_cons_succ, beq_self_eq_true, bne_self_eq_false, Int.reduceBNe, Int.reduceBEq, Int.reduceLT, Int.reduceGT, Int.reduceLE, Int.reduceGE, Nat.reduceAdd, Nat.reduceMul, Nat.reduceLeDiff, hca, on, alloc_next, n2, ← hU, u0, c1, c2, e1, e2, ← hbc, ← hV1, hcx2, List.all_cons, List.all_nil, e3, ← hP, hRS.bc', e4, e5, hRS2.be, hRS2.bc', z0, c3, e6, isl_cell, e7, hRS4.be, hRS4.bc', e8, q0, q1, ze, q2, q3, q4, hcx1, oneD_1, q5, q7, q8, ffz, q9]
    · simp only [if_neg hze]
      have hze0 : (zerR s a2 size (t : Int)).2.1 = 0 := by simpa using hze
      obtain ⟨Z, hZ, hZl⟩ := zerR_in hze0
      have hzp := zerR_pos (size := size) (total := (t : Int)) ha2
      rw [hZ, hze0] at e8
      rw [hZ]
      obtain ⟨a3, ha3⟩ : ∃ a3, a3 = (zerR s a2 size (t : Int)).2.2 := ⟨_, rfl⟩
      rw [← ha3] at hRS5 hzp ⊢
      simp only [Int.toNat_natCast]
      obtain ⟨e9, hRS6⟩ := hRS5.sete
      obtain ⟨P6, hP6⟩ : ∃ P6, P6 = P5.set (S.next + 2) (some [.int .i64 0]) := ⟨_, rfl⟩
      rw [← hP6] at e9 hRS6
      have w1 : IntKind.wrap .i64 ((t : Int) - 1) = ((t - 1 : Nat) : Int) := by rw [wr _ (by omega)]; omega
      simp only [zB, decide_true, decide_false, Bool.false_eq_true, if_false, if_true, List.getElem?_cons_zero, List.getElem?_cons_succ, beq_self_eq_true, bne_self_eq_false, Int.reduceBNe, Int.reduceBEq, Int.reduceLT, Int.reduceGT, Int.reduceLE, Int.reduceGE, Nat.reduceAdd, Nat.reduceMul, Nat.reduceLeDiff, hca, on, alloc_next, n2, ← hU, u0, c1, c2, e1, e2, ← hbc, ← hV1, hcx2, List.all_cons, List.all_nil, e3, ← hP, hRS.bc', e4, e5, hRS2.be, hRS2.bc', z0, c3, e6, isl_cell, e7, hRS4.be, hRS4.bc', e8, e9, hRS6.be, w1]
      obtain ⟨RR, hRR⟩ : ∃ RR, RR = runsR s (t - 1) Z a3 := ⟨_, rfl⟩
      rw [← hRR]
      change BOut S p s a (finR L Z size.toNat RR) _
      refine loop_meas (BOut S p s a (finR L Z size.toNat RR)) (fun m st => ∃ (i left : Nat) (T : Heap) (q pos : Nat) (X : List Nat), i + m = t - 1 ∧ X.length = i ∧ st = ([.int .i64 size, .ptr (S.next + 1) 0, .ptr (S.next + 2) 0, .ptr bc 0, .agg [isl L, .int .i64 (Z : Int), hv (natI X) q], .int .i64 (left : Int), .int .i64 ((t - 1 : Nat) : Int), .int .i64 (i : Int)], T) ∧
          RS S p x bc s a T pos .nils ∧ HR T (natI X) q ∧ (natI X ≠ [] → bc < q) ∧ X.sum + left = Z ∧ a ≤ pos ∧ RR = preM X (runsR s m left pos)) (t - 1)
        ⟨0, Z, P6, 0, a3, [], by omega, rfl, rfl, hRS6, fun h => absurd rfl h, fun h => absurd rfl h, by simp, by have := levR_mono hL; omega, by rw [preM_nil]; exact hRR⟩ ?_
      rintro m st ⟨i, left, T, q, pos, X, him, hXl, rfl, hRT, hHT, hqT, hsm, hap, hRX⟩
      have hnx := hRT.nx
      have hox := hRT.ox
      have hZ16 : Z ≤ 16 := by omega
      have htl : (natI X).length ≤ 16 := by rw [natI_len]; omega
      cases m with
      | succ m =>
        have c4 : (i : Int) < ((t - 1 : Nat) : Int) := by omega
        have w2 : IntKind.wrap .i64 ((i : Int) + 1) = ((i + 1 : Nat) : Int) := by rw [wr _ (by omega)]; omega
        by_cases hl0 : left = 0
        · subst hl0
          have c5 : ¬ (((0 : Nat) : Int) > 0) := by omega
          obtain ⟨T1, e10, hH1, n1, x1, o1⟩ := appI (0 : Int) hHT (by omega)
          have hnt : natI X ++ [(0 : Int)] = natI (X ++ [0]) := by rw [natI_app]; rfl
          rw [hnt] at e10 hH1
          have hk : ∀ j, j ≤ bc → T1.blk j = T.blk j := fun j hj => o1 j (by omega) (by
            by_cases hn : natI X = []
            · exact .inr hn
            · exact .inl (by have := hqT hn; omega))
          have w3 : IntKind.wrap .i64 (((0 : Nat) : Int) - 0) = ((0 : Nat) : Int) := by rw [wr _ (by omega)]; rfl
          exact .inr ⟨m, ([.int .i64 size, .ptr (S.next + 1) 0, .ptr (S.next + 2) 0, .ptr bc 0, .agg [isl L, .int .i64 (Z : Int), hv (natI (X ++ [0])) T.next], .int .i64 ((0 : Nat) : Int), .int .i64 ((t - 1 : Nat) : Int), .int .i64 ((i + 1 : Nat) : Int)], T1), by omega, by simp only [zB, decide_true, decide_false, Bool.false_eq_true, if_false, if_true, List.getElem?_cons_zero, List.getElem?_cons_succ, beq_self_eq_true, bne_self_eq_false, Int.reduceBNe, Int.reduceBEq, Int.reduceLT, Int.reduceGT, Int.reduceLE, Int.reduceGE, Nat.reduceAdd, Nat.reduceMul, Nat.reduceLeDiff, c4, c5, e10, hv_cell, List.all_cons, List.all_nil, List.length_cons, List.length_nil, set3_2, w3, w2], i + 1, 0, T1, T.next, pos, X ++ [0], by omega, by simp [hXl], rfl,
            hRT.gen x1 (by omega) (fun j hj _ => hk j hj) ⟨(hk x (by omega)).trans hRT.rx.blk, by have := hRT.rx.lt; omega, hRT.rx.sz, hRT.rx.le⟩, hH1, fun _ => hnx, by simp; omega, hap, by rw [hRX, runsR_0, preM_app]⟩
        · have c5 : (left : Int) > 0 := by omega
          obtain ⟨T0, e10, r10, f10⟩ := run_c hB (k + 5) hRT.rx (left : Int)
          have hRT0 := hRT.fr f10 r10
          by_cases hre : (runR s pos (left : Int)).2.1 ≠ 0
          · rw [runsR_e hl0 hre] at hRX
            obtain ⟨U0, U1, U2, U3, S', q0, q1, q2, q3, q4, q5, q6, q7, q8, q9, q10, q11⟩ := read_fail (B := B) (k + 9) (fun _ => none) hr hRT0 _ hre
            have ze : ((runR s pos (left : Int)).2.1 != 0) = true := by simp [hre]
            have hcx1 := q6.trans hRT0.cx
            have ffz := ffe (runR s pos (left : Int)).2.1 U3
            rw [hRX]
            simp only [preM, finR]
            refine .inl ⟨(1, [.ptr (S.next + 1) 0, .ptr (S.next + 2) 0], U2), by simp only [zB, decide_true, decide_false, Bool.false_eq_true, if_false, if_true, List.getElem?_cons_zero, List.getElem?_cons_succ, beq_self_eq_true, bne_self_eq_false, Int.reduceBNe, Int.reduceBEq, Int.reduceLT, Int.reduceGT, Int.reduceLE, Int.reduceGE, Nat.reduceAdd, Nat.reduceMul, Nat.reduceLeDiff, c4, c5, hRT.bc', e10, q0, q1, ze, q2, q3, q4], ⟨S', ?_, q10, q11⟩⟩
            simp only [zB, decide_true, decide_false, Bool.false_eq_true, if_false, if_true, List.getElem?_cons_zero, List.getElem?_cons_succ, beq_self_eq_true, bne_self_eq_false, Int.reduceBNe, Int.reduceBEq, Int.reduceLT, Int.reduceGT, Int.reduceLE, Int.reduceGE, Nat.reduceAdd, Nat.reduceMul, Nat.reduceLeDiff, sel_1, hcx1, oneD_1, q5, q7, q8, ffz, q9]
          · have hre0 : (runR s pos (left : Int)).2.1 = 0 := by simpa using hre
            obtain ⟨r, hr1, hr2⟩ := runR_in hRT.rx.le hre0
            rw [runsR_s hl0 hre0, hr1, Int.toNat_natCast] at hRX
            rw [hr1, hre0] at e10
            obtain ⟨pos2, hpos2⟩ : ∃ pos2, pos2 = (runR s pos (left : Int)).2.2 := ⟨_, rfl⟩
            rw [← hpos2] at hRT0 hRX
            have hpm : pos ≤ pos2 := by
              rw [hpos2]; unfold runR
              split
              · exact Nat.le_refl _
              · split
                · exact Nat.le_refl _
                · simp only; omega
            obtain ⟨e11, hRT1⟩ := hRT0.sete
            obtain ⟨T1, hT1⟩ : ∃ T1, T1 = T0.set (S.next + 2) (some [.int .i64 0]) := ⟨_, rfl⟩
            rw [← hT1] at e11 hRT1
            have t1n : T1.next = T0.next := by rw [hT1]; rfl
            have t0n := f10.1
            have hH0 : HR T1 (natI X) q := fun hn => by
              have hq := hqT hn
              refine ⟨?_, by have := (hHT hn).2; omega⟩
              rw [hT1, set_other _ _ (by omega)]
              exact (f10.get (hHT hn).2 (by simp; omega)).trans (hHT hn).1
            obtain ⟨T2, e12, hH2, n2', x2, o2⟩ := appI (r : Int) hH0 (by omega)
            have hnt : natI X ++ [(r : Int)] = natI (X ++ [r]) := by rw [natI_app]; rfl
            rw [hnt] at e12 hH2
            have hnx1 := hRT1.nx
            have hk : ∀ j, j ≤ bc → T2.blk j = T1.blk j := fun j hj => o2 j (by omega) (by
              by_cases hn : natI X = []
              · exact .inr hn
              · exact .inl (by have := hqT hn; omega))
            have w3 : IntKind.wrap .i64 ((left : Int) - (r : Int)) = ((left - r : Nat) : Int) := by rw [wr _ (by omega)]; omega
            exact .inr ⟨m, ([.int .i64 size, .ptr (S.next + 1) 0, .ptr (S.next + 2) 0, .ptr bc 0, .agg [isl L, .int .i64 (Z : Int), hv (natI (X ++ [r])) T1.next], .int .i64 ((left - r : Nat) : Int), .int .i64 ((t - 1 : Nat) : Int), .int .i64 ((i + 1 : Nat) : Int)], T2), by omega, by simp only [zB, decide_true, decide_false, Bool.false_eq_true, if_false, if_true, List.getElem?_cons_zero, List.getElem?_cons_succ, beq_self_eq_true, bne_self_eq_false, Int.reduceBNe, Int.reduceBEq, Int.reduceLT, Int.reduceGT, Int.reduceLE, Int.reduceGE, Nat.reduceAdd, Nat.reduceMul, Nat.reduceLeDiff, c4, c5, hRT.bc', e10, e11, hRT1.be, z0, e12, hv_cell, List.all_cons, List.all_nil, List.length_cons, List.length_nil, set3_2, w3, w2], i + 1, left - r, T2, T1.next, pos2, X ++ [r], by omega, by simp [hXl], rfl,
              hRT1.gen x2 (by omega) (fun j hj _ => hk j hj) ⟨(hk x (by omega)).trans hRT1.rx.blk, by have := hRT1.rx.lt; omega, hRT1.rx.sz, hRT1.rx.le⟩, hH2, fun _ => hnx1, by simp; omega, by omega, by rw [hRX, preM_app]⟩
      | zero =>
        have hi : i = t - 1 := by omega
        subst hi
        have c4 : ¬ (((t - 1 : Nat) : Int) < ((t - 1 : Nat) : Int)) := by omega
        rw [runsR] at hRX
        simp only [preM, List.append_nil] at hRX
        rw [hRX]
        simp only [finR]
        refine .inl ⟨(0, [.int .i64 size, .ptr (S.next + 1) 0, .ptr (S.next + 2) 0, .agg [isl L, .int .i64 (Z : Int), hv (natI X) q]], T), by simp only [zB, decide_true, decide_false, Bool.false_eq_true, if_false, if_true, List.getElem?_cons_zero, List.getElem?_cons_succ, beq_self_eq_true, bne_self_eq_false, Int.reduceBNe, Int.reduceBEq, Int.reduceLT, Int.reduceGT, Int.reduceLE, Int.reduceGE, Nat.reduceAdd, Nat.reduceMul, Nat.reduceLeDiff, c4], ?_⟩
        rw [hn, Int.toNat_natCast]
        obtain ⟨l, l0, l1, l2, l3, l4, l5⟩ := read_blk (n := n) (by rw [← hn]; exact hsz') hL0 hLv (M := X) (Z := Z) (by omega) (by omega) (by omega)
        rw [← l0]
        have hil : IL T (hv (natI X) q) (natI (rst l).2.1) q := by rw [l4]; exact hv_il hHT
        obtain ⟨T1, e10, f10⟩ := block_c hB (k + 7) l1 hil
        rw [l2, l3, l5] at e10
        have hRT1 := hRT.fr0 f10
        obtain ⟨e11, hRT2⟩ := hRT1.setb (isl l)
        obtain ⟨T2, hT2⟩ : ∃ T2, T2 = T1.set (S.next + 1) (some [isl l]) := ⟨_, rfl⟩
        rw [← hT2] at e11 hRT2
        obtain ⟨e12, hRT3⟩ := hRT2.sete
        obtain ⟨T3, hT3⟩ : ∃ T3, T3 = T2.set (S.next + 2) (some [.int .i64 0]) := ⟨_, rfl⟩
        rw [← hT3] at e12 hRT3
        obtain ⟨d, hd⟩ := Nat.le.dest hap
        rw [← hd] at hRT3
        obtain ⟨T', S', q1, q2, q3, q4, q5, q6⟩ := read_end hB (k + 6) (fun _ => none) hr hRT3
        rw [hd] at q5
        have hx3 := hRT3.cx
        have ffz : ∀ T : Heap, fz 40 (.tup [isl l, .int .i64 0]) T = some (.tup [isl l, .int .i64 0], T) := fun T => fz_tup (fzM_c (fz_isl 38 l T) (fzM_c (fz_int 38 _ 0 _) rfl))
        refine ⟨S', ?_, q5, q6⟩
        simp only [zB, decide_true, decide_false, Bool.false_eq_true, if_false, if_true, List.getElem?_cons_zero, List.getElem?_cons_succ, beq_self_eq_true, bne_self_eq_false, Int.reduceBNe, Int.reduceBEq, Int.reduceLT, Int.reduceGT, Int.reduceLE, Int.reduceGE, Nat.reduceAdd, Nat.reduceMul, Nat.reduceLeDiff, sel_0, List.length_cons, List.length_nil, take3, e10, isl_cell, List.all_cons, List.all_nil, e11, e12, hx3, oneD_1, q1, q2, q3, ffz, q4]
theorem readNot_c (hr : Rdr S p s a) {cls size : Int} (hg : cls < 0 ∨ cls > 4 ∨ sizedI size = false) :
    BOut S p s a (readR s a cls size) (Cn B (k + 10) f_vblock_Read 0 [.ptr p 0, .int .i64 cls, .int .i64 size] S) := by
  have hrr : readR s a cls size = .error 3 := by unfold readR; rw [if_pos hg]
  rw [hrr]
  rw [c_vblock_Read _ _ _ _ _ _ (hB.no _ _ _ _ (kn_no (by decide))), T_vblock_Read]
  have hplt := hr.lt
  have hca : cell (.ptr p 0) = true := rfl
  have n2 : ∀ n : Nat, n + 1 + 1 = n + 2 := fun _ => rfl
  have on : (openD S).next = S.next := rfl
  obtain ⟨U, hU⟩ : ∃ U, U = (((openD S).alloc [.ptr p 0]).alloc [.nils]).alloc [.int .i64 0] := ⟨_, rfl⟩
  have un : U.next = S.next + 3 := by rw [hU]; rfl
  have ub : ∀ j, j < S.next → U.blk j = S.blk j := fun j hj => by
    rw [hU, alloc_other _ _ (by show j ≠ S.next + 1 + 1; omega), alloc_other _ _ (by show j ≠ S.next + 1; omega), alloc_other _ _ (by show j ≠ S.next; omega)]; rfl
  have u0 : U.blk S.next = some [.ptr p 0] := by
    rw [hU, alloc_other _ _ (by show S.next ≠ S.next + 1 + 1; omega), alloc_other _ _ (by show S.next ≠ S.next + 1; omega)]; exact alloc_blk (openD S) _
  have u1 : U.blk (S.next + 1) = some [.nils] := by
    rw [hU, alloc_other _ _ (by show S.next + 1 ≠ S.next + 1 + 1; omega)]; exact alloc_blk ((openD S).alloc _) _
  have u2 : U.blk (S.next + 2) = some [.int .i64 0] := by rw [hU]; exact alloc_blk (((openD S).alloc _).alloc _) _
  have ux : U.cx = (S.cx.1, []) := by rw [hU]; rfl
  have e1 := vsized_c hB (k + 8) (S := U) size
  have q0 := put1_0' (x := .nils) u1
  obtain ⟨V, hV⟩ : ∃ V, V = U.set (S.next + 1) (some [.nils]) := ⟨_, rfl⟩
  rw [← hV] at q0
  have v2 : V.blk (S.next + 2) = some [.int .i64 0] := by rw [hV, set_other _ _ (by omega)]; exact u2
  have q1 := put1_0' (x := .int .i64 3) v2
  obtain ⟨W, hW⟩ : ∃ W, W = V.set (S.next + 2) (some [.int .i64 3]) := ⟨_, rfl⟩
  rw [← hW] at q1
  have w1 : W.blk (S.next + 1) = some [.nils] := by rw [hW, set_other _ _ (by omega), hV, set_blk]
  have w2 : W.blk (S.next + 2) = some [.int .i64 3] := by rw [hW, set_blk]
  have wx : W.cx = (S.cx.1, []) := by rw [hW, hV]; exact ux
  have wb : ∀ j, j < S.next → W.blk j = S.blk j := fun j hj => by rw [hW, set_other _ _ (by omega), hV, set_other _ _ (by omega)]; exact ub j hj
  have wn : W.next = S.next + 3 := by rw [hW, hV]; exact un
  have ffz : fz 40 (.tup [.nils, .int .i64 3]) W = some (.tup [.nils, .int .i64 3], W) := rfl
  refine ⟨tidy S W, ?_, ⟨(wb p hplt).trans hr.blk, by show p < W.next; omega, hr.sz, hr.le⟩, ⟨by show S.next ≤ W.next; omega, rfl, fun j hj _ => wb j hj⟩⟩
  by_cases c1 : cls < 0
  · simp only [zB, decide_true, decide_false, Bool.false_eq_true, if_false, if_true, List.getElem?_cons_zero, List.getElem?_cons_succ, beq_self_eq_true, bne_self_eq_false, Int.reduceBNe, Int.reduceBEq, Int.reduceLT, Int.reduceGT, Int.reduceLE, Int.reduceGE, Nat.reduceAdd, Nat.reduceMul, Nat.reduceLeDiff, hca, on, alloc_next, n2, ← hU, u0, c1, e1, q0, q1, wx, oneD_0, w1, w2, ffz]
  · by_cases c2 : cls > 4
    · simp only [zB, decide_true, decide_false, Bool.false_eq_true, if_false, if_true, List.getElem?_cons_zero, List.getElem?_cons_succ, beq_self_eq_true, bne_self_eq_false, Int.reduceBNe, Int.reduceBEq, Int.reduceLT, Int.reduceGT, Int.reduceLE, Int.reduceGE, Nat.reduceAdd, Nat.reduceMul, Nat.reduceLeDiff, hca, on, alloc_next, n2, ← hU, u0, c1, c2, e1, q0, q1, wx, oneD_0, w1, w2, ffz]
    · have c3 : sizedI size = false := by
        rcases hg with h | h | h
        · exact absurd h c1
        · exact absurd h c2
        · exact h
      simp only [zB, decide_true, decide_false, Bool.false_eq_true, if_false, if_true, List.getElem?_cons_zero, List.getElem?_cons_succ, beq_self_eq_true, bne_self_eq_false, Int.reduceBNe, Int.reduceBEq, Int.reduceLT, Int.reduceGT, Int.reduceLE, Int.reduceGE, Nat.reduceAdd, Nat.reduceMul, Nat.reduceLeDiff, hca, on, alloc_next, n2, ← hU, u0, c1, c2, e1, c3, q0, q1, wx, oneD_0, w1, w2, ffz]
theorem vreadF_c (hr : Rdr S p s a) (cls size : Int) :
    BOut S p s a (readR s a cls size) (Cn B (k + 10) f_vblock_Read 0 [.ptr p 0, .int .i64 cls, .int .i64 size] S) := by
  by_cases hg : cls < 0 ∨ cls > 4 ∨ sizedI size = false
  · exact readNot_c hB k hr hg
  · have hc : ¬ (cls < 0 ∨ cls > 4) := fun h => hg (by rcases h with h | h <;> simp [h])
    have hs : sizedI size = true := by
      cases h : sizedI size with
      | true => rfl
      | false => exact absurd (.inr (.inr h)) hg
    by_cases te : (tokR s a cls size).2.2.1 ≠ 0
    · exact readTok_c hB k hr hc hs (.inl te)
    · have te0 : (tokR s a cls size).2.2.1 = 0 := by simpa using te
      by_cases t0 : (tokR s a cls size).1 = 0
      · exact readTok_c hB k hr hc hs (.inr t0)
      · exact readBig_c hB k hr hc hs te0 t0
end
theorem rUe_code {s : ByteArray} {a v a' : Nat} (h : rUe s a = .ok (v, a')) : Has s a (ueC v) ∧ a' = a + (ueC v).length := by
  have hv := (rUe_ok h).2.2
  unfold rUe at h
  split at h
  · cases h
  · rename_i z hz
    obtain ⟨h1, h2, h3⟩ := lead_ok hz
    split at h
    · cases h
    · rename_i hs
      injection h with h
      obtain ⟨e1, e2⟩ := Prod.mk.inj h
      have hn := num_lt s (a + z + 1) z
      have hpos := Nat.two_pow_pos z
      have hw : v + 1 = 2 ^ z + num s (a + z + 1) z := by omega
      have hL : L2 (v + 1) = z + 1 := by
        obtain ⟨l1, l2, l3⟩ := L2_spec (show v + 1 ≠ 0 by omega)
        have p1 : v + 1 < 2 ^ (z + 1) := by rw [Nat.pow_succ]; omega
        have a1 : L2 (v + 1) - 1 < z + 1 := by
          rcases Nat.lt_or_ge (L2 (v + 1) - 1) (z + 1) with h | h
          · exact h
          · have := Nat.pow_le_pow_right (show 0 < 2 by omega) h; omega
        have a2 : z < L2 (v + 1) := by
          rcases Nat.lt_or_ge z (L2 (v + 1)) with h | h
          · exact h
          · have := Nat.pow_le_pow_right (show 0 < 2 by omega) h; omega
        omega
      have hc : ueC v = bitsN (z + 1 + z) (num s a (z + 1 + z)) := by
        unfold ueC
        rw [hL, num_add, h3, show a + (z + 1) = a + z + 1 by omega, hw]
        rw [show 2 * (z + 1) - 1 = z + 1 + z by omega, Nat.one_mul]
      rw [hc, bitsN_len]
      exact ⟨bitsN_of (by omega), by omega⟩
theorem rUk_code {s : ByteArray} {k a v a' : Nat} (h : rUk s k a = .ok (v, a')) : Has s a (ukC k v) ∧ a' = a + (ukC k v).length := by
  unfold rUk at h
  split at h
  · cases h
  · rename_i w b hw
    obtain ⟨h1, h2⟩ := rUe_code hw
    split at h
    · cases h
    · rename_i hs
      injection h with h
      obtain ⟨e1, e2⟩ := Prod.mk.inj h
      have hn := num_lt s b k
      have hpos := Nat.two_pow_pos k
      have d1 : v / 2 ^ k = w := by
        rw [← e1, Nat.mul_comm, Nat.mul_add_div hpos, Nat.div_eq_of_lt hn, Nat.add_zero]
      have d2 : v % 2 ^ k = num s b k := by
        rw [← e1, Nat.mul_comm, Nat.mul_add_mod, Nat.mod_eq_of_lt hn]
      unfold ukC
      rw [d1, d2, Has.app, List.length_append, bitsN_len, ← h2]
      exact ⟨⟨h1, bitsN_of (by omega)⟩, by omega⟩
theorem numR_code {s : ByteArray} {c a v a' : Nat} (h : numR s c a = .ok (v, a')) : Has s a (clsC c v) ∧ a' = a + (clsC c v).length := by
  unfold numR at h
  unfold clsC
  split at h
  · rename_i hc
    rw [if_pos hc]
    unfold rU at h
    split at h
    · cases h
    · injection h with h
      obtain ⟨e1, e2⟩ := Prod.mk.inj h
      rw [← e1, bitsN_len]
      exact ⟨bitsN_of (by omega), by omega⟩
  · rename_i hc
    rw [if_neg hc]
    exact rUk_code h
theorem sym_pair : ∀ v : Fin 62, symR (pairR (v.val : Int)).1 (pairR (v.val : Int)).2.1 = ((v.val : Int), 0) := by decide
theorem bef_le17 : ∀ n : Fin 17, bef (n.val + 1) ≤ 62 := by decide
theorem tok_code {s : ByteArray} {a : Nat} {cls size : Int} (h : (tokR s a cls size).2.2.1 = 0) : ∃ b, (∀ t o, (tokR s a cls size).1 = t → (tokR s a cls size).2.1 = o → tokP cls size t o = (0, b)) ∧ Has s a b ∧ (tokR s a cls size).2.2.2 = a + b.length := by
  obtain ⟨t, o, h1, h2, h3, h4, h5⟩ := tokR_in h
  have hg : ¬ (cls < 0 ∨ cls > 4 ∨ sizedI size = false) := fun hg => by
    have : (tokR s a cls size).2.2.1 = 3 := by unfold tokR; rw [if_pos hg]
    omega
  have hs16 : size = 4 ∨ size = 15 ∨ size = 16 := (sizedI_iff size).1 h5
  unfold tokR at h h1 h2 ⊢
  rw [if_neg hg] at h h1 h2 ⊢
  cases hn : numR s cls.toNat a with
  | error e =>
    rw [hn] at h
    simp only at h
    have : ∀ e : Int, numR s cls.toNat a = .error e → e ≠ 0 := fun e he => by
      unfold numR at he
      have ue : ∀ {e : Int}, rUe s a = .error e → e ≠ 0 := fun {e} he => by
        unfold rUe at he
        split at he
        · rename_i e' hl
          have := lead_err hl
          have h2 : e' = e := by injection he
          omega
        · split at he
          · have h2 : (5 : Int) = e := by injection he
            omega
          · cases he
      split at he
      · unfold rU at he
        split at he
        · have h2 : (5 : Int) = e := by injection he
          omega
        · cases he
      · unfold rUk at he
        split at he
        · rename_i e' hl
          have h2 : e' = e := by injection he
          rw [← h2]; exact ue hl
        · split at he
          · have h2 : (5 : Int) = e := by injection he
            omega
          · cases he
    exact absurd h (this e hn)
  | ok x =>
    obtain ⟨v, a'⟩ := x
    obtain ⟨c1, c2⟩ := numR_code hn
    rw [hn] at h h1 h2
    simp only at h h1 h2 ⊢
    by_cases hv : v ≥ bef (size.toNat + 1)
    · rw [if_pos hv] at h; simp at h
    · rw [if_neg hv] at h1 h2
      have hb := bef_le17 ⟨size.toNat, by omega⟩
      have hv62 : v < 62 := by simp only at hb; omega
      have sp := sym_pair ⟨v, hv62⟩
      simp only at sp h1 h2
      simp only [if_neg hv]
      refine ⟨clsC cls.toNat v, fun t' o' e1 e2 => ?_, c1, c2⟩
      subst e1 e2
      unfold tokP
      rw [if_neg, sp, if_neg (by simp)]
      · rfl
      · intro hx
        rcases hx with hx | hx | hx | hx
        · exact hg (.inl hx)
        · exact hg (.inr (.inl hx))
        · exact hg (.inr (.inr hx))
        · omega
theorem onR_code {s : ByteArray} : ∀ (n a : Nat) (L : List Int) (a' : Nat), a ≤ 8 * s.size → onR s n a = .ok (L, a') → Has s a (onesB L) ∧ a' = a + L.length ∧ L.length = n ∧ ∀ v ∈ L, v = 1 ∨ v = -1
  | 0, a, L, a', ha, h => by
    rw [onR] at h
    injection h with h
    obtain ⟨h1, h2⟩ := Prod.mk.inj h
    subst h1; subst h2
    exact ⟨Has.nil ha, by simp, rfl, fun v hv => by simp at hv⟩
  | n + 1, a, L, a', ha, h => by
    rw [onR] at h
    by_cases h0 : 8 * s.size ≤ a
    · rw [if_pos h0] at h; cases h
    · rw [if_neg h0] at h
      cases hr : onR s n (a + 1) with
      | error e => rw [hr] at h; cases h
      | ok x =>
        obtain ⟨M, b⟩ := x
        rw [hr] at h
        injection h with h
        obtain ⟨h1, h2⟩ := Prod.mk.inj h
        obtain ⟨i1, i2, i3, i4⟩ := onR_code n (a + 1) M b (by omega) hr
        rw [← h1]
        have hlt := sb_lt s a
        refine ⟨?_, by simp; omega, by simp [i3], fun v hv => ?_⟩
        · unfold onesB at i1 ⊢
          rw [List.map_cons, Has.cons]
          refine ⟨?_, by omega, i1⟩
          by_cases hb : sb s a = 1
          · simp [hb]
          · have : sb s a = 0 := by omega
            simp [this]
        · rcases List.mem_cons.1 hv with hv | hv
          · rw [hv]; split
            · exact .inr rfl
            · exact .inl rfl
          · exact i4 v hv
theorem lv_code {s : ByteArray} {a K sk : Nat} {v : Int} {a' : Nat} (hK : K ≤ 6) (hs : sk = 0 ∨ sk = 2) (h : lvR s a K sk = .ok (v, a')) : ∃ b, lvC K sk v = some b ∧ Has s a b ∧ a' = a + b.length ∧ (sk = 2 → v ≠ 1 ∧ v ≠ -1) := by
  unfold lvR at h
  split at h
  · cases h
  · rename_i P hP
    obtain ⟨p1, p2, p3⟩ := lead_ok hP
    split at h
    · cases h
    · rename_i hU
      have hv := congrArg (fun x => match x with | .ok (v, a') => (v, a') | .error _ => (0, 0)) h
      simp only [Prod.mk.injEq] at hv
      obtain ⟨hv1, hv2⟩ := hv
      obtain ⟨u, hu⟩ : ∃ u, u = num s (a + P + 1) (sufN K P) := ⟨_, rfl⟩
      have hul := num_lt s (a + P + 1) (sufN K P)
      rw [← hu] at hv1 hul
      obtain ⟨h1, h2, h3, h4⟩ := esc_le hK
      obtain ⟨n, hn⟩ : ∃ n, n = baseN K P + u := ⟨_, rfl⟩
      rw [← hn] at hv1
      have hspl : splN K n = (P, u, sufN K P) ∧ n ≤ mstN K := by
        unfold mstN
        unfold sufN at hul ⊢
        unfold baseN at hn
        by_cases e15 : P = 15
        · rw [if_pos e15] at hn hul
          rw [if_pos e15]
          have : (2 : Nat) ^ 12 = 4096 := rfl
          unfold splN
          rw [if_pos (by omega), hn, e15]
          exact ⟨by simp, by omega⟩
        · rw [if_neg e15] at hn hul
          rw [if_neg e15]
          by_cases k0 : K > 0
          · rw [if_pos k0] at hn hul
            rw [if_pos k0]
            have hpos := Nat.two_pow_pos K
            have e := h4 k0
            have : P * 2 ^ K ≤ 14 * 2 ^ K := Nat.mul_le_mul_right _ (by omega)
            unfold splN
            rw [if_neg (by omega), if_pos k0]
            have d1 : n / 2 ^ K = P := by rw [hn, Nat.mul_comm, Nat.mul_add_div hpos, Nat.div_eq_of_lt hul, Nat.add_zero]
            have d2 : n % 2 ^ K = u := by rw [hn, Nat.mul_comm, Nat.mul_add_mod, Nat.mod_eq_of_lt hul]
            rw [d1, d2]
            exact ⟨rfl, by omega⟩
          · rw [if_neg k0] at hn hul
            rw [if_neg k0]
            have e30 : escN K = 30 := by
              have : K = 0 := by omega
              rw [this]; rfl
            by_cases e14 : P = 14
            · rw [if_pos e14] at hul
              rw [if_pos e14]
              have : (2 : Nat) ^ 4 = 16 := rfl
              unfold splN
              rw [if_neg (by omega), if_neg k0, if_pos (by omega), hn, e14]
              exact ⟨by simp, by omega⟩
            · rw [if_neg e14] at hul
              rw [if_neg e14]
              have u0 : u = 0 := by simpa using hul
              unfold splN
              rw [if_neg (by omega), if_neg k0, if_neg (by omega), hn, u0]
              exact ⟨rfl, by omega⟩
      have hlv : lvN sk v = n ∧ (sk = 2 → v ≠ 1 ∧ v ≠ -1) := by
        rw [← hv1]
        unfold lvlI lvN
        rcases hs with hs | hs
        · subst hs
          rw [Nat.add_zero]
          by_cases hodd : n % 2 = 1
          · rw [if_pos hodd]
            exact ⟨by rw [if_pos (by omega)]; omega, fun h => by omega⟩
          · rw [if_neg hodd]
            exact ⟨by rw [if_neg (by omega)]; omega, fun h => by omega⟩
        · subst hs
          by_cases hodd : (n + 2) % 2 = 1
          · rw [if_pos hodd]
            exact ⟨by rw [if_pos (by omega)]; omega, fun h => by omega⟩
          · rw [if_neg hodd]
            exact ⟨by rw [if_neg (by omega)]; omega, fun h => by omega⟩
      refine ⟨lvB K n, ?_, ?_, ?_, hlv.2⟩
      · unfold lvC
        rw [hlv.1, if_neg (by have := hspl.2; omega)]
      · unfold lvB
        rw [hspl.1, Has.app, bitsN_len]
        refine ⟨?_, ?_⟩
        · have := bitsN_of (s := s) (a := a) (n := P + 1) (by omega)
          rwa [p3] at this
        · show Has s (a + (P + 1)) (bitsN (sufN K P) u)
          rw [hu, show a + (P + 1) = a + P + 1 by omega]
          exact bitsN_of (by omega)
      · unfold lvB
        rw [hspl.1]
        simp only [List.length_append, bitsN_len]
        omega
theorem lvs_code {s : ByteArray} : ∀ (n a K sk : Nat) (L : List Int) (a' : Nat), K ≤ 6 → sk = 0 ∨ sk = 2 → a ≤ 8 * s.size → lvsR s n a K sk = .ok (L, a') → ∃ b, lvsP K sk L = some b ∧ Has s a b ∧ a' = a + b.length ∧ (sk = 2 → ∀ v, L.head? = some v → v ≠ 1 ∧ v ≠ -1)
  | 0, a, K, sk, L, a', hK, hs, ha, h => by
    rw [lvsR] at h
    injection h with h
    obtain ⟨h1, h2⟩ := Prod.mk.inj h
    subst h1; subst h2
    exact ⟨[], rfl, Has.nil ha, rfl, fun _ v hv => by simp at hv⟩
  | n + 1, a, K, sk, L, a', hK, hs, ha, h => by
    rw [lvsR] at h
    cases hl : lvR s a K sk with
    | error e => rw [hl] at h; cases h
    | ok x =>
      obtain ⟨v, b⟩ := x
      rw [hl] at h
      simp only at h
      have hg := lvR_good hK (by omega) ha hl
      obtain ⟨c, c1, c2, c3, c4⟩ := lv_code hK hs hl
      cases hr : lvsR s n b (aftN K v.natAbs) 0 with
      | error e => rw [hr] at h; cases h
      | ok x =>
        obtain ⟨M, d⟩ := x
        rw [hr] at h
        injection h with h
        obtain ⟨h1, h2⟩ := Prod.mk.inj h
        obtain ⟨e, e1, e2, e3, _⟩ := lvs_code n b _ 0 M d (aftN_le hK) (.inl rfl) hg.2.2 hr
        rw [← h1, ← h2]
        refine ⟨c ++ e, by simp only [lvsP, c1, e1, Option.map_some], ?_, by rw [List.length_append]; omega, fun h2 w hw => ?_⟩
        · rw [Has.app, ← c3]; exact ⟨c2, e2⟩
        · have : v = w := by simpa using hw
          rw [← this]; exact c4 h2
theorem runs_code {s : ByteArray} : ∀ (n left a : Nat) (M : List Nat) (a' : Nat), left ≤ 15 → a ≤ 8 * s.size → runsR s n left a = .ok (M, a') → Has s a (runsP left M) ∧ a' = a + (runsP left M).length
  | 0, left, a, M, a', hl, ha, h => by
    rw [runsR] at h
    injection h with h
    obtain ⟨h1, h2⟩ := Prod.mk.inj h
    subst h1; subst h2
    exact ⟨Has.nil ha, rfl⟩
  | n + 1, left, a, M, a', hl, ha, h => by
    by_cases h0 : left = 0
    · subst h0
      rw [runsR_0] at h
      cases hr : runsR s n 0 a with
      | error e => rw [hr] at h; cases h
      | ok x =>
        obtain ⟨M', b⟩ := x
        rw [hr] at h
        simp only [preM] at h
        injection h with h
        obtain ⟨h1, h2⟩ := Prod.mk.inj h
        obtain ⟨i1, i2⟩ := runs_code n 0 a M' b hl ha hr
        rw [← h1, ← h2]
        have e : runsP 0 ([0] ++ M') = runsP 0 M' := by
          show (runP ((0 : Nat) : Int) ((0 : Nat) : Int)).2 ++ runsP (0 - 0) M' = _
          rfl
        rw [e]; exact ⟨i1, i2⟩
    · by_cases h1 : (runR s a left).2.1 ≠ 0
      · rw [runsR_e h0 h1] at h; cases h
      · have h1' : (runR s a left).2.1 = 0 := by simpa using h1
        rw [runsR_s h0 h1'] at h
        obtain ⟨r, hr1, hr2⟩ := runR_in ha h1'
        rcases run_back (left := (left : Int)) ⟨by omega, by omega⟩ ha with hb | ⟨_, _, hb1, hb2⟩
        · omega
        · rw [hr1] at hb1 hb2 h
          rw [Int.toNat_natCast] at h
          have hle := hb1.le
          cases hr : runsR s n (left - r) (runR s a left).2.2 with
          | error e => rw [hr] at h; cases h
          | ok x =>
            obtain ⟨M', b⟩ := x
            rw [hr] at h
            simp only [preM] at h
            injection h with h
            obtain ⟨e1, e2⟩ := Prod.mk.inj h
            obtain ⟨i1, i2⟩ := runs_code n (left - r) _ M' b (by omega) (by omega) hr
            rw [← e1, ← e2]
            show Has s a ((runP (left : Int) (r : Int)).2 ++ runsP (left - r) M') ∧ b = a + ((runP (left : Int) (r : Int)).2 ++ runsP (left - r) M').length
            rw [Has.app, List.length_append, ← hb2]
            exact ⟨⟨hb1, i1⟩, by omega⟩
theorem onesG_app : ∀ (n : Nat) (L M : List Int), L.length ≤ n → (∀ v ∈ L, v = 1 ∨ v = -1) → (L.length < n → ∀ v, M.head? = some v → v ≠ 1 ∧ v ≠ -1) → onesG n (L ++ M) = L.length
  | 0, L, M, h1, h2, h3 => by
    have : L = [] := List.length_eq_zero_iff.1 (by omega)
    subst this; simp [onesG]
  | n + 1, [], M, h1, h2, h3 => by
    cases M with
    | nil => rfl
    | cons w M =>
      have := h3 (by simp) w rfl
      simp only [List.nil_append, onesG, List.length_nil]
      rw [if_neg (by intro h; rcases h with h | h; exact this.1 h; exact this.2 h)]
  | n + 1, v :: L, M, h1, h2, h3 => by
    have ih := onesG_app n L M (by simpa using h1) (fun w hw => h2 w (by simp [hw])) (fun h => h3 (by simpa using h))
    simp only [List.cons_append, onesG, List.length_cons, ih]
    rw [if_pos (h2 v (by simp))]
/-- What was read is a block whose code are the bits that were read. -/
theorem readR_code {s : ByteArray} {a : Nat} {cls : Int} {n : Nat} {l : List Int} {a' : Nat} (ha : a ≤ 8 * s.size) (h : readR s a cls n = .ok (l, a')) :
    Blk l ∧ l.length = n ∧ (0 ≤ cls ∧ cls ≤ 4) ∧ ∃ K, blkC cls l = some K ∧ Has s a K ∧ a' = a + K.length := by
  unfold readR at h
  split at h
  · cases h
  · rename_i hg
    have hsz : sizedI (n : Int) = true := by
      cases h : sizedI (n : Int) with
      | true => rfl
      | false => exact absurd (.inr (.inr h)) hg
    have hc : 0 ≤ cls ∧ cls ≤ 4 := ⟨by
      rcases Int.lt_or_le cls 0 with h | h
      · exact absurd (.inl h) hg
      · exact h, by
      rcases Int.lt_or_le 4 cls with h | h
      · exact absurd (.inr (.inl h)) hg
      · exact h⟩
    split at h
    · cases h
    · rename_i hte
      have hte0 : (tokR s a cls n).2.2.1 = 0 := by simpa using hte
      obtain ⟨t, o, t1, t2, t3, t4, t5⟩ := tokR_in hte0
      obtain ⟨tb, k1, k2, k3⟩ := tok_code hte0
      have k1 := k1 _ _ t1 t2
      split at h
      · rename_i h0
        injection h with h
        obtain ⟨e1, e2⟩ := Prod.mk.inj h
        have ht0 : t = 0 := by omega
        have ho0 : o = 0 := by omega
        subst ht0; subst ho0
        rw [Int.toNat_natCast] at e1
        have hr := rst_rep n
        rw [e1] at hr
        have hl : l.length = n := by rw [← e1, List.length_replicate]
        refine ⟨⟨by rw [hl]; exact hsz, ?_⟩, hl, hc, tb, ?_, k2, by rw [← e2]; exact k3⟩
        · rw [← e1]; unfold rngd
          rw [List.all_eq_true]
          intro v hv
          rw [(List.mem_replicate.1 hv).2]; decide
        · unfold blkC
          rw [hr]
          simp only [if_true, hl]
          have : (onesN ([] : List Int)) = 0 := rfl
          rw [this]
          exact congrArg (fun x => some x.2) k1
      · rename_i h0
        have ht0 : t ≠ 0 := fun h => h0 (by rw [t1, h]; rfl)
        rw [t1, t2] at h
        simp only [Int.toNat_natCast] at h
        split at h
        · cases h
        · rename_i L a1 hL
          split at h
          · cases h
          · rename_i hze
            have hze0 : (zerR s a1 n (t : Int)).2.1 = 0 := by simpa using hze
            obtain ⟨Z, hZ, hZl⟩ := zerR_in hze0
            rw [hZ] at h
            simp only [Int.toNat_natCast] at h
            split at h
            · cases h
            · rename_i M a3 hM
              injection h with h
              obtain ⟨e1, e2⟩ := Prod.mk.inj h
              have hkle := k2.le
              have hL' := hL
              unfold levR at hL'
              obtain ⟨hLl, hLv, ha1⟩ := levR_good (by omega) (by omega) hL
              split at hL'
              · cases hL'
              · rename_i L1 b1 hon
                obtain ⟨o1, o2, o3, o4⟩ := onR_code o _ L1 b1 (by omega) hon
                split at hL'
                · cases hL'
                · rename_i L2' b2 hlv
                  injection hL' with hL'
                  obtain ⟨f1, f2⟩ := Prod.mk.inj hL'
                  have hob := o1.le
                  have hol : (onesB L1).length = L1.length := by simp [onesB]
                  obtain ⟨lb, v1, v2, v3, v4⟩ := lvs_code (t - o) b1 (k0N t o) (s0N o) L2' b2 (by unfold k0N; split <;> omega) (by unfold s0N; split <;> simp) (by omega) hlv
                  have hvb := v2.le
                  have hL0 : L ≠ [] := fun h => by rw [h] at hLl; simp at hLl; omega
                  have hn16 : n ≤ 16 := by rcases (sizedI_iff (n : Int)).1 hsz with h | h | h <;> omega
                  have hMs := runsR_in (t - 1) Z (zerR s a1 n (t : Int)).2.2 M a3 (zerR_pos ha1).2 hM
                  obtain ⟨l', l0, l1, l2, l3, l4, l5⟩ := read_blk (n := n) hsz hL0 hLv (M := M) (Z := Z) (by omega) (by omega) (by omega)
                  rw [e1] at l0
                  have l0 := l0.symm
                  subst l0
                  have hones : onesN (rst l).1 = o := by
                    rw [l3, ← f1]
                    unfold onesN
                    rw [onesG_app 3 L1 L2' (by omega) o4 (fun hlt => v4 (by unfold s0N; rw [if_pos (by omega)])), o3]
                  obtain ⟨zz, zz1, zz2⟩ : ∃ zb, zerP n (t : Int) (Z : Int) = (0, zb) ∧ Has s a1 zb ∧ (zerR s a1 n (t : Int)).2.2 = a1 + zb.length := by
                    rcases zer_back (size := (n : Int)) (total := (t : Int)) ((sizedI_iff _).1 hsz) ⟨by omega, by omega⟩ ha1 with hb | ⟨_, _, hb1, hb2⟩
                    · omega
                    · rw [hZ] at hb1 hb2
                      have hz := (zer_good (size := (n : Int)) (total := (t : Int)) (z := (Z : Int)) ((sizedI_iff _).1 hsz) ⟨by omega, by omega⟩ ⟨by omega, by omega⟩).1
                      exact ⟨(zerP n (t : Int) (Z : Int)).2, by rw [← hz], hb1, hb2⟩
                  have hzle := zz2.1.le
                  obtain ⟨r1, r2⟩ := runs_code (t - 1) Z _ M a3 (by omega) (by omega) hM
                  have htk : L.take o = L1 := by rw [← f1, ← o3, List.take_left]
                  have hdr : L.drop o = L2' := by rw [← f1, ← o3, List.drop_left]
                  refine ⟨l1, l2, hc, tb ++ onesB L1 ++ lb ++ zz ++ runsP Z M, ?_, ?_, ?_⟩
                  · unfold blkC
                    rw [hones, l3, if_neg hL0, l4, l5, hLl, htk, hdr, v1, l2]
                    simp only [Option.map_some]
                    rw [k1, zz1]
                  · rw [Has.app, Has.app, Has.app, Has.app]
                    simp only [List.length_append, hol]
                    have p1 : a + tb.length = (tokR s a cls n).2.2.2 := by omega
                    have p2 : a + (tb.length + L1.length) = b1 := by omega
                    have p3 : a + (tb.length + L1.length + lb.length) = a1 := by omega
                    have p4 : a + (tb.length + L1.length + lb.length + zz.length) = (zerR s a1 n (t : Int)).2.2 := by omega
                    rw [p1, p2, p3, p4]
                    exact ⟨⟨⟨⟨k2, o1⟩, v2⟩, zz2.1⟩, r1⟩
                  · simp only [List.length_append, hol]
                    omega
theorem known20_chk : chk f_spindlelaw20_known [] (.bool true) = true := by kernel_rfl
def IK (kk : IntKind) (a : AV) (l : List Int) : Prop := (a = .nils ∧ l = []) ∨ a = .is l.length (l.map fun x => .int kk x)
theorem IK.at {kk : IntKind} {S : Heap} {a : AV} {l : List Int} (h : IK kk a l) {i : Nat} (hi : i < l.length) : ∃ t cs o, aIdx 1 a (i : Int) = some t ∧ seeV t S = some (cs, o) ∧ cs[o]? = some (.int kk l[i]) := by
  rcases h with ⟨rfl, rfl⟩ | rfl
  · simp at hi
  · exact ⟨.iptr ((l.map fun x => AV.int kk x).drop (i * 1)), _, 0, by simp [aIdx, hi], rfl, by simp [hi]⟩
def modI (x n : Int) : Int := Int.tmod (Int.tmod x n + n) n
theorem modI_lt (x : Int) {n : Int} (h : 0 < n) : 0 ≤ modI x n ∧ modI x n < n := by
  unfold modI
  have h1 := Int.lt_tmod_of_pos x h
  exact ⟨Int.tmod_nonneg _ (by omega), Int.tmod_lt_of_pos _ h⟩
section
variable {B : CallF} (hB : Silent B) (k : Nat) {S : Heap}
include hB
theorem mod20_c (x n : Int) (hn : 0 < n ∧ n ≤ 1000000) : Cn B (k + 1) f_spindlelaw20_mod 0 [.int .i64 x, .int .i64 n] S = some (.int .i64 (modI x n), S) := by
  rw [c_spindlelaw20_mod _ _ _ _ _ (hB.no _ _ _ _ (kn_no (by decide))), T_spindlelaw20_mod]
  have h1 := Int.lt_tmod_of_pos x hn.1
  have h2 := Int.tmod_lt_of_pos x hn.1
  have w1 : IntKind.wrap .i64 (Int.tmod x n + n) = Int.tmod x n + n := wr _ (by omega)
  simp only [zB, decide_true, decide_false, Bool.false_eq_true, if_false, if_true, List.getElem?_cons_zero, List.getElem?_cons_succ, beq_self_eq_true, bne_self_eq_false, Int.reduceBNe, Int.reduceBEq, Int.reduceLT, Int.reduceGT, Int.reduceLE, Int.reduceGE, Nat.reduceAdd, Nat.reduceMul, Nat.reduceLeDiff, rem64 _ _ (show n ≠ 0 by omega), w1, modI]
end
theorem mod5 (c : Int) : 0 ≤ modI c 5 ∧ modI c 5 ≤ 4 := by have := modI_lt c (show (0 : Int) < 5 by omega); omega
theorem blkC_0 {cls cls' : Int} {l : List Int} {K : List Bool} (h : blkC cls l = some K) : ∃ K', blkC cls' l = some K' := by
  unfold blkC at h ⊢
  by_cases h0 : (rst l).1 = []
  · rw [if_pos h0]; exact ⟨_, rfl⟩
  · rw [if_neg h0] at h ⊢
    simp only [Option.map_eq_some_iff] at h ⊢
    obtain ⟨b, hb, _⟩ := h
    exact ⟨_, b, hb, rfl⟩
theorem putR_of {l : List Int} (h : Blk l) {cls : Int} (hc : 0 ≤ cls ∧ cls ≤ 4) {K : List Bool} (hK : blkC cls l = some K) : putR cls l = (0, K) := by
  unfold putR
  rw [if_neg (by rw [h.sz, h.rg]; simp; omega), hK]
section
variable {B : CallF} (hB : Silent B) (hk : ∀ S, Cn B 10 f_spindlelaw20_known 0 [] S = some (.bool true, S))
include hB hk
theorem again_tail {s : ByteArray} (hs : s.size ≤ 200) {T : Heap} {w q : Nat} {Q : List Bool} (hW : Wr T w q Q) (hQ : Has s 0 Q) :
    ∃ S', (bO (Cn B 10 f_bits_Read 0 [.str s] T) fun t53 => bO (Cn B 10 f_bits_Writer_Bytes 0 [.ptr w 0] t53.2) fun t54 => asStr t54.1 fun s55 => bO (Cn B 10 f_bits_Read 0 [.str s55] t54.2) fun t56 => bO (ctlV.loop (fun s57 => asInt .i64 (nthA s57.1 3) fun i58 => bO (Cn B 10 f_bits_Writer_Len 0 [nthA s57.1 0] s57.2) fun t59 => asInt .i64 t59.1 fun i60 => if decide ((i58 : Int) < i60) then bO (Cn B 10 f_bits_Reader_Bit 0 [nthA s57.1 1] t59.2) fun t61 => asTup t61.1 fun l62 => asCons l62 fun a63 l64 => asInt .u8 a63 fun i65 => asCons l64 fun a66 l67 => asInt .i64 a66 fun i68 => bO (Cn B 10 f_bits_Reader_Bit 0 [nthA s57.1 2] t61.2) fun t69 => asTup t69.1 fun l70 => asCons l70 fun a71 l72 => asInt .u8 a71 fun i73 => asCons l72 fun a74 l75 => asInt .i64 a74 fun i76 => if (i65 : Int) != i73 then some (.inr (1, [.bool false], t69.2)) else some (.inl ([nthA s57.1 0, nthA s57.1 1, nthA s57.1 2, .int .i64 (IntKind.wrap .i64 (i58 + 1))], t69.2)) else some (.inr (0, [], t59.2))) ([.ptr w 0, t53.1, t56.1, .int .i64 0], t56.2)) fun r77 => sel [(fun v78 S79 => bO (Cn B 10 f_spindlelaw20_known 0 [] S79) fun t80 => asBool t80.1 fun b81 => some (ctlV.tr S0 (.bool b81) t80.2)), (fun v82 S83 => asBool (nthA v82 0) fun b84 => some (ctlV.tr S0 (.bool b84) S83))] r77.1 r77.2.1 r77.2.2) = some (AV.bool true, S') := by
  have hQl := hQ.le
  rw [Nat.zero_add] at hQl
  have hwlt := hW.lt
  obtain ⟨T1, e1, r1, f1, n1⟩ := read_c hB 9 (S := T) s (by omega)
  obtain ⟨ra, hra⟩ : ∃ ra, ra = T.next := ⟨_, rfl⟩
  rw [← hra] at e1 r1
  have w1 := hW.fr f1 (by simp) (by simp)
  obtain ⟨W, part, n, hX, hbs⟩ := id w1
  have hblen := congrArg List.length hbs
  rw [bitsW_len] at hblen
  have hn8 := hX.n8
  have e2 := wbytes_c hB 9 hX (by omega)
  have hpd : (pad W part n).length ≤ W.length + 1 := by unfold pad; split <;> simp
  obtain ⟨s2, hs2⟩ : ∃ s2, s2 = strB (pad W part n) := ⟨_, rfl⟩
  have hsz : s2.size = (pad W part n).length := by rw [hs2, strB_size]
  have hH : Has s2 0 Q := by
    rw [hbs]
    refine has_pad hX.b8 hX.n8 hX.pt (fun j hj => ?_) (by omega)
    rw [hs2, strB_get, List.getElem?_eq_getElem hj]; rfl
  rw [← hs2] at e2
  obtain ⟨T2, e3, r2, f2, n2⟩ := read_c hB 9 (S := T1) s2 (by omega)
  obtain ⟨rb, hrb⟩ : ∃ rb, rb = T1.next := ⟨_, rfl⟩
  rw [← hrb] at e3 r2
  have w2 := w1.fr f2 (by simp) (by simp)
  have r1' := r1.fr f2 (by simp)
  have hHl := hH.le
  simp only [zB, decide_true, decide_false, Bool.false_eq_true, if_false, if_true, List.getElem?_cons_zero, List.getElem?_cons_succ, beq_self_eq_true, bne_self_eq_false, Int.reduceBNe, Int.reduceBEq, Int.reduceLT, Int.reduceGT, Int.reduceLE, Int.reduceGE, Nat.reduceAdd, Nat.reduceMul, Nat.reduceLeDiff, e1, e2, e3]
  refine loop_meas (fun o => ∃ S', o = some (AV.bool true, S')) (fun m st => ∃ (i : Nat) (U : Heap), i + m = Q.length ∧ st = ([.ptr w 0, .ptr ra 0, .ptr rb 0, .int .i64 (i : Int)], U) ∧ Rdr U ra s i ∧ Rdr U rb s2 i ∧ Wr U w q Q) Q.length ⟨0, T2, by omega, rfl, r1', r2, w2⟩ ?_
  rintro m st ⟨i, U, him, rfl, hra', hrb', hW'⟩
  have e4 := wlen_c hB 9 hW' (by omega)
  have hab : ra < rb := by have := r1.lt; omega
  cases m with
  | succ m =>
    have hi : i < Q.length := by omega
    have c1 : (i : Int) < (Q.length : Int) := by omega
    have b1 := hQ.2 i hi
    have b2 := hH.2 i hi
    rw [Nat.zero_add] at b1 b2
    have w3 : IntKind.wrap .i64 ((i : Int) + 1) = ((i + 1 : Nat) : Int) := by rw [wr _ (by omega)]; omega
    obtain ⟨U1, e5, r5, f5⟩ := bit_ok hB 7 hra' (by omega)
    obtain ⟨U2, e6, r6, f6⟩ := bit_ok hB 7 (hrb'.fr f5 (by simp; omega)) (by omega)
    rw [b1] at e5
    rw [b2] at e6
    have hq := hW'.lt
    exact .inr ⟨m, ([.ptr w 0, .ptr ra 0, .ptr rb 0, .int .i64 ((i + 1 : Nat) : Int)], U2), by omega, by simp only [zB, decide_true, decide_false, Bool.false_eq_true, if_false, if_true, List.getElem?_cons_zero, List.getElem?_cons_succ, beq_self_eq_true, bne_self_eq_false, Int.reduceBNe, Int.reduceBEq, Int.reduceLT, Int.reduceGT, Int.reduceLE, Int.reduceGE, Nat.reduceAdd, Nat.reduceMul, Nat.reduceLeDiff, e4, c1, e5, e6, w3], i + 1, U2, by omega, rfl, r5.fr f6 (by simp; omega), r6, (hW'.fr f5 (by simp; omega) (by simp; omega)).fr f6 (by simp; omega) (by simp; omega)⟩
  | zero =>
    have c1 : ¬ (i : Int) < (Q.length : Int) := by omega
    refine .inl ⟨(0, [], U), by simp only [zB, decide_true, decide_false, Bool.false_eq_true, if_false, if_true, List.getElem?_cons_zero, List.getElem?_cons_succ, beq_self_eq_true, bne_self_eq_false, Int.reduceBNe, Int.reduceBEq, Int.reduceLT, Int.reduceGT, Int.reduceLE, Int.reduceGE, Nat.reduceAdd, Nat.reduceMul, Nat.reduceLeDiff, e4, c1], U, ?_⟩
    simp only [zB, decide_true, decide_false, Bool.false_eq_true, if_false, if_true, List.getElem?_cons_zero, List.getElem?_cons_succ, beq_self_eq_true, bne_self_eq_false, Int.reduceBNe, Int.reduceBEq, Int.reduceLT, Int.reduceGT, Int.reduceLE, Int.reduceGE, Nat.reduceAdd, Nat.reduceMul, Nat.reduceLeDiff, sel_0, hk]
end
theorem again20_law {s : ByteArray} {x : Int} (hx : 0 ≤ x ∧ x ≤ 255) (c : Int) : ∃ S', Cn Bk 11 f_spindlelaw20_VblockAgain 0 [.str s, .int .u8 x, .int .i64 c] S0 = some (.bool true, S') := by
  have hB := Bk_silent
  rw [c_spindlelaw20_VblockAgain _ _ _ _ _ _ (hB.no _ _ _ _ (kn_no (by decide))), T_spindlelaw20_VblockAgain]
  have e0 : ∀ S, Cn Bk 10 f_spindlelaw20_known 0 [] S = some (.bool true, S) := fun S => chk_c hB known20_chk _ _
  by_cases g : (s.size : Int) > 200
  · exact ⟨S0, by simp only [zB, decide_true, decide_false, Bool.false_eq_true, if_false, if_true, List.getElem?_cons_zero, List.getElem?_cons_succ, beq_self_eq_true, bne_self_eq_false, Int.reduceBNe, Int.reduceBEq, Int.reduceLT, Int.reduceGT, Int.reduceLE, Int.reduceGE, Nat.reduceAdd, Nat.reduceMul, Nat.reduceLeDiff, g, e0]⟩
  have hs0 : s.size ≤ 200 := by omega
  obtain ⟨S1, e1, r1, f1, n1⟩ := read_c hB 9 (S := S0) s (by omega)
  obtain ⟨r, hr⟩ : ∃ r, r = S0.next := ⟨_, rfl⟩
  rw [← hr] at e1 r1
  obtain ⟨S2, e2, w2, f2⟩ := write_c hB 9 (S := S1)
  obtain ⟨w, hw⟩ : ∃ w, w = S1.next := ⟨_, rfl⟩
  rw [← hw] at e2 w2
  have r2 := r1.fr f2 (by simp)
  have hrw : r < w := by have := r1.lt; omega
  have e3 := mod20_c hB 9 (S := S2) c 5 (by omega)
  have hc := mod5 c
  obtain ⟨K, hK⟩ : ∃ K, K = modI c 5 := ⟨_, rfl⟩
  rw [← hK] at e3 hc
  obtain ⟨d, hd⟩ : ∃ d : Nat, Int.tmod x 3 = (d : Int) ∧ d < 3 := by
    obtain ⟨m, rfl⟩ := Int.eq_ofNat_of_zero_le hx.1
    exact ⟨m % 3, rfl, Nat.mod_lt _ (by omega)⟩
  obtain ⟨hd1, hd3⟩ := hd
  have d1 : (0 : Int) ≤ (d : Int) := by omega
  have d2 : (d : Int) < ((3 : Nat) : Int) := by omega
  obtain ⟨n, hn, hng⟩ : ∃ n : Nat, ([.int .i64 4, .int .i64 15, .int .i64 16] : List AV)[d]? = some (.int .i64 (n : Int)) ∧ (n = 4 ∨ n = 15 ∨ n = 16) := by
    match d, hd3 with
    | 0, _ => exact ⟨4, rfl, .inl rfl⟩
    | 1, _ => exact ⟨15, rfl, .inr (.inl rfl)⟩
    | 2, _ => exact ⟨16, rfl, .inr (.inr rfl)⟩
  simp only [zB, decide_true, decide_false, Bool.false_eq_true, if_false, if_true, List.getElem?_cons_zero, List.getElem?_cons_succ, beq_self_eq_true, bne_self_eq_false, Int.reduceBNe, Int.reduceBEq, Int.reduceLT, Int.reduceGT, Int.reduceLE, Int.reduceGE, Nat.reduceAdd, Nat.reduceMul, Nat.reduceLeDiff, g, e1, e2, hd1, d1, d2, Int.toNat_natCast, Nat.mul_one, hn, e3]
  refine loop_meas (fun o => ∃ S', o = some (AV.bool true, S')) (fun m st => ∃ (i q : Nat) (T : Heap) (Q : List Bool), i + m = 20 ∧ st = ([.str s, .ptr r 0, .ptr w 0, .int .i64 (n : Int), .int .i64 K, .int .i64 (i : Int)], T) ∧ Rdr T r s Q.length ∧ Wr T w q Q ∧ q ≠ r ∧ Has s 0 Q) 20
    ⟨0, w, S2, [], by omega, rfl, r2, w2, by omega, Has.nil (by omega)⟩ ?_
  rintro m st ⟨i, q, T, Q, him, rfl, hR, hW, hqr, hQ⟩
  have hQl := hQ.le
  rw [Nat.zero_add] at hQl
  cases m with
  | zero =>
    have c1 : ¬ (i : Int) < 20 := by omega
    refine .inl ⟨(0, [.str s, .ptr w 0], T), by simp only [zB, decide_true, decide_false, Bool.false_eq_true, if_false, if_true, List.getElem?_cons_zero, List.getElem?_cons_succ, beq_self_eq_true, bne_self_eq_false, Int.reduceBNe, Int.reduceBEq, Int.reduceLT, Int.reduceGT, Int.reduceLE, Int.reduceGE, Nat.reduceAdd, Nat.reduceMul, Nat.reduceLeDiff, c1], ?_⟩
    have h1 := again_tail hB e0 hs0 hW hQ
    simp only [zB, decide_true, decide_false, Bool.false_eq_true, if_false, if_true, List.getElem?_cons_zero, List.getElem?_cons_succ, beq_self_eq_true, bne_self_eq_false, Int.reduceBNe, Int.reduceBEq, Int.reduceLT, Int.reduceGT, Int.reduceLE, Int.reduceGE, Nat.reduceAdd, Nat.reduceMul, Nat.reduceLeDiff, sel_0] at h1 ⊢
    exact h1
  | succ m =>
    have c1 : (i : Int) < 20 := by omega
    have e4 := pos_c hB 9 hR
    have o1 := vreadF_c hB 0 hR K (n : Int)
    cases hrr : readR s Q.length K (n : Int) with
    | error e =>
      rw [hrr] at o1
      obtain ⟨T1, e5, r5, f5⟩ := o1
      have ze : (e != 0) = true := by simp [readR_err hrr]
      have e6 := pos_c hB 9 r5
      have hwl := hW.lt
      have z0 : ((0 : Int) != 0) = false := rfl
      refine .inl ⟨(0, [.str s, .ptr w 0], T1), by simp only [zB, decide_true, decide_false, Bool.false_eq_true, if_false, if_true, List.getElem?_cons_zero, List.getElem?_cons_succ, beq_self_eq_true, bne_self_eq_false, Int.reduceBNe, Int.reduceBEq, Int.reduceLT, Int.reduceGT, Int.reduceLE, Int.reduceGE, Nat.reduceAdd, Nat.reduceMul, Nat.reduceLeDiff, c1, e4, e5, ze, z0, e6], ?_⟩
      have h1 := again_tail hB e0 hs0 (hW.fr f5 (by simp; omega) (by simp; omega)) hQ
      simp only [zB, decide_true, decide_false, Bool.false_eq_true, if_false, if_true, List.getElem?_cons_zero, List.getElem?_cons_succ, beq_self_eq_true, bne_self_eq_false, Int.reduceBNe, Int.reduceBEq, Int.reduceLT, Int.reduceGT, Int.reduceLE, Int.reduceGE, Nat.reduceAdd, Nat.reduceMul, Nat.reduceLeDiff, sel_0] at h1 ⊢
      exact h1
    | ok y =>
      obtain ⟨l, a'⟩ := y
      rw [hrr] at o1
      obtain ⟨T1, e5, r5, f5⟩ := o1
      obtain ⟨hb, hl, _, P, hP, hPs, ha'⟩ := readR_code hR.le hrr
      have z0 : ((0 : Int) != 0) = false := rfl
      have hwl := hW.lt
      have hlen := (isl_il T1 l 0).len
      rw [hl] at hlen
      obtain ⟨T2, e6, f6⟩ := vfits_c hB 2 (isl_il T1 l 0) (.inr fun S => isl_il S l 0) (by have := hb.len; omega)
      obtain ⟨P0, hP0⟩ := blkC_0 (cls' := 0) hP
      rw [putR_of hb ⟨by omega, by omega⟩ hP0] at e6
      have q00 : ((0 : Int) == 0) = true := rfl
      have W2 := (hW.fr f5 (by simp; omega) (by simp; omega)).fr f6 (by simp) (by simp)
      obtain ⟨T3, q', e7, p7⟩ := vput_c hB 3 W2 (by omega) K (isl_il T2 l (w + q + 1)) ⟨by omega, by omega⟩ (by have := hb.len; omega)
      rw [putR_of hb hc hP] at e7 p7
      simp only at e7 p7
      have R3 := (r5.fr f6 (by simp)).fr p7.2.1 (by simp; omega)
      have hQP : Has s 0 (Q ++ P) := by rw [Has.app, Nat.zero_add]; exact ⟨hQ, hPs⟩
      have hQPl := hQP.le
      rw [Nat.zero_add] at hQPl
      have e8 := wlen_c hB 9 p7.1 (by omega)
      have e9 := pos_c hB 9 R3
      rw [ha', ← List.length_append] at e9 R3
      have w1 : IntKind.wrap .i64 ((i : Int) + 1) = ((i + 1 : Nat) : Int) := by rw [wr _ (by omega)]; omega
      have hr1 := r5.lt
      have hf6 := f6.1
      exact .inr ⟨m, ([.str s, .ptr r 0, .ptr w 0, .int .i64 (n : Int), .int .i64 K, .int .i64 ((i + 1 : Nat) : Int)], T3), by omega, by simp only [zB, decide_true, decide_false, Bool.false_eq_true, if_false, if_true, List.getElem?_cons_zero, List.getElem?_cons_succ, beq_self_eq_true, bne_self_eq_false, Int.reduceBNe, Int.reduceBEq, Int.reduceLT, Int.reduceGT, Int.reduceLE, Int.reduceGE, Nat.reduceAdd, Nat.reduceMul, Nat.reduceLeDiff, c1, e4, e5, z0, hlen, e6, q00, e7, e8, e9, w1], i + 1, q', T3, Q ++ P, by omega, rfl, R3, p7.1, by rcases p7.2.2 with h | h <;> omega, hQP⟩
theorem vblockAgain_law (xs : List AV) (h : argsOk Try.prog maxLen 16 Try.f20.params.toList xs) : ∃ (C : CallF) (S' : Heap), NOk Try.prog (fun _ => none) C ∧ C 20 0 xs S0 = some (.bool true, S') := by
  rw [Try.params20] at h
  obtain ⟨a, r, rfl, h1, b, r2, rfl, h2, c, r3, rfl, h3, rfl⟩ := h
  obtain ⟨s, rfl, hs⟩ := arg9 h1
  obtain ⟨x, rfl, hx⟩ := arg5 h2
  obtain ⟨c, rfl, _⟩ := arg3 h3
  obtain ⟨S', hS⟩ := again20_law (s := s) hx c
  exact ⟨Cn Bk 11, S', Cn_ok 11, hS⟩
end Go.Ab.tV
