/- The levels of a block are read; runs become a block again. -/
import Derived.Test.YtfkmmiinlipcpaaVG1
import Derived.Test.YtfkmmiinlipcpaaVE7
set_option maxRecDepth 100000
set_option linter.unusedSimpArgs false
set_option linter.unusedVariables false
set_option linter.unusedSectionVars false
namespace Go.Ab.tV
open Go Go.Proofs

theorem sel_2 {β : Type} (f g h : List AV → Heap → Option β) (fs : List (List AV → Heap → Option β)) (v : List AV) (S : Heap) : sel (f :: g :: h :: fs) 2 v S = h v S := (rfl)
def fill : List Int → List Nat → Nat → List Int → List Int
  | [], _, _, out => out
  | v :: L, B, pos, out => fill L B.tail (pos - 1 - B.headD 0) (out.set pos v)
theorem fill_shift : ∀ (L : List Int) (B : List Nat) (pos : Nat) (x : Int) (out : List Int), B.length = L.length - 1 → (L.length - 1) + B.sum ≤ pos → fill L B (pos + 1) (x :: out) = x :: fill L B pos out
  | [], B, pos, x, out, h1, h2 => rfl
  | [v], B, pos, x, out, h1, h2 => by simp [fill]
  | v :: w :: L, B, pos, x, out, h1, h2 => by
    cases B with
    | nil => simp at h1
    | cons b B =>
      simp only [List.length_cons, List.sum_cons] at h1 h2
      have e : pos + 1 - 1 - b = (pos - 1 - b) + 1 := by omega
      have ih := fill_shift (w :: L) B (pos - 1 - b) x (out.set pos v) (by simp only [List.length_cons]; omega) (by simp only [List.length_cons]; omega)
      simp only [fill, List.tail_cons, List.headD_cons, List.set_cons_succ] at ih ⊢
      rw [e]
      exact ih
theorem fill_app : ∀ (L : List Int) (B : List Nat) (pos : Nat) (out : List Int) (v : Int) (z : Nat), L ≠ [] → B.length = L.length - 1 → fill (L ++ [v]) (B ++ [z]) pos out = (fill L B pos out).set (pos - L.length - B.sum - z) v
  | [], B, pos, out, v, z, h0, h1 => absurd rfl h0
  | [w], B, pos, out, v, z, h0, h1 => by
    have : B = [] := List.length_eq_zero_iff.1 (by simpa using h1)
    subst this
    simp [fill]
  | w :: w2 :: L, B, pos, out, v, z, h0, h1 => by
    cases B with
    | nil => simp at h1
    | cons b B =>
      simp only [List.length_cons] at h1
      have ih := fill_app (w2 :: L) B (pos - 1 - b) (out.set pos w) v z (by simp) (by simp only [List.length_cons]; omega)
      have e : pos - 1 - b - (w2 :: L).length - B.sum - z = pos - (w :: w2 :: L).length - (b :: B).sum - z := by simp only [List.length_cons, List.sum_cons]; omega
      rw [e] at ih
      simp only [List.cons_append, fill, List.tail_cons, List.headD_cons] at ih ⊢
      exact ih
theorem rst_zero {l : List Int} (h : (rst l).1 = []) : l = List.replicate l.length 0 := by
  induction l with
  | nil => rfl
  | cons v l ih =>
    by_cases h0 : v = 0
    · have e : rst (v :: l) = ((rst l).1, (rst l).2.1, (rst l).2.2 + 1) := by simp only [rst, if_pos h0]
      rw [e] at h
      rw [h0, List.length_cons, List.replicate_succ, ← ih h]
    · exfalso
      by_cases h1 : (rst l).1 = []
      · have e : rst (v :: l) = ([v], [], 0) := by simp only [rst, if_neg h0, if_pos h1]
        rw [e] at h; simp at h
      · have e : rst (v :: l) = ((rst l).1 ++ [v], (rst l).2.1 ++ [(rst l).2.2], 0) := by simp only [rst, if_neg h0, if_neg h1]
        rw [e] at h; simp at h
theorem fill_rst : ∀ l : List Int, (rst l).1 ≠ [] → fill (rst l).1 (rst l).2.1 ((rst l).2.2 + ((rst l).1.length - 1) + (rst l).2.1.sum) (List.replicate l.length 0) = l
  | [], h => absurd rfl h
  | v :: l, h => by
    have hB := (rst_sum l).2
    by_cases h0 : v = 0
    · have e : rst (v :: l) = ((rst l).1, (rst l).2.1, (rst l).2.2 + 1) := by simp only [rst, if_pos h0]
      rw [e] at h ⊢
      have ih := fill_rst l h
      have := fill_shift (rst l).1 (rst l).2.1 ((rst l).2.2 + ((rst l).1.length - 1) + (rst l).2.1.sum) 0 (List.replicate l.length 0) hB (by omega)
      rw [ih] at this
      rw [h0, List.length_cons, List.replicate_succ]
      simp only
      rw [show (rst l).2.2 + 1 + ((rst l).1.length - 1) + (rst l).2.1.sum = (rst l).2.2 + ((rst l).1.length - 1) + (rst l).2.1.sum + 1 by omega]
      exact this
    · by_cases h1 : (rst l).1 = []
      · have e : rst (v :: l) = ([v], [], 0) := by simp only [rst, if_neg h0, if_pos h1]
        rw [e]
        have hz := rst_zero h1
        simp only [List.length_cons, List.replicate_succ, fill, List.length_nil, List.sum_nil]
        rw [show 0 + (0 + 1 - 1) + 0 = 0 from rfl, List.set_cons_zero, ← hz]
      · have e : rst (v :: l) = ((rst l).1 ++ [v], (rst l).2.1 ++ [(rst l).2.2], 0) := by simp only [rst, if_neg h0, if_neg h1]
        have hp := List.length_pos_iff.2 h1
        rw [e]
        have ih := fill_rst l h1
        have sh := fill_shift (rst l).1 (rst l).2.1 ((rst l).2.2 + ((rst l).1.length - 1) + (rst l).2.1.sum) 0 (List.replicate l.length 0) hB (by omega)
        rw [ih] at sh
        have ap := fill_app (rst l).1 (rst l).2.1 ((rst l).2.2 + ((rst l).1.length - 1) + (rst l).2.1.sum + 1) (0 :: List.replicate l.length 0) v (rst l).2.2 h1 hB
        rw [sh, show (rst l).2.2 + ((rst l).1.length - 1) + (rst l).2.1.sum + 1 - (rst l).1.length - (rst l).2.1.sum - (rst l).2.2 = 0 by omega, List.set_cons_zero] at ap
        simp only [List.length_cons, List.replicate_succ, List.length_append, List.length_nil, List.sum_append, List.sum_cons, List.sum_nil]
        rw [show 0 + ((rst l).1.length + (0 + 1) - 1) + ((rst l).2.1.sum + ((rst l).2.2 + 0)) = (rst l).2.2 + ((rst l).1.length - 1) + (rst l).2.1.sum + 1 by omega]
        exact ap
theorem setI2 : ∀ (B : List Int) (i : Nat) (v : Int), setCells (ints B) i [.int .i64 v] = ints (B.set i v) := by
  intro B i v
  simp only [setCells, ints, List.map_set]
theorem putI2 {T : Heap} {d : Nat} {B : List Int} {i : Nat} (v : Int) (h : T.blk d = some (ints B)) (hi : i < B.length) : putV (.ptr d (i * 1)) [.int .i64 v] T = some (T.set d (some (ints (B.set i v)))) := by
  rw [putV_p h (by rw [ints_len]; simp; omega), Nat.mul_one, setI2]
theorem idxI2 (d n : Nat) {i : Nat} (hi : i < n) : aIdx 1 (.hs d 0 n 1) (i : Int) = some (.ptr d (i * 1)) := by simp [aIdx, hi]
theorem ints_rep2 (n : Nat) : List.replicate n (AV.int .i64 0) = ints (List.replicate n 0) := by simp [ints]
theorem mk12 {n : Nat} (h : n ≤ 16) : (0 : Int) ≤ (n : Int) ∧ (n : Int) ≤ (n : Int) ∧ (n : Int) * ((8 : Nat) : Int) ≤ 2 ^ 44 ∧ (n : Int) ≤ 2 ^ 44 := by
  refine ⟨by omega, by omega, ?_, ?_⟩
  · have : (2 : Int) ^ 44 = 17592186044416 := by decide
    rw [this]; omega
  · have : (2 : Int) ^ 44 = 17592186044416 := by decide
    rw [this]; omega
theorem isl_is2 {l : List Int} (h : l ≠ []) : isl l = .is l.length (ints l) := by unfold isl; rw [if_neg h]
theorem fill_len : ∀ (L : List Int) (B : List Nat) (pos : Nat) (out : List Int), (fill L B pos out).length = out.length
  | [], _, _, _ => rfl
  | v :: L, B, pos, out => by simp only [fill, fill_len L, List.length_set]
theorem sum_drop2 (M : List Nat) {i : Nat} (hi : i < M.length) : (M.drop i).sum = M[i] + (M.drop (i + 1)).sum := by rw [List.drop_eq_getElem_cons hi, List.sum_cons]
section
variable {B : CallF} (hB : Silent B) (k : Nat) {S : Heap}
include hB
theorem block_c {l : List Int} (hl : Blk l) {aM : AV} {dM : Nat} (hbM : IL S aM (natI (rst l).2.1) dM) : ∃ S', Cn B (k + 2) f_runs_Block 0 [.int .i64 (l.length : Int), .agg [isl (rst l).1, .int .i64 (rZ l : Int), aM]] S = some (.tup [isl l, .int .i64 0], S') ∧ Fr S S' [] := by
  rw [c_runs_Block _ _ _ _ _ (hB.no _ _ _ _ (kn_no (by decide))), T_runs_Block]
  have hll := hl.len
  have htot := hl.tot
  have hzr := hl.zr
  have hmem := fun v hv => hl.mem (v := v) hv
  have hsum := rst_sum l
  have hfill := fill_rst l
  have e1 := rsized_c hB k (S := S) (l.length : Int)
  rw [hl.sz] at e1
  have hrl : rngd (rst l).1 = true := by
    unfold rngd; rw [List.all_eq_true]; intro v hv; have := hmem v hv; simp; omega
  have hZ : (rst l).1 ≠ [] → rZ l = (rst l).2.2 + (rst l).2.1.sum := fun h => by unfold rZ; rw [if_neg h]
  have hZ0 : (rst l).1 = [] → rZ l = 0 := fun h => by unfold rZ; rw [if_pos h]
  have hz0 := rst_zero (l := l)
  obtain ⟨L, hL⟩ : ∃ L, L = (rst l).1 := ⟨_, rfl⟩
  obtain ⟨M, hM⟩ : ∃ M, M = (rst l).2.1 := ⟨_, rfl⟩
  obtain ⟨z, hz⟩ : ∃ z, z = (rst l).2.2 := ⟨_, rfl⟩
  obtain ⟨Z, hZZ⟩ : ∃ Z, Z = rZ l := ⟨_, rfl⟩
  rw [← hL] at htot hzr hmem hsum hfill hrl hZ hZ0 hz0 ⊢
  rw [← hM] at hzr hsum hfill hZ hbM
  rw [← hz] at hsum hfill hZ
  rw [← hZZ] at hzr hZ hZ0 ⊢
  have e2 := ranged_c hB k (isl_il S L 0) (by omega)
  rw [hrl] at e2
  have h1 := (isl_il S L 0).len
  have h2 := hbM.len
  rw [natI_len] at h2
  have c1 : ¬ (L.length : Int) > (l.length : Int) := by omega
  have w1 : (if (IntKind.wrap .i64 ((L.length : Int) - 1)) > 0 then IntKind.wrap .i64 ((L.length : Int) - 1) else 0) = ((L.length - 1 : Nat) : Int) := by
    rw [wr _ (by omega)]; split <;> omega
  have c2 : ((M.length : Int) != ((L.length - 1 : Nat) : Int)) = false := by rw [hsum.2]; simp
  have c3 : ¬ (Z : Int) < 0 := by omega
  have w2 : IntKind.wrap .i64 ((l.length : Int) - (L.length : Int)) = ((l.length - L.length : Nat) : Int) := by rw [wr _ (by omega)]; omega
  have c4 : ¬ (Z : Int) > ((l.length - L.length : Nat) : Int) := by omega
  obtain ⟨k1, k2, k3, k4⟩ := mk12 (n := l.length) (by omega)
  obtain ⟨d, hd⟩ : ∃ d, d = S.next := ⟨_, rfl⟩
  obtain ⟨S1, hS1⟩ : ∃ S1, S1 = S.alloc (ints (List.replicate l.length 0)) := ⟨_, rfl⟩
  have b1 : S1.blk d = some (ints (List.replicate l.length 0)) := by rw [hS1, hd]; exact alloc_blk _ _
  have n1 : d < S1.next := by rw [hS1, hd]; exact Nat.lt_succ_self _
  have f1 : Fr S S1 [] := by rw [hS1]; exact Fr.alloc _ _ _
  have hlne : l ≠ [] := fun h => by rw [h] at hll; simp at hll
  have fin : ∀ T : Heap, T.blk d = some (ints l) → d < T.next → Fr S T [] → ∃ S', fz 40 (.tup [.hs d 0 l.length 1, .int .i64 0]) T = some (.tup [isl l, .int .i64 0], S') ∧ Fr S S' [] := fun T hb hn hF => by
    have hR : HR T l d := fun _ => ⟨hb, hn⟩
    have hvv : hv l d = .hs d 0 l.length 1 := by unfold hv; rw [if_neg hlne]
    have e := fz_hv 37 hR
    rw [hvv] at e
    exact ⟨_, fz_tup (fzM_c e (fzM_c (fz_int 38 _ 0 _) rfl)), hF.kill (fun _ => .inr (by omega))⟩
  by_cases h0 : L = []
  · have c5 : ((L.length : Int) == 0) = true := by rw [h0]; rfl
    have c6 : ((Z : Int) != 0) = false := by rw [hZ0 h0]; rfl
    rw [← hz0 h0] at b1
    obtain ⟨S', e3, f3⟩ := fin S1 b1 n1 f1
    exact ⟨S', by simp only [zB, decide_true, decide_false, Bool.false_eq_true, if_false, if_true, List.getElem?_cons_zero, List.getElem?_cons_succ, beq_self_eq_true, bne_self_eq_false, Int.reduceBNe, Int.reduceBEq, Int.reduceLT, Int.reduceGT, Int.reduceLE, Int.reduceGE, Nat.reduceAdd, Nat.reduceMul, Nat.reduceLeDiff, List.length_cons, List.length_nil, h1, e1, e2, c1, h2, w1, c2, c3, w2, c4, c5, c6, k1, k2, k3, k4, Int.toNat_natCast, ints_rep2, ← hd, ← hS1, e3], f3⟩
  · have hLp := List.length_pos_iff.2 h0
    have c5 : ((L.length : Int) == 0) = false := by simp; exact h0
    have hZe := hZ h0
    have hfl := hfill h0
    have w3 : IntKind.wrap .i64 (IntKind.wrap .i64 ((L.length : Int) + (Z : Int)) - 1) = ((z + (L.length - 1) + M.sum : Nat) : Int) := by
      rw [wr ((L.length : Int) + (Z : Int)) (by omega), wr _ (by omega)]; omega
    simp only [zB, decide_true, decide_false, Bool.false_eq_true, if_false, if_true, List.getElem?_cons_zero, List.getElem?_cons_succ, beq_self_eq_true, bne_self_eq_false, Int.reduceBNe, Int.reduceBEq, Int.reduceLT, Int.reduceGT, Int.reduceLE, Int.reduceGE, Nat.reduceAdd, Nat.reduceMul, Nat.reduceLeDiff, List.length_cons, List.length_nil, h1, e1, e2, c1, h2, w1, c2, c3, w2, c4, c5, k1, k2, k3, k4, Int.toNat_natCast, ints_rep2, ← hd, ← hS1, w3]
    refine loop_meas (fun o => ∃ S', o = some (AV.tup [isl l, .int .i64 0], S') ∧ Fr S S' []) (fun m st => ∃ (i : Nat) (T : Heap) (out : List Int), i + m + 1 = L.length ∧ st = ([.agg [isl L, .int .i64 (Z : Int), aM], .hs d 0 l.length 1, .int .i64 (L.length : Int), .int .i64 ((z + m + (M.drop i).sum : Nat) : Int), isl L, .int .i64 (L.length : Int), .int .i64 (i : Int)], T) ∧
        T.blk d = some (ints out) ∧ out.length = l.length ∧ d < T.next ∧ Fr S T [] ∧ fill (L.drop i) (M.drop i) (z + m + (M.drop i).sum) out = l) (L.length - 1)
      ⟨0, S1, List.replicate l.length 0, by omega, rfl, b1, List.length_replicate, n1, f1, hfl⟩ ?_
    rintro m st ⟨i, T, out, him, rfl, hb, hol, hdT, hF, hfi⟩
    have hi : i < L.length := by omega
    have c6 : (i : Int) < (L.length : Int) := by omega
    obtain ⟨t, cs, o, x1, x2, x3⟩ := (isl_il T L 0).at hi
    have c7 : ¬ ((z + m + (M.drop i).sum : Nat) : Int) < 0 := by omega
    have hv0 := (hmem L[i] (List.getElem_mem hi)).1
    have c8 : (L[i] == 0) = false := by simp [hv0]
    have hpos : z + m + (M.drop i).sum < l.length := by
      have : (M.drop i).sum ≤ M.sum := by
        have := List.take_append_drop i M
        calc (M.drop i).sum ≤ (M.take i).sum + (M.drop i).sum := Nat.le_add_left _ _
          _ = M.sum := by rw [← List.sum_append, this]
      omega
    have e3 := idxI2 d l.length hpos
    have e4 := putI2 L[i] hb (i := z + m + (M.drop i).sum) (by omega)
    obtain ⟨T1, hT1⟩ : ∃ T1, T1 = T.set d (some (ints (out.set (z + m + (M.drop i).sum) L[i]))) := ⟨_, rfl⟩
    rw [← hT1] at e4
    have b2 : T1.blk d = some (ints (out.set (z + m + (M.drop i).sum) L[i])) := by rw [hT1, set_blk]
    have n2 : d < T1.next := by rw [hT1]; exact hdT
    have f2 : Fr S T1 [] := by rw [hT1]; exact hF.set (.inr (by omega)) _
    have w4 : IntKind.wrap .i64 ((i : Int) + 1) = ((i + 1 : Nat) : Int) := by rw [wr _ (by omega)]; omega
    rw [List.drop_eq_getElem_cons hi, fill] at hfi
    cases m with
    | zero =>
      have c9 : (((i + 1 : Nat) : Int) == (L.length : Int)) = true := by simp; omega
      rw [List.drop_eq_nil_of_le (by omega), fill] at hfi
      rw [hfi] at b2
      obtain ⟨S', e5, f5⟩ := fin T1 b2 n2 f2
      rw [Nat.add_zero] at c7 e3 e4
      exact .inl ⟨(2, [.hs d 0 l.length 1, .int .i64 0], T1), by simp only [zB, decide_true, decide_false, Bool.false_eq_true, if_false, if_true, List.getElem?_cons_zero, List.getElem?_cons_succ, beq_self_eq_true, bne_self_eq_false, Int.reduceBNe, Int.reduceBEq, Int.reduceLT, Int.reduceGT, Int.reduceLE, Int.reduceGE, Nat.reduceAdd, Nat.reduceMul, Nat.reduceLeDiff, c6, x1, x2, x3, c7, c8, e3, e4, w4, c9], S', by simp only [zB, decide_true, decide_false, Bool.false_eq_true, if_false, if_true, List.getElem?_cons_zero, List.getElem?_cons_succ, beq_self_eq_true, bne_self_eq_false, Int.reduceBNe, Int.reduceBEq, Int.reduceLT, Int.reduceGT, Int.reduceLE, Int.reduceGE, Nat.reduceAdd, Nat.reduceMul, Nat.reduceLeDiff, sel_2, e5], f5⟩
    | succ m =>
      have c9 : (((i + 1 : Nat) : Int) == (L.length : Int)) = false := by simp; omega
      have hiM : i < M.length := by omega
      have hi' : i < (natI M).length := by rw [natI_len]; exact hiM
      obtain ⟨t2, cs2, o2, y1, y2, y3⟩ := (hbM.fr f2 (by simp)).at hi'
      rw [natI_at hi'] at y3
      have hsd := sum_drop2 M hiM
      have hmz : (M.drop i).sum ≤ Z := by
        have := List.take_append_drop i M
        have h3 : (M.drop i).sum ≤ M.sum := by
          calc (M.drop i).sum ≤ (M.take i).sum + (M.drop i).sum := Nat.le_add_left _ _
            _ = M.sum := by rw [← List.sum_append, this]
        omega
      have c10 : ¬ ((M[i] : Nat) : Int) < 0 := by omega
      have c11 : ¬ ((M[i] : Nat) : Int) > (Z : Int) := by omega
      have w5 : IntKind.wrap .i64 (IntKind.wrap .i64 (((z + (m + 1) + (M.drop i).sum : Nat) : Int) - 1) - ((M[i] : Nat) : Int)) = ((z + m + (M.drop (i + 1)).sum : Nat) : Int) := by
        rw [wr (((z + (m + 1) + (M.drop i).sum : Nat) : Int) - 1) (by omega), wr _ (by omega)]; omega
      refine .inr ⟨m, ([.agg [isl L, .int .i64 (Z : Int), aM], .hs d 0 l.length 1, .int .i64 (L.length : Int), .int .i64 ((z + m + (M.drop (i + 1)).sum : Nat) : Int), isl L, .int .i64 (L.length : Int), .int .i64 ((i + 1 : Nat) : Int)], T1), by omega, by simp only [zB, decide_true, decide_false, Bool.false_eq_true, if_false, if_true, List.getElem?_cons_zero, List.getElem?_cons_succ, beq_self_eq_true, bne_self_eq_false, Int.reduceBNe, Int.reduceBEq, Int.reduceLT, Int.reduceGT, Int.reduceLE, Int.reduceGE, Nat.reduceAdd, Nat.reduceMul, Nat.reduceLeDiff, c6, x1, x2, x3, c7, c8, e3, e4, w4, c9, y1, y2, y3, c10, c11, w5], i + 1, T1, _, by omega, rfl, b2, by rw [List.length_set]; exact hol, n2, f2, ?_⟩
      rw [List.drop_eq_getElem_cons hiM, List.tail_cons, List.headD_cons, List.sum_cons] at hfi
      rw [show z + (m + 1) + (M[i] + (M.drop (i + 1)).sum) - 1 - M[i] = z + m + (M.drop (i + 1)).sum by omega] at hfi
      rw [hsd]; exact hfi
end
end Go.Ab.tV
