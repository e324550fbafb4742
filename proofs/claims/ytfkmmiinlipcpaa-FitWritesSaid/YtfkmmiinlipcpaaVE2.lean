/- The runs of a block: spindleref17.Of and runs.Of. -/
import Derived.Test.YtfkmmiinlipcpaaVE1
set_option maxRecDepth 100000
set_option linter.unusedSimpArgs false
set_option linter.unusedVariables false
set_option linter.unusedSectionVars false
namespace Go.Ab.tV
open Go Go.Proofs

/-- From the end: the levels, the zeros between them, the zeros since the last one. -/
def rst : List Int → List Int × List Nat × Nat
  | [] => ([], [], 0)
  | v :: l => if v = 0 then ((rst l).1, (rst l).2.1, (rst l).2.2 + 1) else if (rst l).1 = [] then ([v], [], 0) else ((rst l).1 ++ [v], (rst l).2.1 ++ [(rst l).2.2], 0)
def natI (l : List Nat) : List Int := l.map fun (x : Nat) => (x : Int)
theorem natI_len (l : List Nat) : (natI l).length = l.length := by simp [natI]
theorem natI_app (l m : List Nat) : natI (l ++ m) = natI l ++ natI m := by simp [natI]
theorem natI_nil (l : List Nat) : natI l = [] ↔ l = [] := by cases l <;> simp [natI]
def rZ (l : List Int) : Nat := if (rst l).1 = [] then 0 else (rst l).2.2 + (rst l).2.1.sum
theorem rst_sum : ∀ l : List Int, (rst l).1.length + (rst l).2.1.sum + (rst l).2.2 ≤ l.length ∧ (rst l).2.1.length = (rst l).1.length - 1
  | [] => by simp [rst]
  | v :: l => by
    obtain ⟨h1, h2⟩ := rst_sum l
    by_cases h0 : v = 0
    · simp only [rst, if_pos h0, List.length_cons]; omega
    · by_cases h3 : (rst l).1 = []
      · have e : rst (v :: l) = ([v], [], 0) := by simp only [rst, if_neg h0, if_pos h3]
        rw [e]; simp
      · have := List.length_pos_iff.2 h3
        simp only [rst, if_neg h0, if_neg h3, List.length_append, List.length_cons, List.length_nil, List.sum_append, List.sum_cons, List.sum_nil]
        omega
def zR : AV := .agg [.nils, .int .i64 0, .nils]
def ofA (l : List Int) : AV := .agg [isl (rst l).1, .int .i64 (rZ l : Int), isl (natI (rst l).2.1)]
def ofR (l : List Int) : AV := if sizedI (l.length : Int) = false then .tup [zR, .int .i64 2] else if rngd l = false then .tup [zR, .int .i64 3] else .tup [ofA l, .int .i64 0]
theorem sized_le {l : List Int} (h : sizedI (l.length : Int) = true) : l.length ≤ 16 ∧ 4 ≤ l.length := by
  rcases (sizedI_iff _).1 h with h | h | h <;> omega
theorem fz_zR (e : Int) (S : Heap) : fz 40 (.tup [.agg [.nils, .int .i64 0, .nils], .int .i64 e]) S = some (.tup [.agg [.nils, .int .i64 0, .nils], .int .i64 e], S) := (rfl)
theorem bO_assoc {α β γ : Type} (x : Option α) (f : α → Option β) (g : β → Option γ) : bO (bO x f) g = bO x fun r => bO (f r) g := by cases x <;> rfl
theorem cell_i (k : IntKind) (x : Int) : cell (.int k x) = true := rfl
theorem cell_nils : cell .nils = true := rfl
theorem take3 (x y z : AV) : List.take 3 (List.drop 0 [x, y, z]) = [x, y, z] := rfl
theorem set3_a (x y z a b c : AV) : setCells [x, y, z] 0 [a, b, c] = [a, b, c] := (rfl)
theorem set3_0 (x y z a : AV) : setCells [x, y, z] 0 [a] = [a, y, z] := (rfl)
theorem set3_1 (x y z a : AV) : setCells [x, y, z] 1 [a] = [x, a, z] := (rfl)
theorem set3_2 (x y z a : AV) : setCells [x, y, z] 2 [a] = [x, y, a] := (rfl)
theorem sum_drop (l : List Nat) {i : Nat} (hi : i < l.length) : (l.take (i + 1)).sum = (l.take i).sum + l[i] := by
  rw [List.take_add_one, List.getElem?_eq_getElem hi, Option.toList_some, List.sum_append]; simp
theorem sum_take_le (l : List Nat) (i : Nat) : (l.take i).sum ≤ l.sum := by
  have := List.take_append_drop i l
  calc (l.take i).sum ≤ (l.take i).sum + (l.drop i).sum := Nat.le_add_right _ _
    _ = l.sum := by rw [← List.sum_append, this]
theorem natI_at {l : List Nat} {i : Nat} (hi : i < (natI l).length) : (natI l)[i] = ((l[i]'(by rw [natI_len] at hi; exact hi) : Nat) : Int) := by simp [natI]
section
variable {B : CallF} (hB : Silent B) (k : Nat) {S : Heap} {a : AV} {l : List Int} {d : Nat}
include hB
theorem of1_c (h : IL S a l d) (hl0 : l.length ≤ 1000000000) : ∃ S', Cn B (k + 2) f_spindleref17_Of 0 [a] S = some (ofR l, S') ∧ Fr S S' [] := by
  rw [c_spindleref17_Of _ _ _ _ (hB.no _ _ _ _ (kn_no (by decide))), T_spindleref17_Of]
  have e1 := rsized1_c hB k (S := S) (l.length : Int)
  unfold ofR
  by_cases hs : sizedI (l.length : Int) = false
  · rw [hs] at e1
    rw [if_pos hs]
    exact ⟨S, by simp only [zB, decide_true, decide_false, Bool.false_eq_true, if_false, if_true, List.getElem?_cons_zero, List.getElem?_cons_succ, beq_self_eq_true, bne_self_eq_false, Int.reduceBNe, Int.reduceBEq, Int.reduceLT, Int.reduceGT, Int.reduceLE, Int.reduceGE, Nat.reduceAdd, Nat.reduceMul, Nat.reduceLeDiff, h.len, e1, fz_zR]; rfl, Fr.refl _ _⟩
  have hs' : sizedI (l.length : Int) = true := by simpa using hs
  rw [if_neg hs]
  rw [hs'] at e1
  have e2 := ranged1_c hB k h hl0
  by_cases hr : rngd l = false
  · rw [hr] at e2
    rw [if_pos hr]
    exact ⟨S, by simp only [zB, decide_true, decide_false, Bool.false_eq_true, if_false, if_true, List.getElem?_cons_zero, List.getElem?_cons_succ, beq_self_eq_true, bne_self_eq_false, Int.reduceBNe, Int.reduceBEq, Int.reduceLT, Int.reduceGT, Int.reduceLE, Int.reduceGE, Nat.reduceAdd, Nat.reduceMul, Nat.reduceLeDiff, h.len, e1, e2, fz_zR]; rfl, Fr.refl _ _⟩
  have hr' : rngd l = true := by simpa using hr
  rw [if_neg hr]
  rw [hr'] at e2
  obtain ⟨hl16, _⟩ := sized_le hs'
  have w0 : IntKind.wrap .i64 ((l.length : Int) - 1) = (l.length : Int) - 1 := wr _ (by omega)
  simp only [zB, decide_true, decide_false, Bool.false_eq_true, if_false, if_true, List.getElem?_cons_zero, List.getElem?_cons_succ, beq_self_eq_true, bne_self_eq_false, Int.reduceBNe, Int.reduceBEq, Int.reduceLT, Int.reduceGT, Int.reduceLE, Int.reduceGE, Nat.reduceAdd, Nat.reduceMul, Nat.reduceLeDiff, h.len, e1, e2, w0]
  refine loop_meas (fun o => ∃ S', o = some (AV.tup [ofA l, .int .i64 0], S') ∧ Fr S S' []) (fun m st => ∃ (T : Heap) (bL bB : Nat), m ≤ l.length ∧
      st = ([a, .agg [.nils, .int .i64 0, .nils], .agg [hv (rst (l.drop m)).1 bL, .int .i64 0, hv (natI (rst (l.drop m)).2.1) bB], .int .i64 ((rst (l.drop m)).2.2 : Int), .int .i64 ((m : Int) - 1)], T) ∧
      HR T (rst (l.drop m)).1 bL ∧ HR T (natI (rst (l.drop m)).2.1) bB ∧ ((rst (l.drop m)).2.1 ≠ [] → bB ≠ bL) ∧ ((rst (l.drop m)).1 ≠ [] → S.next ≤ bL) ∧ ((rst (l.drop m)).2.1 ≠ [] → S.next ≤ bB) ∧ Fr S T []) l.length
    ⟨S, 0, 0, Nat.le_refl _, by rw [List.drop_length]; rfl, by rw [List.drop_length]; exact fun h => absurd rfl h, by rw [List.drop_length]; exact fun h => absurd rfl h, by rw [List.drop_length]; exact fun h => absurd rfl h, by rw [List.drop_length]; exact fun h => absurd rfl h, by rw [List.drop_length]; exact fun h => absurd rfl h, Fr.refl _ _⟩ ?_
  rintro m st ⟨T, bL, bB, hm, rfl, hL, hBB, hne, hLn, hBn, hF⟩
  cases m with
  | zero =>
    have c1 : ¬ (((0 : Nat) : Int) - 1 ≥ 0) := by omega
    rw [List.drop_zero] at *
    refine .inl ⟨(0, [.agg [.nils, .int .i64 0, .nils], .agg [hv (rst l).1 bL, .int .i64 0, hv (natI (rst l).2.1) bB], .int .i64 ((rst l).2.2 : Int)], T), by simp only [zB, decide_true, decide_false, Bool.false_eq_true, if_false, if_true, List.getElem?_cons_zero, List.getElem?_cons_succ, beq_self_eq_true, bne_self_eq_false, Int.reduceBNe, Int.reduceBEq, Int.reduceLT, Int.reduceGT, Int.reduceLE, Int.reduceGE, Nat.reduceAdd, Nat.reduceMul, Nat.reduceLeDiff, c1], ?_⟩
    obtain ⟨s1, s2⟩ := rst_sum l
    have hz := fun x => fz_runs (x := x) (e := 0) hL hBB (fun _ h1 => hne (fun h0 => h1 ((natI_nil _).2 h0)))
    have hFk : Fr S (kill (kill T (rst l).1 bL) (natI (rst l).2.1) bB) [] := (hF.kill (fun h0 => .inr (hLn h0))).kill (fun h1 => .inr (hBn (fun h0 => h1 ((natI_nil _).2 h0))))
    by_cases h0 : (rst l).1 = []
    · have h1 : (rst l).2.1 = [] := by
        rw [h0] at s2
        exact List.length_eq_zero_iff.1 (by simpa using s2)
      have hlen0 : ((rst l).1.length : Int) = 0 := by rw [h0]; rfl
      have c2 : ¬ ((0 : Int) > 0) := by omega
      have hzr : (rZ l : Int) = 0 := by unfold rZ; rw [if_pos h0]; rfl
      refine ⟨_, ?_, hFk⟩
      unfold ofA
      rw [hzr]
      simp only [zB, decide_true, decide_false, Bool.false_eq_true, if_false, if_true, List.getElem?_cons_zero, List.getElem?_cons_succ, beq_self_eq_true, bne_self_eq_false, Int.reduceBNe, Int.reduceBEq, Int.reduceLT, Int.reduceGT, Int.reduceLE, Int.reduceGE, Nat.reduceAdd, Nat.reduceMul, Nat.reduceLeDiff, sel, hv_len, hlen0, c2, take3, set3_a, List.length_cons, List.length_nil, List.all_cons, List.all_nil, hv_cell, cell_i, cell_nils, hz]
    · have hlp := List.length_pos_iff.2 h0
      have c2 : ((rst l).1.length : Int) > 0 := by omega
      have hzr : rZ l = (rst l).2.2 + (rst l).2.1.sum := by unfold rZ; rw [if_neg h0]
      refine ⟨_, ?_, hFk⟩
      unfold ofA
      simp only [zB, decide_true, decide_false, Bool.false_eq_true, if_false, if_true, List.getElem?_cons_zero, List.getElem?_cons_succ, beq_self_eq_true, bne_self_eq_false, Int.reduceBNe, Int.reduceBEq, Int.reduceLT, Int.reduceGT, Int.reduceLE, Int.reduceGE, Nat.reduceAdd, Nat.reduceMul, Nat.reduceLeDiff, sel, hv_len, c2, take3, set3_a, set3_1, List.length_cons, List.length_nil]
      rw [bO_assoc]
      refine loop_meas (fun o => o = some (AV.tup [.agg [isl (rst l).1, .int .i64 (rZ l : Int), isl (natI (rst l).2.1)], .int .i64 0], kill (kill T (rst l).1 bL) (natI (rst l).2.1) bB)) (fun m st => ∃ i : Nat, i + m = (rst l).2.1.length ∧
        st = ([.agg [.nils, .int .i64 0, .nils], .agg [hv (rst l).1 bL, .int .i64 (((rst l).2.2 + ((rst l).2.1.take i).sum : Nat) : Int), hv (natI (rst l).2.1) bB], .int .i64 (i : Int)], T)) (rst l).2.1.length ⟨0, by omega, rfl⟩ ?_
      rintro m st ⟨i, him, rfl⟩
      cases m with
      | zero =>
        have c3 : ¬ ((i : Int) < ((natI (rst l).2.1).length : Int)) := by rw [natI_len]; omega
        refine .inl ⟨(0, [.agg [.nils, .int .i64 0, .nils], .agg [hv (rst l).1 bL, .int .i64 (rZ l : Int), hv (natI (rst l).2.1) bB]], T), ?_, ?_⟩
        · rw [List.take_of_length_le (by omega), ← hzr]
          simp only [zB, decide_true, decide_false, Bool.false_eq_true, if_false, if_true, List.getElem?_cons_zero, List.getElem?_cons_succ, beq_self_eq_true, bne_self_eq_false, Int.reduceBNe, Int.reduceBEq, Int.reduceLT, Int.reduceGT, Int.reduceLE, Int.reduceGE, Nat.reduceAdd, Nat.reduceMul, Nat.reduceLeDiff, hv_len, c3]
        · simp only [zB, decide_true, decide_false, Bool.false_eq_true, if_false, if_true, List.getElem?_cons_zero, List.getElem?_cons_succ, beq_self_eq_true, bne_self_eq_false, Int.reduceBNe, Int.reduceBEq, Int.reduceLT, Int.reduceGT, Int.reduceLE, Int.reduceGE, Nat.reduceAdd, Nat.reduceMul, Nat.reduceLeDiff, sel, take3, set3_a, List.length_cons, List.length_nil, List.all_cons, List.all_nil, hv_cell, cell_i, cell_nils, hz]
      | succ m =>
        have hi : i < (rst l).2.1.length := by omega
        have hi' : i < (natI (rst l).2.1).length := by rw [natI_len]; exact hi
        have c3 : (i : Int) < ((natI (rst l).2.1).length : Int) := by omega
        obtain ⟨t, cs, o, x1, x2, x3⟩ := (hv_il hBB).at hi'
        rw [natI_at hi'] at x3
        have hsd := sum_drop _ hi
        have hst := sum_take_le (rst l).2.1 (i + 1)
        have w1 : IntKind.wrap .i64 ((((rst l).2.2 + ((rst l).2.1.take i).sum : Nat) : Int) + (((rst l).2.1[i] : Nat) : Int)) = (((rst l).2.2 + ((rst l).2.1.take (i + 1)).sum : Nat) : Int) := by rw [wr _ (by omega)]; omega
        have w2 : IntKind.wrap .i64 ((i : Int) + 1) = ((i + 1 : Nat) : Int) := by rw [wr _ (by omega)]; omega
        exact .inr ⟨m, ([.agg [.nils, .int .i64 0, .nils], .agg [hv (rst l).1 bL, .int .i64 (((rst l).2.2 + ((rst l).2.1.take (i + 1)).sum : Nat) : Int), hv (natI (rst l).2.1) bB], .int .i64 ((i + 1 : Nat) : Int)], T), by omega, by simp only [zB, decide_true, decide_false, Bool.false_eq_true, if_false, if_true, List.getElem?_cons_zero, List.getElem?_cons_succ, beq_self_eq_true, bne_self_eq_false, Int.reduceBNe, Int.reduceBEq, Int.reduceLT, Int.reduceGT, Int.reduceLE, Int.reduceGE, Nat.reduceAdd, Nat.reduceMul, Nat.reduceLeDiff, hv_len, c3, x1, x2, x3, w1, w2, set3_1, List.length_cons, List.length_nil], i + 1, by omega, rfl⟩
  | succ m =>
    have hi : m < l.length := by omega
    have c1 : (((m + 1 : Nat)) : Int) - 1 ≥ 0 := by omega
    have q1 : (((m + 1 : Nat)) : Int) - 1 = (m : Int) := by omega
    obtain ⟨t, cs, o, x1, x2, x3⟩ := (h.fr hF (by simp)).at hi
    have hd : rst (l.drop m) = rst (l[m] :: l.drop (m + 1)) := by rw [← List.drop_eq_getElem_cons hi]
    obtain ⟨s1, s2⟩ := rst_sum (l.drop (m + 1))
    rw [List.length_drop] at s1
    have w2 : IntKind.wrap .i64 ((m : Int) - 1) = (m : Int) - 1 := wr _ (by omega)
    rw [q1] at c1 ⊢
    by_cases hv0 : l[m] = 0
    · have hd2 : rst (l.drop m) = ((rst (l.drop (m + 1))).1, (rst (l.drop (m + 1))).2.1, (rst (l.drop (m + 1))).2.2 + 1) := by rw [hd]; simp only [rst, if_pos hv0]
      have c3 : (l[m] == 0) = true := by simp [hv0]
      have w1 : IntKind.wrap .i64 (((rst (l.drop (m + 1))).2.2 : Int) + 1) = (((rst (l.drop (m + 1))).2.2 + 1 : Nat) : Int) := by rw [wr _ (by omega)]; omega
      refine .inr ⟨m, ([a, .agg [.nils, .int .i64 0, .nils], .agg [hv (rst (l.drop (m + 1))).1 bL, .int .i64 0, hv (natI (rst (l.drop (m + 1))).2.1) bB], .int .i64 (((rst (l.drop (m + 1))).2.2 + 1 : Nat) : Int), .int .i64 ((m : Int) - 1)], T), by omega, by simp only [zB, decide_true, decide_false, Bool.false_eq_true, if_false, if_true, List.getElem?_cons_zero, List.getElem?_cons_succ, beq_self_eq_true, bne_self_eq_false, Int.reduceBNe, Int.reduceBEq, Int.reduceLT, Int.reduceGT, Int.reduceLE, Int.reduceGE, Nat.reduceAdd, Nat.reduceMul, Nat.reduceLeDiff, c1, x1, x2, x3, c3, w1, w2], T, bL, bB, by omega, ?_, ?_⟩
      · rw [hd2]
      · rw [hd2]; exact ⟨hL, hBB, hne, hLn, hBn, hF⟩
    · have c3 : (l[m] == 0) = false := by simp [hv0]
      by_cases h0 : (rst (l.drop (m + 1))).1 = []
      · have hd2 : rst (l.drop m) = ([l[m]], [], 0) := by rw [hd]; simp only [rst, if_neg hv0, if_pos h0]
        have hB0 : (rst (l.drop (m + 1))).2.1 = [] := by
          rw [h0] at s2
          exact List.length_eq_zero_iff.1 (by simpa using s2)
        have hlen0 : ((rst (l.drop (m + 1))).1.length : Int) = 0 := by rw [h0]; rfl
        have c4 : ¬ ((0 : Int) > 0) := by omega
        obtain ⟨T2, e3, hL2, n2, x4, o2⟩ := appI l[m] hL (by omega)
        rw [h0, List.nil_append] at e3 hL2
        have hvn : hv [] bL = .nils := rfl
        have hvn2 : hv (natI []) bB = .nils := rfl
        rw [hvn] at e3
        have hF2 : Fr S T2 [] := ⟨by rw [n2]; have := hF.1; omega, x4.trans hF.2.1, fun j hj _ => (o2 j (by have := hF.1; omega) (.inr h0)).trans (hF.2.2 j hj (by simp))⟩
        refine .inr ⟨m, ([a, .agg [.nils, .int .i64 0, .nils], .agg [hv [l[m]] T.next, .int .i64 0, .nils], .int .i64 0, .int .i64 ((m : Int) - 1)], T2), by omega, ?_, T2, T.next, bB, by omega, ?_, ?_⟩
        · rw [h0, hB0]
          simp only [zB, decide_true, decide_false, Bool.false_eq_true, if_false, if_true, List.getElem?_cons_zero, List.getElem?_cons_succ, beq_self_eq_true, bne_self_eq_false, Int.reduceBNe, Int.reduceBEq, Int.reduceLT, Int.reduceGT, Int.reduceLE, Int.reduceGE, Nat.reduceAdd, Nat.reduceMul, Nat.reduceLeDiff, c1, x1, x2, x3, c3, hvn, hvn2, e3, c4, w2, hv_cell, List.all_cons, List.all_nil, set3_0, List.length_cons, List.length_nil]
        · rw [hd2]; rfl
        · rw [hd2]
          exact ⟨hL2, fun hh => absurd rfl hh, fun hh => absurd rfl hh, fun _ => hF.1, fun hh => absurd rfl hh, hF2⟩
      · have hlp := List.length_pos_iff.2 h0
        have c4 : ((rst (l.drop (m + 1))).1.length : Int) > 0 := by omega
        have hd2 : rst (l.drop m) = ((rst (l.drop (m + 1))).1 ++ [l[m]], (rst (l.drop (m + 1))).2.1 ++ [(rst (l.drop (m + 1))).2.2], 0) := by rw [hd]; simp only [rst, if_neg hv0, if_neg h0]
        obtain ⟨T1, e2', hB2, n1, y1, o1⟩ := appI ((rst (l.drop (m + 1))).2.2 : Int) hBB (by rw [natI_len]; omega)
        have hbl := (hL h0).2
        have hL1 : HR T1 (rst (l.drop (m + 1))).1 bL := fun _ => ⟨(o1 bL (by omega) (by
          by_cases hb0 : (rst (l.drop (m + 1))).2.1 = []
          · exact .inr ((natI_nil _).2 hb0)
          · exact .inl (Ne.symm (hne hb0)))).trans (hL h0).1, by omega⟩
        obtain ⟨T2, e3, hL2, n2, x4, o2⟩ := appI l[m] hL1 (by omega)
        have hna : natI ((rst (l.drop (m + 1))).2.1 ++ [(rst (l.drop (m + 1))).2.2]) = natI (rst (l.drop (m + 1))).2.1 ++ [((rst (l.drop (m + 1))).2.2 : Int)] := natI_app _ _
        have hB3 : HR T2 (natI ((rst (l.drop (m + 1))).2.1 ++ [(rst (l.drop (m + 1))).2.2])) T.next := fun hh => by
          rw [hna] at hh ⊢
          exact ⟨(o2 T.next (by omega) (.inl (by omega))).trans (hB2 hh).1, by omega⟩
        have x5 : ∃ t2 cs2 o2, aIdx 1 a (m : Int) = some t2 ∧ seeV t2 T1 = some (cs2, o2) ∧ cs2[o2]? = some (.int .i64 l[m]) := by
          have hF1 : Fr S T1 [] := ⟨by rw [n1]; have := hF.1; omega, y1.trans hF.2.1, fun j hj _ => (o1 j (by have := hF.1; omega) (by
            by_cases hb0 : (rst (l.drop (m + 1))).2.1 = []
            · exact .inr ((natI_nil _).2 hb0)
            · exact .inl (by have := hBn hb0; omega))).trans (hF.2.2 j hj (by simp))⟩
          exact (h.fr hF1 (by simp)).at hi
        obtain ⟨t2, cs2, o2', z1, z2, z3⟩ := x5
        rw [x1] at z1
        have z1' := Option.some.inj z1
        subst z1'
        have hF2 : Fr S T2 [] := ⟨by rw [n2, n1]; have := hF.1; omega, x4.trans (y1.trans hF.2.1), fun j hj _ => (o2 j (by have := hF.1; omega) (.inl (by have := hLn h0; omega))).trans ((o1 j (by have := hF.1; omega) (by
            by_cases hb0 : (rst (l.drop (m + 1))).2.1 = []
            · exact .inr ((natI_nil _).2 hb0)
            · exact .inl (by have := hBn hb0; omega))).trans (hF.2.2 j hj (by simp)))⟩
        refine .inr ⟨m, ([a, .agg [.nils, .int .i64 0, .nils], .agg [hv ((rst (l.drop (m + 1))).1 ++ [l[m]]) T1.next, .int .i64 0, hv (natI ((rst (l.drop (m + 1))).2.1 ++ [(rst (l.drop (m + 1))).2.2])) T.next], .int .i64 0, .int .i64 ((m : Int) - 1)], T2), by omega, ?_, T2, T1.next, T.next, by omega, ?_, ?_⟩
        · rw [hna]
          simp only [zB, decide_true, decide_false, Bool.false_eq_true, if_false, if_true, List.getElem?_cons_zero, List.getElem?_cons_succ, beq_self_eq_true, bne_self_eq_false, Int.reduceBNe, Int.reduceBEq, Int.reduceLT, Int.reduceGT, Int.reduceLE, Int.reduceGE, Nat.reduceAdd, Nat.reduceMul, Nat.reduceLeDiff, c1, x1, x2, x3, z2, z3, c3, c4, hv_len, e2', e3, w2, hv_cell, List.all_cons, List.all_nil, set3_0, set3_2, List.length_cons, List.length_nil]
        · rw [hd2]; rfl
        · rw [hd2]
          exact ⟨hL2, hB3, fun _ => by rw [n1]; exact Nat.ne_of_lt (Nat.lt_succ_self _), fun _ => by rw [n1]; have := hF.1; omega, fun _ => hF.1, hF2⟩
end
end Go.Ab.tV
