/- Rows of whole numbers, and what the runs of a block are: the small functions of the packages runs and spindleref17. -/
import Derived.Test.YtfkmmiinlipcpaaVB8
set_option maxRecDepth 100000
set_option linter.unusedSimpArgs false
set_option linter.unusedVariables false
set_option linter.unusedSectionVars false
namespace Go.Ab.tV
open Go Go.Proofs

def ints (l : List Int) : List AV := l.map fun x => .int .i64 x
theorem ints_len (l : List Int) : (ints l).length = l.length := by simp [ints]
theorem ints_cell (l : List Int) : (ints l).all cell = true := by simp [ints, cell]
theorem ints_app (l m : List Int) : ints (l ++ m) = ints l ++ ints m := by simp [ints]
def isl (l : List Int) : AV := if l = [] then .nils else .is l.length (ints l)
/-- A row of whole numbers: fixed, or in block d. -/
def IL (S : Heap) (a : AV) (l : List Int) (d : Nat) : Prop := (a = .nils ∧ l = []) ∨ a = .is l.length (ints l) ∨ (a = .hs d 0 l.length 1 ∧ S.blk d = some (ints l) ∧ d < S.next)
theorem IL.fr {S T : Heap} {a : AV} {l : List Int} {d : Nat} {ids : List Nat} (h : IL S a l d) (f : Fr S T ids) (hd : d ∉ ids) : IL T a l d := by
  rcases h with h | h | ⟨h1, h2, h3⟩
  · exact .inl h
  · exact .inr (.inl h)
  · exact .inr (.inr ⟨h1, (f.get h3 hd).trans h2, Nat.lt_of_lt_of_le h3 f.1⟩)
theorem IL.len {S : Heap} {a : AV} {l : List Int} {d : Nat} (h : IL S a l d) : aLen Try.prog 71 a = some (.int .i64 (l.length : Int)) := by
  rcases h with ⟨rfl, rfl⟩ | rfl | ⟨rfl, _⟩
  · exact len_nils71
  · exact len_is71 _ _
  · exact len_hs71 _ _ _ _
theorem IL.at {S : Heap} {a : AV} {l : List Int} {d : Nat} (h : IL S a l d) {i : Nat} (hi : i < l.length) : ∃ t cs o, aIdx 1 a (i : Int) = some t ∧ seeV t S = some (cs, o) ∧ cs[o]? = some (.int .i64 l[i]) := by
  rcases h with ⟨rfl, rfl⟩ | rfl | ⟨rfl, h2, _⟩
  · simp at hi
  · exact ⟨.iptr ((ints l).drop (i * 1)), _, 0, by simp [aIdx, hi], rfl, by simp [ints, hi]⟩
  · exact ⟨.ptr d (0 + i * 1), ints l, 0 + i * 1, by simp [aIdx, hi], by simp [seeV, h2], by simp [ints, hi]⟩
theorem isl_il (S : Heap) (l : List Int) (d : Nat) : IL S (isl l) l d := by
  unfold isl
  by_cases h : l = []
  · rw [if_pos h]; exact .inl ⟨rfl, h⟩
  · rw [if_neg h]; exact .inr (.inl rfl)
theorem isl_cell (l : List Int) : cell (isl l) = true := by unfold isl; split <;> rfl
def hv (L : List Int) (b : Nat) : AV := if L = [] then .nils else .hs b 0 L.length 1
def HR (T : Heap) (L : List Int) (b : Nat) : Prop := L ≠ [] → T.blk b = some (ints L) ∧ b < T.next
theorem hv_cell (L : List Int) (b : Nat) : cell (hv L b) = true := by unfold hv; split <;> rfl
theorem hv_len (L : List Int) (b : Nat) : aLen Try.prog 71 (hv L b) = some (.int .i64 (L.length : Int)) := by
  unfold hv
  by_cases h : L = []
  · subst h; exact len_nils71
  · rw [if_neg h]; exact len_hs71 _ _ _ _
theorem hv_il {T : Heap} {L : List Int} {b : Nat} (h : HR T L b) : IL T (hv L b) L b := by
  unfold hv
  by_cases h0 : L = []
  · rw [if_pos h0]; exact .inl ⟨rfl, h0⟩
  · rw [if_neg h0]; exact .inr (.inr ⟨rfl, h h0⟩)
theorem HR.fr {S T : Heap} {L : List Int} {b : Nat} {ids : List Nat} (h : HR S L b) (f : Fr S T ids) (hd : L ≠ [] → b ∉ ids) : HR T L b := fun h0 => ⟨(f.get (h h0).2 (hd h0)).trans (h h0).1, Nat.lt_of_lt_of_le (h h0).2 f.1⟩
theorem appI {T : Heap} {b : Nat} {L : List Int} (x : Int) (hrow : HR T L b) (hs : L.length ≤ 1000000000) :
    ∃ T', aAppend 1 8 (hv L b) (.is 1 [.int .i64 x]) T = some (hv (L ++ [x]) T.next, T') ∧ HR T' (L ++ [x]) T.next ∧ T'.next = T.next + 1 ∧ T'.cx = T.cx ∧
      ∀ j, j ≠ T.next → (j ≠ b ∨ L = []) → T'.blk j = T.blk j := by
  have r0 : rowOf 1 (.is 1 [.int .i64 x]) T = some (1, [.int .i64 x]) := rfl
  have r1 : (1 : Nat) * 8 ≤ mostRoom := room64 (by omega)
  have r2 : (1 : Nat) ≤ mostRoom := room64 (by omega)
  have hne : L ++ [x] ≠ [] := by simp
  unfold aAppend
  rw [r0]
  simp only
  unfold aAppendN
  rw [if_neg (by omega)]
  have hv1 : hv (L ++ [x]) T.next = .hs T.next 0 (L.length + 1) 1 := by unfold hv; rw [if_neg hne]; simp
  rw [hv1]
  by_cases h0 : L = []
  · subst h0
    simp only [hv, if_true, r1, r2, and_self, List.length_nil, Nat.zero_add]
    exact ⟨_, rfl, fun _ => ⟨alloc_blk _ _, Nat.lt_succ_self _⟩, rfl, rfl, fun j hj _ => alloc_other _ _ hj⟩
  · obtain ⟨hb, hq⟩ := hrow h0
    have r6 : (L.length + 1) * 8 ≤ mostRoom := room64 (by omega)
    have r7 : L.length + 1 ≤ mostRoom := room64 (by omega)
    have r8 : ([.int .i64 x] : List AV).all cell = true := rfl
    simp only [hv, if_neg h0, hb, ints_len, Nat.zero_add, Nat.mul_one, Nat.le_refl, r6, r7, r8, and_self, if_true, List.drop_zero]
    rw [List.take_of_length_le (by rw [ints_len]; exact Nat.le_refl _)]
    refine ⟨_, rfl, fun _ => ⟨by rw [ints_app]; exact alloc_blk (T.set b none) _, Nat.lt_succ_self _⟩, rfl, rfl, fun j hj hjq => ?_⟩
    rcases hjq with h | h
    · rw [alloc_other _ _ (by rw [set_next]; exact hj), set_other _ _ h]
    · exact absurd h h0
theorem fz_nils (d : Nat) (S : Heap) : fz (d + 1) .nils S = some (.nils, S) := (rfl)
theorem fz_int (d : Nat) (k : IntKind) (x : Int) (S : Heap) : fz (d + 1) (.int k x) S = some (.int k x, S) := (rfl)
theorem fzM_c {f : AV → Heap → Option (AV × Heap)} {a a' : AV} {l l' : List AV} {S S' S'' : Heap} (h : f a S = some (a', S')) (h2 : fzM f l S' = some (l', S'')) : fzM f (a :: l) S = some (a' :: l', S'') := by
  simp only [fzM, h, h2]
theorem fz_hs {d b off n es : Nat} {cs cs' : List AV} {S S' : Heap} (h : S.blk b = some cs) (hl : off + n * es ≤ cs.length) (h2 : fzM (fz d) ((cs.drop off).take (n * es)) (S.set b none) = some (cs', S')) : fz (d + 1) (.hs b off n es) S = some (.is n cs', S') := by
  rw [fz]; simp only [h]; rw [if_pos hl]; simp only [h2]
theorem fz_agg {d : Nat} {cs cs' : List AV} {S S' : Heap} (h : fzM (fz d) cs S = some (cs', S')) : fz (d + 1) (.agg cs) S = some (.agg cs', S') := by
  rw [fz]; simp only [h]
theorem fz_tup {d : Nat} {cs cs' : List AV} {S S' : Heap} (h : fzM (fz d) cs S = some (cs', S')) : fz (d + 1) (.tup cs) S = some (.tup cs', S') := by
  rw [fz]; simp only [h]
theorem fzM_ints (d : Nat) : ∀ (L : List Int) (S : Heap), fzM (fz (d + 1)) (ints L) S = some (ints L, S)
  | [], S => rfl
  | x :: L, S => fzM_c (fz_int d _ x S) (fzM_ints d L S)
def kill (S : Heap) (L : List Int) (b : Nat) : Heap := if L = [] then S else S.set b none
theorem fz_hv (d : Nat) {S : Heap} {L : List Int} {b : Nat} (h : HR S L b) : fz (d + 2) (hv L b) S = some (isl L, kill S L b) := by
  unfold hv isl kill
  by_cases h0 : L = []
  · simp only [if_pos h0]; rfl
  · simp only [if_neg h0]
    refine fz_hs (h h0).1 (by rw [ints_len]; omega) ?_
    rw [List.drop_zero, List.take_of_length_le (by rw [ints_len]; omega)]
    exact fzM_ints d L _
theorem fz_runs {S : Heap} {L M : List Int} {b c : Nat} {x e : Int} (h : HR S L b) (h2 : HR S M c) (hn : L ≠ [] → M ≠ [] → c ≠ b) : fz 40 (.tup [.agg [hv L b, .int .i64 x, hv M c], .int .i64 e]) S = some (.tup [.agg [isl L, .int .i64 x, isl M], .int .i64 e], kill (kill S L b) M c) := by
  have h3 : HR (kill S L b) M c := by
    unfold kill
    by_cases h0 : L = []
    · rw [if_pos h0]; exact h2
    · rw [if_neg h0]
      exact fun h1 => ⟨by rw [set_other _ _ (hn h0 h1)]; exact (h2 h1).1, (h2 h1).2⟩
  exact fz_tup (fzM_c (fz_agg (fzM_c (fz_hv 36 h) (fzM_c (fz_int 37 _ x _) (fzM_c (fz_hv 36 h3) rfl)))) (fzM_c (fz_int 38 _ e _) rfl))
theorem Fr.kill {S T : Heap} {l : List Nat} (h : Fr S T l) {L : List Int} {b : Nat} (hb : L ≠ [] → b ∈ l ∨ S.next ≤ b) : Fr S (kill T L b) l := by
  unfold Go.Ab.tV.kill
  split
  · exact h
  · rename_i h0; exact h.set (hb h0) _

def rngd (l : List Int) : Bool := l.all fun v => decide (-32768 ≤ v) && decide (v ≤ 32768)
theorem rngd_drop {l : List Int} {i : Nat} (hi : i < l.length) : rngd (l.drop i) = ((decide (-32768 ≤ l[i]) && decide (l[i] ≤ 32768)) && rngd (l.drop (i + 1))) := by
  rw [List.drop_eq_getElem_cons hi]; rfl
theorem rngd_at {l : List Int} (h : rngd l = true) {i : Nat} (hi : i < l.length) : -32768 ≤ l[i] ∧ l[i] ≤ 32768 := by
  have := List.all_eq_true.1 h _ (List.getElem_mem hi)
  simpa using this
def onesG : Nat → List Int → Nat
  | 0, _ => 0
  | _, [] => 0
  | n + 1, v :: l => if v = 1 ∨ v = -1 then onesG n l + 1 else 0
def onesN (l : List Int) : Nat := onesG 3 l
theorem onesG_le : ∀ (n : Nat) (l : List Int), onesG n l ≤ n ∧ onesG n l ≤ l.length
  | 0, l => by simp [onesG]
  | n + 1, [] => by simp [onesG]
  | n + 1, v :: l => by
    have := onesG_le n l
    simp only [onesG, List.length_cons]
    split <;> omega
section
variable {B : CallF} (hB : Silent B) (k : Nat) {S : Heap} {a : AV} {l : List Int} {d : Nat}
include hB
theorem rsized_c (n : Int) : Cn B (k + 1) f_runs_sized 0 [.int .i64 n] S = some (.bool (sizedI n), S) := by
  rw [c_runs_sized _ _ _ _ (hB.no _ _ _ _ (kn_no (by decide))), T_runs_sized]
  unfold sizedI
  by_cases h1 : n = 4
  · subst h1; simp only [zB, decide_true, decide_false, Bool.false_eq_true, if_false, if_true, List.getElem?_cons_zero, List.getElem?_cons_succ, beq_self_eq_true, bne_self_eq_false, Int.reduceBNe, Int.reduceBEq, Int.reduceLT, Int.reduceGT, Int.reduceLE, Int.reduceGE, Nat.reduceAdd, Nat.reduceMul, Nat.reduceLeDiff, Bool.true_or]
  · have c1 : (n == 4) = false := by simp [h1]
    by_cases h2 : n = 15
    · subst h2; simp only [zB, decide_true, decide_false, Bool.false_eq_true, if_false, if_true, List.getElem?_cons_zero, List.getElem?_cons_succ, beq_self_eq_true, bne_self_eq_false, Int.reduceBNe, Int.reduceBEq, Int.reduceLT, Int.reduceGT, Int.reduceLE, Int.reduceGE, Nat.reduceAdd, Nat.reduceMul, Nat.reduceLeDiff, Bool.true_or, Bool.or_true, c1]
    · have c2 : (n == 15) = false := by simp [h2]
      simp only [zB, decide_true, decide_false, Bool.false_eq_true, if_false, if_true, List.getElem?_cons_zero, List.getElem?_cons_succ, beq_self_eq_true, bne_self_eq_false, Int.reduceBNe, Int.reduceBEq, Int.reduceLT, Int.reduceGT, Int.reduceLE, Int.reduceGE, Nat.reduceAdd, Nat.reduceMul, Nat.reduceLeDiff, c1, c2, Bool.false_or]
theorem vsized_c (n : Int) : Cn B (k + 1) f_vblock_sized 0 [.int .i64 n] S = some (.bool (sizedI n), S) := by
  rw [c_vblock_sized _ _ _ _ (hB.no _ _ _ _ (kn_no (by decide))), T_vblock_sized]
  unfold sizedI
  by_cases h1 : n = 4
  · subst h1; simp only [zB, decide_true, decide_false, Bool.false_eq_true, if_false, if_true, List.getElem?_cons_zero, List.getElem?_cons_succ, beq_self_eq_true, bne_self_eq_false, Int.reduceBNe, Int.reduceBEq, Int.reduceLT, Int.reduceGT, Int.reduceLE, Int.reduceGE, Nat.reduceAdd, Nat.reduceMul, Nat.reduceLeDiff, Bool.true_or]
  · have c1 : (n == 4) = false := by simp [h1]
    by_cases h2 : n = 15
    · subst h2; simp only [zB, decide_true, decide_false, Bool.false_eq_true, if_false, if_true, List.getElem?_cons_zero, List.getElem?_cons_succ, beq_self_eq_true, bne_self_eq_false, Int.reduceBNe, Int.reduceBEq, Int.reduceLT, Int.reduceGT, Int.reduceLE, Int.reduceGE, Nat.reduceAdd, Nat.reduceMul, Nat.reduceLeDiff, Bool.true_or, Bool.or_true, c1]
    · have c2 : (n == 15) = false := by simp [h2]
      simp only [zB, decide_true, decide_false, Bool.false_eq_true, if_false, if_true, List.getElem?_cons_zero, List.getElem?_cons_succ, beq_self_eq_true, bne_self_eq_false, Int.reduceBNe, Int.reduceBEq, Int.reduceLT, Int.reduceGT, Int.reduceLE, Int.reduceGE, Nat.reduceAdd, Nat.reduceMul, Nat.reduceLeDiff, c1, c2, Bool.false_or]
theorem rsized1_c (n : Int) : Cn B (k + 1) f_spindleref17_sized 0 [.int .i64 n] S = some (.bool (sizedI n), S) := by
  rw [c_spindleref17_sized _ _ _ _ (hB.no _ _ _ _ (kn_no (by decide))), T_spindleref17_sized]
  unfold sizedI
  by_cases h1 : n = 4
  · subst h1; simp only [zB, decide_true, decide_false, Bool.false_eq_true, if_false, if_true, List.getElem?_cons_zero, List.getElem?_cons_succ, beq_self_eq_true, bne_self_eq_false, Int.reduceBNe, Int.reduceBEq, Int.reduceLT, Int.reduceGT, Int.reduceLE, Int.reduceGE, Nat.reduceAdd, Nat.reduceMul, Nat.reduceLeDiff, Bool.true_or]
  · have c1 : (n == 4) = false := by simp [h1]
    by_cases h2 : n = 15
    · subst h2; simp only [zB, decide_true, decide_false, Bool.false_eq_true, if_false, if_true, List.getElem?_cons_zero, List.getElem?_cons_succ, beq_self_eq_true, bne_self_eq_false, Int.reduceBNe, Int.reduceBEq, Int.reduceLT, Int.reduceGT, Int.reduceLE, Int.reduceGE, Nat.reduceAdd, Nat.reduceMul, Nat.reduceLeDiff, Bool.true_or, Bool.or_true, c1]
    · have c2 : (n == 15) = false := by simp [h2]
      simp only [zB, decide_true, decide_false, Bool.false_eq_true, if_false, if_true, List.getElem?_cons_zero, List.getElem?_cons_succ, beq_self_eq_true, bne_self_eq_false, Int.reduceBNe, Int.reduceBEq, Int.reduceLT, Int.reduceGT, Int.reduceLE, Int.reduceGE, Nat.reduceAdd, Nat.reduceMul, Nat.reduceLeDiff, c1, c2, Bool.false_or]
theorem ranged_c (h : IL S a l d) (hl : l.length ≤ 1000000000) : Cn B (k + 1) f_runs_ranged 0 [a] S = some (.bool (rngd l), S) := by
  rw [c_runs_ranged _ _ _ _ (hB.no _ _ _ _ (kn_no (by decide))), T_runs_ranged]
  simp only [zB, decide_true, decide_false, Bool.false_eq_true, if_false, if_true, List.getElem?_cons_zero, List.getElem?_cons_succ, beq_self_eq_true, bne_self_eq_false, Int.reduceBNe, Int.reduceBEq, Int.reduceLT, Int.reduceGT, Int.reduceLE, Int.reduceGE, Nat.reduceAdd, Nat.reduceMul, Nat.reduceLeDiff, h.len]
  refine loop_meas (fun o => o = some (AV.bool (rngd l), S)) (fun m st => ∃ i : Nat, i + m = l.length ∧ st = ([a, .int .i64 (l.length : Int), .int .i64 (i : Int)], S) ∧ rngd (l.drop i) = rngd l) l.length ⟨0, by omega, rfl, rfl⟩ ?_
  rintro m st ⟨i, him, rfl, hr⟩
  cases m with
  | zero =>
    have c1 : ¬ ((i : Int) < (l.length : Int)) := by omega
    rw [List.drop_eq_nil_of_le (by omega)] at hr
    exact .inl ⟨(0, [], S), by simp only [zB, decide_true, decide_false, Bool.false_eq_true, if_false, if_true, List.getElem?_cons_zero, List.getElem?_cons_succ, beq_self_eq_true, bne_self_eq_false, Int.reduceBNe, Int.reduceBEq, Int.reduceLT, Int.reduceGT, Int.reduceLE, Int.reduceGE, Nat.reduceAdd, Nat.reduceMul, Nat.reduceLeDiff, c1], by rw [← hr]; simp only [zB, decide_true, decide_false, Bool.false_eq_true, if_false, if_true, List.getElem?_cons_zero, List.getElem?_cons_succ, beq_self_eq_true, bne_self_eq_false, Int.reduceBNe, Int.reduceBEq, Int.reduceLT, Int.reduceGT, Int.reduceLE, Int.reduceGE, Nat.reduceAdd, Nat.reduceMul, Nat.reduceLeDiff, sel]; rfl⟩
  | succ m =>
    have c1 : (i : Int) < (l.length : Int) := by omega
    have hi : i < l.length := by omega
    obtain ⟨t, cs, o, x1, x2, x3⟩ := h.at hi
    rw [rngd_drop hi] at hr
    by_cases c2 : l[i] < -32768
    · have : ¬ (-32768 ≤ l[i]) := by omega
      rw [decide_eq_false this, Bool.false_and, Bool.false_and] at hr
      exact .inl ⟨(1, [.bool false], S), by simp only [zB, decide_true, decide_false, Bool.false_eq_true, if_false, if_true, List.getElem?_cons_zero, List.getElem?_cons_succ, beq_self_eq_true, bne_self_eq_false, Int.reduceBNe, Int.reduceBEq, Int.reduceLT, Int.reduceGT, Int.reduceLE, Int.reduceGE, Nat.reduceAdd, Nat.reduceMul, Nat.reduceLeDiff, c1, x1, x2, x3, c2], by rw [← hr]; simp only [zB, decide_true, decide_false, Bool.false_eq_true, if_false, if_true, List.getElem?_cons_zero, List.getElem?_cons_succ, beq_self_eq_true, bne_self_eq_false, Int.reduceBNe, Int.reduceBEq, Int.reduceLT, Int.reduceGT, Int.reduceLE, Int.reduceGE, Nat.reduceAdd, Nat.reduceMul, Nat.reduceLeDiff, sel]⟩
    · by_cases c3 : l[i] > 32768
      · have : ¬ (l[i] ≤ 32768) := by omega
        rw [decide_eq_false this, Bool.and_false, Bool.false_and] at hr
        exact .inl ⟨(1, [.bool false], S), by simp only [zB, decide_true, decide_false, Bool.false_eq_true, if_false, if_true, List.getElem?_cons_zero, List.getElem?_cons_succ, beq_self_eq_true, bne_self_eq_false, Int.reduceBNe, Int.reduceBEq, Int.reduceLT, Int.reduceGT, Int.reduceLE, Int.reduceGE, Nat.reduceAdd, Nat.reduceMul, Nat.reduceLeDiff, c1, x1, x2, x3, c2, c3], by rw [← hr]; simp only [zB, decide_true, decide_false, Bool.false_eq_true, if_false, if_true, List.getElem?_cons_zero, List.getElem?_cons_succ, beq_self_eq_true, bne_self_eq_false, Int.reduceBNe, Int.reduceBEq, Int.reduceLT, Int.reduceGT, Int.reduceLE, Int.reduceGE, Nat.reduceAdd, Nat.reduceMul, Nat.reduceLeDiff, sel]⟩
      · have h1 : -32768 ≤ l[i] := by omega
        have h2 : l[i] ≤ 32768 := by omega
        rw [decide_eq_true h1, decide_eq_true h2, Bool.true_and, Bool.true_and] at hr
        have w1 : IntKind.wrap .i64 ((i : Int) + 1) = ((i + 1 : Nat) : Int) := by rw [wr _ (by omega)]; omega
        exact .inr ⟨m, ([a, .int .i64 (l.length : Int), .int .i64 ((i + 1 : Nat) : Int)], S), by omega, by simp only [zB, decide_true, decide_false, Bool.false_eq_true, if_false, if_true, List.getElem?_cons_zero, List.getElem?_cons_succ, beq_self_eq_true, bne_self_eq_false, Int.reduceBNe, Int.reduceBEq, Int.reduceLT, Int.reduceGT, Int.reduceLE, Int.reduceGE, Nat.reduceAdd, Nat.reduceMul, Nat.reduceLeDiff, c1, x1, x2, x3, c2, c3, w1], i + 1, by omega, rfl, hr⟩
theorem ranged1_c (h : IL S a l d) (hl : l.length ≤ 1000000000) : Cn B (k + 1) f_spindleref17_ranged 0 [a] S = some (.bool (rngd l), S) := by
  rw [c_spindleref17_ranged _ _ _ _ (hB.no _ _ _ _ (kn_no (by decide))), T_spindleref17_ranged]
  refine loop_meas (fun o => o = some (AV.bool (rngd l), S)) (fun m st => ∃ i : Nat, i + m = l.length ∧ st = ([a, .int .i64 (i : Int)], S) ∧ rngd (l.drop i) = rngd l) l.length ⟨0, by omega, rfl, rfl⟩ ?_
  rintro m st ⟨i, him, rfl, hr⟩
  cases m with
  | zero =>
    have c1 : ¬ ((i : Int) < (l.length : Int)) := by omega
    rw [List.drop_eq_nil_of_le (by omega)] at hr
    exact .inl ⟨(0, [], S), by simp only [zB, decide_true, decide_false, Bool.false_eq_true, if_false, if_true, List.getElem?_cons_zero, List.getElem?_cons_succ, beq_self_eq_true, bne_self_eq_false, Int.reduceBNe, Int.reduceBEq, Int.reduceLT, Int.reduceGT, Int.reduceLE, Int.reduceGE, Nat.reduceAdd, Nat.reduceMul, Nat.reduceLeDiff, c1, h.len], by rw [← hr]; simp only [zB, decide_true, decide_false, Bool.false_eq_true, if_false, if_true, List.getElem?_cons_zero, List.getElem?_cons_succ, beq_self_eq_true, bne_self_eq_false, Int.reduceBNe, Int.reduceBEq, Int.reduceLT, Int.reduceGT, Int.reduceLE, Int.reduceGE, Nat.reduceAdd, Nat.reduceMul, Nat.reduceLeDiff, sel]; rfl⟩
  | succ m =>
    have c1 : (i : Int) < (l.length : Int) := by omega
    have hi : i < l.length := by omega
    obtain ⟨t, cs, o, x1, x2, x3⟩ := h.at hi
    rw [rngd_drop hi] at hr
    by_cases c2 : l[i] < -32768
    · have : ¬ (-32768 ≤ l[i]) := by omega
      rw [decide_eq_false this, Bool.false_and, Bool.false_and] at hr
      exact .inl ⟨(1, [.bool false], S), by simp only [zB, decide_true, decide_false, Bool.false_eq_true, if_false, if_true, List.getElem?_cons_zero, List.getElem?_cons_succ, beq_self_eq_true, bne_self_eq_false, Int.reduceBNe, Int.reduceBEq, Int.reduceLT, Int.reduceGT, Int.reduceLE, Int.reduceGE, Nat.reduceAdd, Nat.reduceMul, Nat.reduceLeDiff, c1, h.len, x1, x2, x3, c2], by rw [← hr]; simp only [zB, decide_true, decide_false, Bool.false_eq_true, if_false, if_true, List.getElem?_cons_zero, List.getElem?_cons_succ, beq_self_eq_true, bne_self_eq_false, Int.reduceBNe, Int.reduceBEq, Int.reduceLT, Int.reduceGT, Int.reduceLE, Int.reduceGE, Nat.reduceAdd, Nat.reduceMul, Nat.reduceLeDiff, sel]⟩
    · by_cases c3 : l[i] > 32768
      · have : ¬ (l[i] ≤ 32768) := by omega
        rw [decide_eq_false this, Bool.and_false, Bool.false_and] at hr
        exact .inl ⟨(1, [.bool false], S), by simp only [zB, decide_true, decide_false, Bool.false_eq_true, if_false, if_true, List.getElem?_cons_zero, List.getElem?_cons_succ, beq_self_eq_true, bne_self_eq_false, Int.reduceBNe, Int.reduceBEq, Int.reduceLT, Int.reduceGT, Int.reduceLE, Int.reduceGE, Nat.reduceAdd, Nat.reduceMul, Nat.reduceLeDiff, c1, h.len, x1, x2, x3, c2, c3], by rw [← hr]; simp only [zB, decide_true, decide_false, Bool.false_eq_true, if_false, if_true, List.getElem?_cons_zero, List.getElem?_cons_succ, beq_self_eq_true, bne_self_eq_false, Int.reduceBNe, Int.reduceBEq, Int.reduceLT, Int.reduceGT, Int.reduceLE, Int.reduceGE, Nat.reduceAdd, Nat.reduceMul, Nat.reduceLeDiff, sel]⟩
      · have h1 : -32768 ≤ l[i] := by omega
        have h2 : l[i] ≤ 32768 := by omega
        rw [decide_eq_true h1, decide_eq_true h2, Bool.true_and, Bool.true_and] at hr
        have w1 : IntKind.wrap .i64 ((i : Int) + 1) = ((i + 1 : Nat) : Int) := by rw [wr _ (by omega)]; omega
        exact .inr ⟨m, ([a, .int .i64 ((i + 1 : Nat) : Int)], S), by omega, by simp only [zB, decide_true, decide_false, Bool.false_eq_true, if_false, if_true, List.getElem?_cons_zero, List.getElem?_cons_succ, beq_self_eq_true, bne_self_eq_false, Int.reduceBNe, Int.reduceBEq, Int.reduceLT, Int.reduceGT, Int.reduceLE, Int.reduceGE, Nat.reduceAdd, Nat.reduceMul, Nat.reduceLeDiff, c1, h.len, x1, x2, x3, c2, c3, w1], i + 1, by omega, rfl, hr⟩
theorem ones_c (h : IL S a l d) (hl : l.length ≤ 1000000000) (x y : AV) : Cn B (k + 1) f_runs_Ones 0 [.agg [a, x, y]] S = some (.int .i64 (onesN l : Int), S) := by
  rw [c_runs_Ones _ _ _ _ (hB.no _ _ _ _ (kn_no (by decide))), T_runs_Ones]
  simp only [zB, decide_true, decide_false, Bool.false_eq_true, if_false, if_true, List.getElem?_cons_zero, List.getElem?_cons_succ, beq_self_eq_true, bne_self_eq_false, Int.reduceBNe, Int.reduceBEq, Int.reduceLT, Int.reduceGT, Int.reduceLE, Int.reduceGE, Nat.reduceAdd, Nat.reduceMul, Nat.reduceLeDiff, List.length_cons, List.length_nil]
  refine loop_meas (fun o => o = some (AV.int .i64 (onesN l : Int), S)) (fun m st => ∃ i : Nat, i + m = 3 ∧ st = ([.agg [a, x, y], .int .i64 (i : Int)], S) ∧ i ≤ l.length ∧ i + onesG m (l.drop i) = onesN l) 3 ⟨0, by omega, rfl, by omega, by simp [onesN]⟩ ?_
  rintro m st ⟨i, him, rfl, hil, hr⟩
  cases m with
  | zero =>
    have c1 : ¬ ((i : Int) < 3) := by omega
    simp only [onesG, Nat.add_zero] at hr
    exact .inl ⟨(0, [.int .i64 (i : Int)], S), by simp only [zB, decide_true, decide_false, Bool.false_eq_true, if_false, if_true, List.getElem?_cons_zero, List.getElem?_cons_succ, beq_self_eq_true, bne_self_eq_false, Int.reduceBNe, Int.reduceBEq, Int.reduceLT, Int.reduceGT, Int.reduceLE, Int.reduceGE, Nat.reduceAdd, Nat.reduceMul, Nat.reduceLeDiff, c1], by rw [← hr]; simp only [zB, decide_true, decide_false, Bool.false_eq_true, if_false, if_true, List.getElem?_cons_zero, List.getElem?_cons_succ, beq_self_eq_true, bne_self_eq_false, Int.reduceBNe, Int.reduceBEq, Int.reduceLT, Int.reduceGT, Int.reduceLE, Int.reduceGE, Nat.reduceAdd, Nat.reduceMul, Nat.reduceLeDiff, sel]⟩
  | succ m =>
    have c1 : (i : Int) < 3 := by omega
    by_cases hi : i < l.length
    · have c2 : (i : Int) < (l.length : Int) := by omega
      obtain ⟨t, cs, o, x1, x2, x3⟩ := h.at hi
      rw [List.drop_eq_getElem_cons hi] at hr
      have w1 : IntKind.wrap .i64 ((i : Int) + 1) = ((i + 1 : Nat) : Int) := by rw [wr _ (by omega)]; omega
      by_cases h1 : l[i] = 1
      · rw [onesG, if_pos (.inl h1)] at hr
        have c3 : (l[i] == 1) = true := by simp [h1]
        exact .inr ⟨m, ([.agg [a, x, y], .int .i64 ((i + 1 : Nat) : Int)], S), by omega, by simp only [zB, decide_true, decide_false, Bool.false_eq_true, if_false, if_true, List.getElem?_cons_zero, List.getElem?_cons_succ, beq_self_eq_true, bne_self_eq_false, Int.reduceBNe, Int.reduceBEq, Int.reduceLT, Int.reduceGT, Int.reduceLE, Int.reduceGE, Nat.reduceAdd, Nat.reduceMul, Nat.reduceLeDiff, c1, c2, h.len, x1, x2, x3, c3, w1], i + 1, by omega, rfl, by omega, by omega⟩
      · have c3 : (l[i] == 1) = false := by simp [h1]
        by_cases h2 : l[i] = -1
        · rw [onesG, if_pos (.inr h2)] at hr
          have c4 : (l[i] == -1) = true := by simp [h2]
          exact .inr ⟨m, ([.agg [a, x, y], .int .i64 ((i + 1 : Nat) : Int)], S), by omega, by simp only [zB, decide_true, decide_false, Bool.false_eq_true, if_false, if_true, List.getElem?_cons_zero, List.getElem?_cons_succ, beq_self_eq_true, bne_self_eq_false, Int.reduceBNe, Int.reduceBEq, Int.reduceLT, Int.reduceGT, Int.reduceLE, Int.reduceGE, Nat.reduceAdd, Nat.reduceMul, Nat.reduceLeDiff, c1, c2, h.len, x1, x2, x3, c3, c4, w1], i + 1, by omega, rfl, by omega, by omega⟩
        · have c4 : (l[i] == -1) = false := by simp [h2]
          rw [onesG, if_neg (by simp [h1, h2])] at hr
          exact .inl ⟨(0, [.int .i64 (i : Int)], S), by simp only [zB, decide_true, decide_false, Bool.false_eq_true, if_false, if_true, List.getElem?_cons_zero, List.getElem?_cons_succ, beq_self_eq_true, bne_self_eq_false, Int.reduceBNe, Int.reduceBEq, Int.reduceLT, Int.reduceGT, Int.reduceLE, Int.reduceGE, Nat.reduceAdd, Nat.reduceMul, Nat.reduceLeDiff, c1, c2, h.len, x1, x2, x3, c3, c4], by rw [← hr]; simp only [zB, decide_true, decide_false, Bool.false_eq_true, if_false, if_true, List.getElem?_cons_zero, List.getElem?_cons_succ, beq_self_eq_true, bne_self_eq_false, Int.reduceBNe, Int.reduceBEq, Int.reduceLT, Int.reduceGT, Int.reduceLE, Int.reduceGE, Nat.reduceAdd, Nat.reduceMul, Nat.reduceLeDiff, sel]⟩
    · have c2 : ¬ (i : Int) < (l.length : Int) := by omega
      rw [List.drop_eq_nil_of_le (by omega)] at hr
      simp only [onesG, Nat.add_zero] at hr
      exact .inl ⟨(0, [.int .i64 (i : Int)], S), by simp only [zB, decide_true, decide_false, Bool.false_eq_true, if_false, if_true, List.getElem?_cons_zero, List.getElem?_cons_succ, beq_self_eq_true, bne_self_eq_false, Int.reduceBNe, Int.reduceBEq, Int.reduceLT, Int.reduceGT, Int.reduceLE, Int.reduceGE, Nat.reduceAdd, Nat.reduceMul, Nat.reduceLeDiff, c1, c2, h.len], by rw [← hr]; simp only [zB, decide_true, decide_false, Bool.false_eq_true, if_false, if_true, List.getElem?_cons_zero, List.getElem?_cons_succ, beq_self_eq_true, bne_self_eq_false, Int.reduceBNe, Int.reduceBEq, Int.reduceLT, Int.reduceGT, Int.reduceLE, Int.reduceGE, Nat.reduceAdd, Nat.reduceMul, Nat.reduceLeDiff, sel]⟩
theorem ones1_c (h : IL S a l d) (hl : l.length ≤ 1000000000) (x y : AV) : Cn B (k + 1) f_spindleref17_Ones 0 [.agg [a, x, y]] S = some (.int .i64 (onesN l : Int), S) := by
  rw [c_spindleref17_Ones _ _ _ _ (hB.no _ _ _ _ (kn_no (by decide))), T_spindleref17_Ones]
  simp only [zB, decide_true, decide_false, Bool.false_eq_true, if_false, if_true, List.getElem?_cons_zero, List.getElem?_cons_succ, beq_self_eq_true, bne_self_eq_false, Int.reduceBNe, Int.reduceBEq, Int.reduceLT, Int.reduceGT, Int.reduceLE, Int.reduceGE, Nat.reduceAdd, Nat.reduceMul, Nat.reduceLeDiff, List.length_cons, List.length_nil]
  refine loop_meas (fun o => o = some (AV.int .i64 (onesN l : Int), S)) (fun m st => ∃ i : Nat, i + m = 3 ∧ st = ([.agg [a, x, y], .int .i64 (i : Int)], S) ∧ i ≤ l.length ∧ i + onesG m (l.drop i) = onesN l) 3 ⟨0, by omega, rfl, by omega, by simp [onesN]⟩ ?_
  rintro m st ⟨i, him, rfl, hil, hr⟩
  by_cases hi : i < l.length
  · have c2 : (i : Int) < (l.length : Int) := by omega
    cases m with
    | zero =>
      have c1 : ¬ ((i : Int) < 3) := by omega
      simp only [onesG, Nat.add_zero] at hr
      exact .inl ⟨(0, [.int .i64 (i : Int)], S), by simp only [zB, decide_true, decide_false, Bool.false_eq_true, if_false, if_true, List.getElem?_cons_zero, List.getElem?_cons_succ, beq_self_eq_true, bne_self_eq_false, Int.reduceBNe, Int.reduceBEq, Int.reduceLT, Int.reduceGT, Int.reduceLE, Int.reduceGE, Nat.reduceAdd, Nat.reduceMul, Nat.reduceLeDiff, c1, c2, h.len], by rw [← hr]; simp only [zB, decide_true, decide_false, Bool.false_eq_true, if_false, if_true, List.getElem?_cons_zero, List.getElem?_cons_succ, beq_self_eq_true, bne_self_eq_false, Int.reduceBNe, Int.reduceBEq, Int.reduceLT, Int.reduceGT, Int.reduceLE, Int.reduceGE, Nat.reduceAdd, Nat.reduceMul, Nat.reduceLeDiff, sel]⟩
    | succ m =>
      have c1 : (i : Int) < 3 := by omega
      obtain ⟨t, cs, o, x1, x2, x3⟩ := h.at hi
      rw [List.drop_eq_getElem_cons hi] at hr
      have w1 : IntKind.wrap .i64 ((i : Int) + 1) = ((i + 1 : Nat) : Int) := by rw [wr _ (by omega)]; omega
      by_cases h1 : l[i] = 1
      · rw [onesG, if_pos (.inl h1)] at hr
        have c3 : (l[i] == 1) = true := by simp [h1]
        exact .inr ⟨m, ([.agg [a, x, y], .int .i64 ((i + 1 : Nat) : Int)], S), by omega, by simp only [zB, decide_true, decide_false, Bool.false_eq_true, if_false, if_true, List.getElem?_cons_zero, List.getElem?_cons_succ, beq_self_eq_true, bne_self_eq_false, Int.reduceBNe, Int.reduceBEq, Int.reduceLT, Int.reduceGT, Int.reduceLE, Int.reduceGE, Nat.reduceAdd, Nat.reduceMul, Nat.reduceLeDiff, c1, c2, h.len, x1, x2, x3, c3, w1], i + 1, by omega, rfl, by omega, by omega⟩
      · have c3 : (l[i] == 1) = false := by simp [h1]
        by_cases h2 : l[i] = -1
        · rw [onesG, if_pos (.inr h2)] at hr
          have c4 : (l[i] == -1) = true := by simp [h2]
          exact .inr ⟨m, ([.agg [a, x, y], .int .i64 ((i + 1 : Nat) : Int)], S), by omega, by simp only [zB, decide_true, decide_false, Bool.false_eq_true, if_false, if_true, List.getElem?_cons_zero, List.getElem?_cons_succ, beq_self_eq_true, bne_self_eq_false, Int.reduceBNe, Int.reduceBEq, Int.reduceLT, Int.reduceGT, Int.reduceLE, Int.reduceGE, Nat.reduceAdd, Nat.reduceMul, Nat.reduceLeDiff, c1, c2, h.len, x1, x2, x3, c3, c4, w1], i + 1, by omega, rfl, by omega, by omega⟩
        · have c4 : (l[i] == -1) = false := by simp [h2]
          rw [onesG, if_neg (by simp [h1, h2])] at hr
          exact .inl ⟨(0, [.int .i64 (i : Int)], S), by simp only [zB, decide_true, decide_false, Bool.false_eq_true, if_false, if_true, List.getElem?_cons_zero, List.getElem?_cons_succ, beq_self_eq_true, bne_self_eq_false, Int.reduceBNe, Int.reduceBEq, Int.reduceLT, Int.reduceGT, Int.reduceLE, Int.reduceGE, Nat.reduceAdd, Nat.reduceMul, Nat.reduceLeDiff, c1, c2, h.len, x1, x2, x3, c3, c4], by rw [← hr]; simp only [zB, decide_true, decide_false, Bool.false_eq_true, if_false, if_true, List.getElem?_cons_zero, List.getElem?_cons_succ, beq_self_eq_true, bne_self_eq_false, Int.reduceBNe, Int.reduceBEq, Int.reduceLT, Int.reduceGT, Int.reduceLE, Int.reduceGE, Nat.reduceAdd, Nat.reduceMul, Nat.reduceLeDiff, sel]⟩
  · have c2 : ¬ (i : Int) < (l.length : Int) := by omega
    rw [List.drop_eq_nil_of_le (by omega)] at hr
    have hr : i = onesN l := by cases m <;> simpa [onesG] using hr
    exact .inl ⟨(0, [.int .i64 (i : Int)], S), by simp only [zB, decide_true, decide_false, Bool.false_eq_true, if_false, if_true, List.getElem?_cons_zero, List.getElem?_cons_succ, beq_self_eq_true, bne_self_eq_false, Int.reduceBNe, Int.reduceBEq, Int.reduceLT, Int.reduceGT, Int.reduceLE, Int.reduceGE, Nat.reduceAdd, Nat.reduceMul, Nat.reduceLeDiff, c2, h.len], by rw [← hr]; simp only [zB, decide_true, decide_false, Bool.false_eq_true, if_false, if_true, List.getElem?_cons_zero, List.getElem?_cons_succ, beq_self_eq_true, bne_self_eq_false, Int.reduceBNe, Int.reduceBEq, Int.reduceLT, Int.reduceGT, Int.reduceLE, Int.reduceGE, Nat.reduceAdd, Nat.reduceMul, Nat.reduceLeDiff, sel]⟩
end
end Go.Ab.tV
