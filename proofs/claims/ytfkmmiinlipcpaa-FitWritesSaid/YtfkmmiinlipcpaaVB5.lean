/- The variable-length codes of layer 18: zeros and runs. No condition beyond what each lemma names. -/
import Derived.Test.YtfkmmiinlipcpaaVB4
set_option maxRecDepth 100000
set_option linter.unusedSimpArgs false
set_option linter.unusedVariables false
set_option linter.unusedSectionVars false
namespace Go.Ab.tV
open Go Go.Proofs

theorem cut_facts : ∀ m : Fin 16, 2 ^ cutB m.val ≤ m.val + 1 ∧ m.val + 1 < 2 ^ (cutB m.val + 1) ∧ cutB m.val ≤ 4 ∧ cutD m.val ≤ 2 ^ cutB m.val ∧ m.val + cutD m.val < 2 ^ (cutB m.val + 1) ∧ cutD m.val ≤ 16 := by decide
/-- What is read: the number, the error, and where the reader is then. -/
def zerR (s : ByteArray) (a : Nat) (size total : Int) : Int × Int × Nat :=
  if sizedI size = false ∨ total < 1 ∨ total > size then (0, 3, a) else
    if 8 * s.size < a + cutB (size - total).toNat then (0, 5, a) else
    if num s a (cutB (size - total).toNat) < cutD (size - total).toNat then ((num s a (cutB (size - total).toNat) : Int), 0, a + cutB (size - total).toNat) else
    if 8 * s.size < a + cutB (size - total).toNat + 1 then (0, 5, a) else ((num s a (cutB (size - total).toNat + 1) : Int) - cutD (size - total).toNat, 0, a + cutB (size - total).toNat + 1)
def zerP (size total zeros : Int) : Int × List Bool :=
  if sizedI size = false ∨ total < 1 ∨ total > size ∨ zeros < 0 ∨ zeros > size - total then (3, []) else
    if zeros.toNat < cutD (size - total).toNat then (0, bitsN (cutB (size - total).toNat) zeros.toNat) else (0, bitsN (cutB (size - total).toNat + 1) (zeros.toNat + cutD (size - total).toNat))
def runN (s : ByteArray) : Nat → Nat → Option Nat
  | 0, _ => some 0
  | l + 1, a => if 8 * s.size ≤ a then none else if sb s a = 1 then some 0 else (runN s l (a + 1)).map (· + 1)
def runR (s : ByteArray) (a : Nat) (left : Int) : Int × Int × Nat :=
  if left < 0 ∨ left > 15 then (0, 3, a) else match runN s left.toNat a with
    | none => (0, 5, a)
    | some n => ((n : Int), 0, a + min (n + 1) left.toNat)
def runP (left run : Int) : Int × List Bool :=
  if left < 0 ∨ left > 15 ∨ run < 0 ∨ run > left then (3, []) else if run = left then (0, bitsN run.toNat 0) else (0, bitsN (run.toNat + 1) 1)
theorem runN_zero (s : ByteArray) (a : Nat) : runN s 0 a = some 0 := rfl
theorem runN_succ (s : ByteArray) (l a : Nat) : runN s (l + 1) a = if 8 * s.size ≤ a then none else if sb s a = 1 then some 0 else (runN s l (a + 1)).map (· + 1) := rfl
theorem omap_map (x : Option Nat) (i : Nat) : (x.map (· + 1)).map (· + i) = x.map (· + (i + 1)) := by
  cases x with
  | none => rfl
  | some v => simp only [Option.map]; congr 1; omega
theorem runN_ok {s : ByteArray} : ∀ {l a n : Nat}, a ≤ 8 * s.size → runN s l a = some n → n ≤ l ∧ a + min (n + 1) l ≤ 8 * s.size
  | 0, a, n, ha, h => by cases h; exact ⟨Nat.le_refl _, by simpa using ha⟩
  | l + 1, a, n, ha, h => by
    rw [runN_succ] at h
    split at h
    · cases h
    · split at h
      · cases h; exact ⟨by omega, by omega⟩
      · cases hr : runN s l (a + 1) with
        | none => rw [hr] at h; cases h
        | some m =>
          rw [hr] at h
          simp only [Option.map, Option.some.injEq] at h
          subst h
          obtain ⟨h1, h2⟩ := runN_ok (by omega) hr
          exact ⟨by omega, by omega⟩
section
variable {B : CallF} (hB : Silent B) (k : Nat) {S : Heap} {p : Nat} {s : ByteArray} {a : Nat}
include hB
theorem zeros_c (h : Rdr S p s a) (size total : Int) :
    ∃ S', Cn B (k + 3) f_vlc_Zeros 0 [.ptr p 0, .int .i64 size, .int .i64 total] S = some (.tup [.int .i64 (zerR s a size total).1, .int .i64 (zerR s a size total).2.1], S') ∧ Rdr S' p s (zerR s a size total).2.2 ∧ Fr S S' [p] := by
  rw [c_vlc_Zeros _ _ _ _ _ _ (hB.no _ _ _ _ (kn_no (by decide))), T_vlc_Zeros]
  have e1 := sized_c hB (k + 1) (S := S) size
  unfold zerR
  cases g1 : sizedI size with
  | false =>
    rw [if_pos (.inl rfl)]; rw [g1] at e1
    exact ⟨S, by simp only [zB, decide_true, decide_false, Bool.false_eq_true, if_false, if_true, List.getElem?_cons_zero, List.getElem?_cons_succ, beq_self_eq_true, bne_self_eq_false, Int.reduceBNe, Int.reduceBEq, Int.reduceLT, Int.reduceGT, Int.reduceLE, Int.reduceGE, Nat.reduceAdd, Nat.reduceMul, Nat.reduceLeDiff, e1], h, Fr.refl _ _⟩
  | true =>
    rw [g1] at e1
    by_cases g2 : total < 1
    · rw [if_pos (.inr (.inl g2))]; exact ⟨S, by simp only [zB, decide_true, decide_false, Bool.false_eq_true, if_false, if_true, List.getElem?_cons_zero, List.getElem?_cons_succ, beq_self_eq_true, bne_self_eq_false, Int.reduceBNe, Int.reduceBEq, Int.reduceLT, Int.reduceGT, Int.reduceLE, Int.reduceGE, Nat.reduceAdd, Nat.reduceMul, Nat.reduceLeDiff, e1, g2], h, Fr.refl _ _⟩
    by_cases g3 : total > size
    · rw [if_pos (.inr (.inr g3))]; exact ⟨S, by simp only [zB, decide_true, decide_false, Bool.false_eq_true, if_false, if_true, List.getElem?_cons_zero, List.getElem?_cons_succ, beq_self_eq_true, bne_self_eq_false, Int.reduceBNe, Int.reduceBEq, Int.reduceLT, Int.reduceGT, Int.reduceLE, Int.reduceGE, Nat.reduceAdd, Nat.reduceMul, Nat.reduceLeDiff, e1, g2, g3], h, Fr.refl _ _⟩
    rw [if_neg (by simp only [not_or]; exact ⟨by simp, g2, g3⟩)]
    have hs := (sizedI_iff size).1 g1
    have hle := h.le
    by_cases g4 : size = total
    · have c1 : (size == total) = true := by simp [g4]
      subst g4
      have z : (size - size).toNat = 0 := by omega
      have zb : cutB 0 = 0 := by decide
      have zd : cutD 0 = 1 := by decide
      rw [z, zb, zd, if_neg (by omega), show num s a 0 = 0 from rfl, if_pos (show (0 : Nat) < 1 by omega)]
      exact ⟨S, by simp only [zB, decide_true, decide_false, Bool.false_eq_true, if_false, if_true, List.getElem?_cons_zero, List.getElem?_cons_succ, beq_self_eq_true, bne_self_eq_false, Int.reduceBNe, Int.reduceBEq, Int.reduceLT, Int.reduceGT, Int.reduceLE, Int.reduceGE, Nat.reduceAdd, Nat.reduceMul, Nat.reduceLeDiff, e1, g2, g3, c1] <;> rfl, h, Fr.refl _ _⟩
    · have c1 : (size == total) = false := by simp [g4]
      obtain ⟨m, hm⟩ : ∃ m, m = (size - total).toNat := ⟨_, rfl⟩
      rw [← hm]
      have hm15 : m ≤ 15 := by omega
      have w1 : IntKind.wrap .i64 (size - total) = (m : Int) := by rw [wr _ (by omega)]; omega
      have e2 := cut_c hB (k + 2) (S := S) m hm15
      obtain ⟨f1, f2, f3, f4, f5, f6⟩ := cut_facts ⟨m, by omega⟩
      simp only at f1 f2 f3 f4 f5 f6
      obtain ⟨S1, e3, h1, r1⟩ := rcopy_c hB (k + 1) h
      have lt := h.lt
      have hp1 := h.fr r1 (by simp)
      by_cases g5 : 8 * s.size < a + cutB m
      · rw [if_pos g5]
        have e4 := u_short hB k h1 (cutB m) (by omega) g5
        exact ⟨S1, by simp only [zB, decide_true, decide_false, Bool.false_eq_true, if_false, if_true, List.getElem?_cons_zero, List.getElem?_cons_succ, beq_self_eq_true, bne_self_eq_false, Int.reduceBNe, Int.reduceBEq, Int.reduceLT, Int.reduceGT, Int.reduceLE, Int.reduceGE, Nat.reduceAdd, Nat.reduceMul, Nat.reduceLeDiff, e1, g2, g3, c1, w1, e2, e3, e4], hp1, r1.nil⟩
      · rw [if_neg g5]
        obtain ⟨S2, e4, h2, r2⟩ := u_ok hB k h1 (cutB m) (by omega) (by omega)
        have r02 : Fr S S2 [] := r1.trans r2 (fun j hj => by simp at hj; omega)
        have hp2 := h.fr r02 (by simp)
        have hlt := num_lt s a (cutB m)
        have hp16 : 2 ^ cutB m ≤ 2 ^ 4 := Nat.pow_le_pow_right (by omega) f3
        have w2 : IntKind.wrap .i64 ((num s a (cutB m) : Nat) : Int) = ((num s a (cutB m) : Nat) : Int) := wr _ (by omega)
        by_cases g6 : num s a (cutB m) < cutD m
        · rw [if_pos g6]
          have c2 : ((num s a (cutB m) : Nat) : Int) < ((cutD m : Nat) : Int) := by omega
          obtain ⟨S3, e5, h3, r3⟩ := u_ok hB k hp2 (cutB m) (by omega) (by omega)
          exact ⟨S3, by simp only [zB, decide_true, decide_false, Bool.false_eq_true, if_false, if_true, List.getElem?_cons_zero, List.getElem?_cons_succ, beq_self_eq_true, bne_self_eq_false, Int.reduceBNe, Int.reduceBEq, Int.reduceLT, Int.reduceGT, Int.reduceLE, Int.reduceGE, Nat.reduceAdd, Nat.reduceMul, Nat.reduceLeDiff, e1, g2, g3, c1, w1, e2, e3, e4, w2, c2, e5], h3, r02.nil.trans r3 (fun j hj => .inl hj)⟩
        · rw [if_neg g6]
          have c2 : ¬ ((num s a (cutB m) : Nat) : Int) < ((cutD m : Nat) : Int) := by omega
          have w3 : IntKind.wrap .i64 ((cutB m : Int) + 1) = ((cutB m + 1 : Nat) : Int) := by rw [wr _ (by omega)]; omega
          by_cases g7 : 8 * s.size < a + cutB m + 1
          · rw [if_pos g7]
            have e5 := u_short hB k hp2 (cutB m + 1) (by omega) (by omega)
            exact ⟨S2, by simp only [zB, decide_true, decide_false, Bool.false_eq_true, if_false, if_true, List.getElem?_cons_zero, List.getElem?_cons_succ, beq_self_eq_true, bne_self_eq_false, Int.reduceBNe, Int.reduceBEq, Int.reduceLT, Int.reduceGT, Int.reduceLE, Int.reduceGE, Nat.reduceAdd, Nat.reduceMul, Nat.reduceLeDiff, e1, g2, g3, c1, w1, e2, e3, e4, w2, c2, w3, e5], hp2, r02.nil⟩
          · rw [if_neg g7]
            obtain ⟨S3, e5, h3, r3⟩ := u_ok hB k hp2 (cutB m + 1) (by omega) (by omega)
            have hlt2 := num_lt s a (cutB m + 1)
            have hp32 : 2 ^ (cutB m + 1) ≤ 2 ^ 5 := Nat.pow_le_pow_right (by omega) (by omega)
            have w4 : IntKind.wrap .i64 ((num s a (cutB m + 1) : Nat) : Int) = ((num s a (cutB m + 1) : Nat) : Int) := wr _ (by omega)
            have w5 : IntKind.wrap .i64 (((num s a (cutB m + 1) : Nat) : Int) - ((cutD m : Nat) : Int)) = ((num s a (cutB m + 1) : Nat) : Int) - ((cutD m : Nat) : Int) := wr _ (by omega)
            exact ⟨S3, by simp only [zB, decide_true, decide_false, Bool.false_eq_true, if_false, if_true, List.getElem?_cons_zero, List.getElem?_cons_succ, beq_self_eq_true, bne_self_eq_false, Int.reduceBNe, Int.reduceBEq, Int.reduceLT, Int.reduceGT, Int.reduceLE, Int.reduceGE, Nat.reduceAdd, Nat.reduceMul, Nat.reduceLeDiff, e1, g2, g3, c1, w1, e2, e3, e4, w2, c2, w3, e5, w4, w5], h3, r02.nil.trans r3 (fun j hj => .inl hj)⟩
theorem putzeros_c {q : Nat} {bs : List Bool} (h : Wr S p q bs) (hb : bs.length ≤ 800000000) (size total zeros : Int) :
    ∃ S' q', Cn B (k + 2) f_vlc_PutZeros 0 [.ptr p 0, .int .i64 size, .int .i64 total, .int .i64 zeros] S = some (.int .i64 (zerP size total zeros).1, S') ∧ Puts S S' p q q' bs (bs ++ (zerP size total zeros).2) := by
  rw [c_vlc_PutZeros _ _ _ _ _ _ _ (hB.no _ _ _ _ (kn_no (by decide))), T_vlc_PutZeros]
  have e1 := sized_c hB k (S := S) size
  have hR := Puts.fr h (Fr.refl S [])
  unfold zerP
  cases g1 : sizedI size with
  | false =>
    rw [if_pos (.inl rfl)]; rw [g1] at e1
    exact ⟨S, q, by simp only [zB, decide_true, decide_false, Bool.false_eq_true, if_false, if_true, List.getElem?_cons_zero, List.getElem?_cons_succ, beq_self_eq_true, bne_self_eq_false, Int.reduceBNe, Int.reduceBEq, Int.reduceLT, Int.reduceGT, Int.reduceLE, Int.reduceGE, Nat.reduceAdd, Nat.reduceMul, Nat.reduceLeDiff, e1], hR⟩
  | true =>
    rw [g1] at e1
    have hs := (sizedI_iff size).1 g1
    by_cases g2 : total < 1
    · rw [if_pos (.inr (.inl g2))]; exact ⟨S, q, by simp only [zB, decide_true, decide_false, Bool.false_eq_true, if_false, if_true, List.getElem?_cons_zero, List.getElem?_cons_succ, beq_self_eq_true, bne_self_eq_false, Int.reduceBNe, Int.reduceBEq, Int.reduceLT, Int.reduceGT, Int.reduceLE, Int.reduceGE, Nat.reduceAdd, Nat.reduceMul, Nat.reduceLeDiff, e1, g2], hR⟩
    by_cases g3 : total > size
    · rw [if_pos (.inr (.inr (.inl g3)))]; exact ⟨S, q, by simp only [zB, decide_true, decide_false, Bool.false_eq_true, if_false, if_true, List.getElem?_cons_zero, List.getElem?_cons_succ, beq_self_eq_true, bne_self_eq_false, Int.reduceBNe, Int.reduceBEq, Int.reduceLT, Int.reduceGT, Int.reduceLE, Int.reduceGE, Nat.reduceAdd, Nat.reduceMul, Nat.reduceLeDiff, e1, g2, g3], hR⟩
    by_cases g4 : zeros < 0
    · rw [if_pos (.inr (.inr (.inr (.inl g4))))]; exact ⟨S, q, by simp only [zB, decide_true, decide_false, Bool.false_eq_true, if_false, if_true, List.getElem?_cons_zero, List.getElem?_cons_succ, beq_self_eq_true, bne_self_eq_false, Int.reduceBNe, Int.reduceBEq, Int.reduceLT, Int.reduceGT, Int.reduceLE, Int.reduceGE, Nat.reduceAdd, Nat.reduceMul, Nat.reduceLeDiff, e1, g2, g3, g4], hR⟩
    have w1 : IntKind.wrap .i64 (size - total) = size - total := wr _ (by omega)
    by_cases g5 : zeros > size - total
    · rw [if_pos (.inr (.inr (.inr (.inr g5))))]; exact ⟨S, q, by simp only [zB, decide_true, decide_false, Bool.false_eq_true, if_false, if_true, List.getElem?_cons_zero, List.getElem?_cons_succ, beq_self_eq_true, bne_self_eq_false, Int.reduceBNe, Int.reduceBEq, Int.reduceLT, Int.reduceGT, Int.reduceLE, Int.reduceGE, Nat.reduceAdd, Nat.reduceMul, Nat.reduceLeDiff, e1, g2, g3, g4, w1, g5], hR⟩
    rw [if_neg (by simp only [not_or]; exact ⟨by simp, g2, g3, g4, g5⟩)]
    obtain ⟨m, hm⟩ := Int.eq_ofNat_of_zero_le (show 0 ≤ size - total by omega)
    obtain ⟨z, rfl⟩ := Int.eq_ofNat_of_zero_le (show 0 ≤ zeros by omega)
    rw [hm] at w1 g5
    have hm15 : m ≤ 15 := by omega
    have e2 := cut_c hB (k + 1) (S := S) m hm15
    obtain ⟨f1, f2, f3, f4, f5, f6⟩ := cut_facts ⟨m, by omega⟩
    simp only at f1 f2 f3 f4 f5 f6
    have hz : z ≤ m := by omega
    rw [hm]
    simp only [Int.toNat_natCast]
    by_cases g6 : z < cutD m
    · rw [if_pos g6]
      have c2 : (z : Int) < ((cutD m : Nat) : Int) := by omega
      have w2 : IntKind.wrap .u64 (z : Int) = (z : Int) := wu _ (by omega)
      obtain ⟨S', q', e3, h3⟩ := put_c hB k h (cutB m) z (by omega) (by omega) (by omega)
      exact ⟨S', q', by simp only [zB, decide_true, decide_false, Bool.false_eq_true, if_false, if_true, List.getElem?_cons_zero, List.getElem?_cons_succ, beq_self_eq_true, bne_self_eq_false, Int.reduceBNe, Int.reduceBEq, Int.reduceLT, Int.reduceGT, Int.reduceLE, Int.reduceGE, Nat.reduceAdd, Nat.reduceMul, Nat.reduceLeDiff, e1, g2, g3, g4, hm, w1, g5, e2, c2, w2, e3], h3⟩
    · rw [if_neg g6]
      have c2 : ¬ (z : Int) < ((cutD m : Nat) : Int) := by omega
      have w2 : IntKind.wrap .i64 ((z : Int) + ((cutD m : Nat) : Int)) = ((z + cutD m : Nat) : Int) := by rw [wr _ (by omega)]; omega
      have w3 : IntKind.wrap .u64 ((z + cutD m : Nat) : Int) = ((z + cutD m : Nat) : Int) := wu _ (by omega)
      have w4 : IntKind.wrap .i64 ((cutB m : Int) + 1) = ((cutB m + 1 : Nat) : Int) := by rw [wr _ (by omega)]; omega
      obtain ⟨S', q', e3, h3⟩ := put_c hB k h (cutB m + 1) (z + cutD m) (by omega) (by omega) (by omega)
      exact ⟨S', q', by simp only [zB, decide_true, decide_false, Bool.false_eq_true, if_false, if_true, List.getElem?_cons_zero, List.getElem?_cons_succ, beq_self_eq_true, bne_self_eq_false, Int.reduceBNe, Int.reduceBEq, Int.reduceLT, Int.reduceGT, Int.reduceLE, Int.reduceGE, Nat.reduceAdd, Nat.reduceMul, Nat.reduceLeDiff, e1, g2, g3, g4, hm, w1, g5, e2, c2, w2, w3, w4, e3], h3⟩
theorem run_c (h : Rdr S p s a) (left : Int) :
    ∃ S', Cn B (k + 4) f_vlc_Run 0 [.ptr p 0, .int .i64 left] S = some (.tup [.int .i64 (runR s a left).1, .int .i64 (runR s a left).2.1], S') ∧ Rdr S' p s (runR s a left).2.2 ∧ Fr S S' [p] := by
  rw [c_vlc_Run _ _ _ _ _ (hB.no _ _ _ _ (kn_no (by decide))), T_vlc_Run]
  unfold runR
  by_cases g1 : left < 0
  · rw [if_pos (.inl g1)]; exact ⟨S, by simp only [zB, decide_true, decide_false, Bool.false_eq_true, if_false, if_true, List.getElem?_cons_zero, List.getElem?_cons_succ, beq_self_eq_true, bne_self_eq_false, Int.reduceBNe, Int.reduceBEq, Int.reduceLT, Int.reduceGT, Int.reduceLE, Int.reduceGE, Nat.reduceAdd, Nat.reduceMul, Nat.reduceLeDiff, g1], h, Fr.refl _ _⟩
  by_cases g2 : left > 15
  · rw [if_pos (.inr g2)]; exact ⟨S, by simp only [zB, decide_true, decide_false, Bool.false_eq_true, if_false, if_true, List.getElem?_cons_zero, List.getElem?_cons_succ, beq_self_eq_true, bne_self_eq_false, Int.reduceBNe, Int.reduceBEq, Int.reduceLT, Int.reduceGT, Int.reduceLE, Int.reduceGE, Nat.reduceAdd, Nat.reduceMul, Nat.reduceLeDiff, g1, g2], h, Fr.refl _ _⟩
  rw [if_neg (by simp only [not_or]; exact ⟨g1, g2⟩)]
  obtain ⟨l, rfl⟩ := Int.eq_ofNat_of_zero_le (show 0 ≤ left by omega)
  simp only [Int.toNat_natCast]
  have lt := h.lt
  have hle := h.le
  obtain ⟨S1, e1, h1, f1⟩ := rcopy_c hB (k + 2) h
  simp only [zB, decide_true, decide_false, Bool.false_eq_true, if_false, if_true, List.getElem?_cons_zero, List.getElem?_cons_succ, beq_self_eq_true, bne_self_eq_false, Int.reduceBNe, Int.reduceBEq, Int.reduceLT, Int.reduceGT, Int.reduceLE, Int.reduceGE, Nat.reduceAdd, Nat.reduceMul, Nat.reduceLeDiff, g1, g2, e1]
  refine loop_meas (fun o => ∃ S', o = some (AV.tup [.int .i64 (match runN s l a with | none => ((0 : Int), (5 : Int), a) | some n => ((n : Int), 0, a + min (n + 1) l)).1, .int .i64 (match runN s l a with | none => ((0 : Int), (5 : Int), a) | some n => ((n : Int), 0, a + min (n + 1) l)).2.1], S') ∧
      Rdr S' p s (match runN s l a with | none => ((0 : Int), (5 : Int), a) | some n => ((n : Int), 0, a + min (n + 1) l)).2.2 ∧ Fr S S' [p])
    (fun m st => ∃ i T, i + m = l ∧ st = ([.ptr p 0, .int .i64 (l : Int), .ptr S.next 0, .int .i64 (i : Int)], T) ∧ Rdr T S.next s (a + i) ∧ Fr S T [] ∧ runN s l a = (runN s m (a + i)).map (· + i)) l ⟨0, S1, by omega, rfl, h1, f1, by cases runN s l (a + 0) <;> rfl⟩ ?_
  rintro m st ⟨i, T, hi, rfl, hT, hF, hl⟩
  have fin : ∀ T', Fr S T' [] → runN s l a = some i → ∃ S', bO (Cn B (k + 3) f_bits_Reader_U 0 [.ptr p 0, .int .i64 (if (l : Int) < IntKind.wrap .i64 ((i : Int) + 1) then (l : Int) else IntKind.wrap .i64 ((i : Int) + 1))] T') (fun t24 => asTup t24.1 fun l25 => asCons l25 fun a26 l27 => asInt .u64 a26 fun i28 => asCons l27 fun a29 l30 => asInt .i64 a29 fun i31 => some (ctlV.tr S (.tup [.int .i64 (i : Int), .int .i64 0]) t24.2)) = some (.tup [.int .i64 (i : Int), .int .i64 0], S') ∧ Rdr S' p s (a + min (i + 1) l) ∧ Fr S S' [p] := fun T' hF' hr => by
    have w1 : IntKind.wrap .i64 ((i : Int) + 1) = ((i + 1 : Nat) : Int) := by rw [wr _ (by omega)]; omega
    have w2 : (if (l : Int) < ((i + 1 : Nat) : Int) then (l : Int) else ((i + 1 : Nat) : Int)) = ((min (i + 1) l : Nat) : Int) := by split <;> omega
    obtain ⟨r1, r2⟩ := runN_ok hle hr
    obtain ⟨S3, e3, h3, f3⟩ := u_ok hB (k + 1) (h.fr hF' (by simp)) (min (i + 1) l) (by omega) r2
    exact ⟨S3, by simp only [zB, decide_true, decide_false, Bool.false_eq_true, if_false, if_true, List.getElem?_cons_zero, List.getElem?_cons_succ, beq_self_eq_true, bne_self_eq_false, Int.reduceBNe, Int.reduceBEq, Int.reduceLT, Int.reduceGT, Int.reduceLE, Int.reduceGE, Nat.reduceAdd, Nat.reduceMul, Nat.reduceLeDiff, w1, w2, e3], h3, hF'.nil.trans f3 (fun j hj => .inl hj)⟩
  cases m with
  | zero =>
    have hil : i = l := by omega
    have c1 : ¬ ((i : Int) < (l : Int)) := by omega
    have hr : runN s l a = some i := by rw [hl, runN_zero]; simp
    obtain ⟨S', e3, h3⟩ := fin T hF hr
    refine .inl ⟨(0, [.ptr p 0, .int .i64 (l : Int), .int .i64 (i : Int)], T), by simp only [zB, decide_true, decide_false, Bool.false_eq_true, if_false, if_true, List.getElem?_cons_zero, List.getElem?_cons_succ, beq_self_eq_true, bne_self_eq_false, Int.reduceBNe, Int.reduceBEq, Int.reduceLT, Int.reduceGT, Int.reduceLE, Int.reduceGE, Nat.reduceAdd, Nat.reduceMul, Nat.reduceLeDiff, c1], S', ?_⟩
    rw [hr]
    exact ⟨by simp only [zB, decide_true, decide_false, Bool.false_eq_true, if_false, if_true, List.getElem?_cons_zero, List.getElem?_cons_succ, beq_self_eq_true, bne_self_eq_false, Int.reduceBNe, Int.reduceBEq, Int.reduceLT, Int.reduceGT, Int.reduceLE, Int.reduceGE, Nat.reduceAdd, Nat.reduceMul, Nat.reduceLeDiff, sel] <;> exact e3, h3⟩
  | succ m =>
    have c1 : (i : Int) < (l : Int) := by omega
    rw [runN_succ s m (a + i)] at hl
    have hle2 := hT.le
    by_cases hs : 8 * s.size ≤ a + i
    · rw [if_pos hs] at hl
      have e2 := bit_short hB k hT (by omega)
      have hr : runN s l a = none := hl
      refine .inl ⟨(1, [.int .i64 0, .int .i64 5], T), by simp only [zB, decide_true, decide_false, Bool.false_eq_true, if_false, if_true, List.getElem?_cons_zero, List.getElem?_cons_succ, beq_self_eq_true, bne_self_eq_false, Int.reduceBNe, Int.reduceBEq, Int.reduceLT, Int.reduceGT, Int.reduceLE, Int.reduceGE, Nat.reduceAdd, Nat.reduceMul, Nat.reduceLeDiff, c1, e2], T, ?_⟩
      rw [hr]
      exact ⟨by simp only [zB, decide_true, decide_false, Bool.false_eq_true, if_false, if_true, List.getElem?_cons_zero, List.getElem?_cons_succ, beq_self_eq_true, bne_self_eq_false, Int.reduceBNe, Int.reduceBEq, Int.reduceLT, Int.reduceGT, Int.reduceLE, Int.reduceGE, Nat.reduceAdd, Nat.reduceMul, Nat.reduceLeDiff, sel], h.fr hF (by simp), hF.nil⟩
    · rw [if_neg hs] at hl
      obtain ⟨T', e2, h2, f2⟩ := bit_ok hB k hT (by omega)
      have hF' := hF.trans f2 (fun j hj => by simp at hj; omega)
      by_cases hb : sb s (a + i) = 1
      · rw [if_pos hb] at hl
        have hr : runN s l a = some i := by rw [hl]; simp
        obtain ⟨S', e3, h3⟩ := fin T' hF' hr
        refine .inl ⟨(0, [.ptr p 0, .int .i64 (l : Int), .int .i64 (i : Int)], T'), by simp only [zB, decide_true, decide_false, Bool.false_eq_true, if_false, if_true, List.getElem?_cons_zero, List.getElem?_cons_succ, beq_self_eq_true, bne_self_eq_false, Int.reduceBNe, Int.reduceBEq, Int.reduceLT, Int.reduceGT, Int.reduceLE, Int.reduceGE, Nat.reduceAdd, Nat.reduceMul, Nat.reduceLeDiff, c1, e2, hb, Int.natCast_one], S', ?_⟩
        rw [hr]
        exact ⟨by simp only [zB, decide_true, decide_false, Bool.false_eq_true, if_false, if_true, List.getElem?_cons_zero, List.getElem?_cons_succ, beq_self_eq_true, bne_self_eq_false, Int.reduceBNe, Int.reduceBEq, Int.reduceLT, Int.reduceGT, Int.reduceLE, Int.reduceGE, Nat.reduceAdd, Nat.reduceMul, Nat.reduceLeDiff, sel] <;> exact e3, h3⟩
      · rw [if_neg hb, omap_map] at hl
        have hb0 : sb s (a + i) = 0 := by have := sb_lt s (a + i); omega
        have w1 : IntKind.wrap .i64 ((i : Int) + 1) = ((i + 1 : Nat) : Int) := by rw [wr _ (by omega)]; omega
        exact .inr ⟨m, ([.ptr p 0, .int .i64 (l : Int), .ptr S.next 0, .int .i64 ((i + 1 : Nat) : Int)], T'), by omega, by simp only [zB, decide_true, decide_false, Bool.false_eq_true, if_false, if_true, List.getElem?_cons_zero, List.getElem?_cons_succ, beq_self_eq_true, bne_self_eq_false, Int.reduceBNe, Int.reduceBEq, Int.reduceLT, Int.reduceGT, Int.reduceLE, Int.reduceGE, Nat.reduceAdd, Nat.reduceMul, Nat.reduceLeDiff, c1, e2, hb0, w1, Int.natCast_zero], i + 1, T', by omega, rfl, h2, hF', hl⟩
theorem putrun_c {q : Nat} {bs : List Bool} (h : Wr S p q bs) (hb : bs.length ≤ 800000000) (left run : Int) :
    ∃ S' q', Cn B (k + 2) f_vlc_PutRun 0 [.ptr p 0, .int .i64 left, .int .i64 run] S = some (.int .i64 (runP left run).1, S') ∧ Puts S S' p q q' bs (bs ++ (runP left run).2) := by
  rw [c_vlc_PutRun _ _ _ _ _ _ (hB.no _ _ _ _ (kn_no (by decide))), T_vlc_PutRun]
  have hR := Puts.fr h (Fr.refl S [])
  unfold runP
  by_cases g1 : left < 0
  · rw [if_pos (.inl g1)]; exact ⟨S, q, by simp only [zB, decide_true, decide_false, Bool.false_eq_true, if_false, if_true, List.getElem?_cons_zero, List.getElem?_cons_succ, beq_self_eq_true, bne_self_eq_false, Int.reduceBNe, Int.reduceBEq, Int.reduceLT, Int.reduceGT, Int.reduceLE, Int.reduceGE, Nat.reduceAdd, Nat.reduceMul, Nat.reduceLeDiff, g1], hR⟩
  by_cases g2 : left > 15
  · rw [if_pos (.inr (.inl g2))]; exact ⟨S, q, by simp only [zB, decide_true, decide_false, Bool.false_eq_true, if_false, if_true, List.getElem?_cons_zero, List.getElem?_cons_succ, beq_self_eq_true, bne_self_eq_false, Int.reduceBNe, Int.reduceBEq, Int.reduceLT, Int.reduceGT, Int.reduceLE, Int.reduceGE, Nat.reduceAdd, Nat.reduceMul, Nat.reduceLeDiff, g1, g2], hR⟩
  by_cases g3 : run < 0
  · rw [if_pos (.inr (.inr (.inl g3)))]; exact ⟨S, q, by simp only [zB, decide_true, decide_false, Bool.false_eq_true, if_false, if_true, List.getElem?_cons_zero, List.getElem?_cons_succ, beq_self_eq_true, bne_self_eq_false, Int.reduceBNe, Int.reduceBEq, Int.reduceLT, Int.reduceGT, Int.reduceLE, Int.reduceGE, Nat.reduceAdd, Nat.reduceMul, Nat.reduceLeDiff, g1, g2, g3], hR⟩
  by_cases g4 : run > left
  · rw [if_pos (.inr (.inr (.inr g4)))]; exact ⟨S, q, by simp only [zB, decide_true, decide_false, Bool.false_eq_true, if_false, if_true, List.getElem?_cons_zero, List.getElem?_cons_succ, beq_self_eq_true, bne_self_eq_false, Int.reduceBNe, Int.reduceBEq, Int.reduceLT, Int.reduceGT, Int.reduceLE, Int.reduceGE, Nat.reduceAdd, Nat.reduceMul, Nat.reduceLeDiff, g1, g2, g3, g4], hR⟩
  rw [if_neg (by simp only [not_or]; exact ⟨g1, g2, g3, g4⟩)]
  obtain ⟨l, rfl⟩ := Int.eq_ofNat_of_zero_le (show 0 ≤ left by omega)
  obtain ⟨r, rfl⟩ := Int.eq_ofNat_of_zero_le (show 0 ≤ run by omega)
  simp only [Int.toNat_natCast]
  by_cases g5 : (r : Int) = l
  · rw [if_pos g5]
    have c1 : ((r : Int) == (l : Int)) = true := by simp [g5]
    obtain ⟨S', q', e3, h3⟩ := put_c hB k h r 0 (by omega) (Nat.pow_pos (by omega)) (by omega)
    rw [Int.natCast_zero] at e3
    exact ⟨S', q', by simp only [zB, decide_true, decide_false, Bool.false_eq_true, if_false, if_true, List.getElem?_cons_zero, List.getElem?_cons_succ, beq_self_eq_true, bne_self_eq_false, Int.reduceBNe, Int.reduceBEq, Int.reduceLT, Int.reduceGT, Int.reduceLE, Int.reduceGE, Nat.reduceAdd, Nat.reduceMul, Nat.reduceLeDiff, g1, g2, g3, g4, c1, e3], h3⟩
  · rw [if_neg g5]
    have c1 : ((r : Int) == (l : Int)) = false := by simp; omega
    have w1 : IntKind.wrap .i64 ((r : Int) + 1) = ((r + 1 : Nat) : Int) := by rw [wr _ (by omega)]; omega
    obtain ⟨S', q', e3, h3⟩ := put_c hB k h (r + 1) 1 (by omega) (Nat.one_lt_two_pow (by omega)) (by omega)
    rw [Int.natCast_one] at e3
    exact ⟨S', q', by simp only [zB, decide_true, decide_false, Bool.false_eq_true, if_false, if_true, List.getElem?_cons_zero, List.getElem?_cons_succ, beq_self_eq_true, bne_self_eq_false, Int.reduceBNe, Int.reduceBEq, Int.reduceLT, Int.reduceGT, Int.reduceLE, Int.reduceGE, Nat.reduceAdd, Nat.reduceMul, Nat.reduceLeDiff, g1, g2, g3, g4, c1, w1, e3], h3⟩
end
end Go.Ab.tV
