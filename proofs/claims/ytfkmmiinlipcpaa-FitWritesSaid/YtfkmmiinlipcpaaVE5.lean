/- The coder of levels of the package spindleref19, as it writes. -/
import Derived.Test.YtfkmmiinlipcpaaVE4
import Derived.Test.YtfkmmiinlipcpaaVB9
set_option maxRecDepth 100000
set_option linter.unusedSimpArgs false
set_option linter.unusedVariables false
set_option linter.unusedSectionVars false
namespace Go.Ab.tV
open Go Go.Proofs

theorem rem64 (x y : Int) (h : y ≠ 0) : aInt .rem .i64 x y = some (.int .i64 (x.tmod y)) := by simp [aInt, h]
def numI (v : Int) : Int := 2 * ((v.natAbs : Int) - 1) + (if v < 0 then 1 else 0)
theorem wu6 {K : Nat} (h : K ≤ 100) : IntKind.wrap .u64 (K : Int) = (K : Int) := wu _ (by omega)
section
variable {B : CallF} (hB : Silent B) (k : Nat) {S : Heap} {c K left sk : Nat}
include hB
theorem number1_c (v : Int) (hv : v.natAbs ≤ 1000000) : Cn B (k + 1) f_spindleref19_number 0 [.int .i64 v] S = some (.int .i64 (numI v), S) := by
  rw [c_spindleref19_number _ _ _ _ (hB.no _ _ _ _ (kn_no (by decide))), T_spindleref19_number]
  unfold numI
  by_cases h : v < 0
  · have w1 : IntKind.wrap .i64 (0 - v) = (v.natAbs : Int) := by rw [wr _ (by omega)]; omega
    have w2 : IntKind.wrap .i64 ((v.natAbs : Int) - 1) = (v.natAbs : Int) - 1 := wr _ (by omega)
    have w3 : IntKind.wrap .i64 (2 * ((v.natAbs : Int) - 1)) = 2 * ((v.natAbs : Int) - 1) := wr _ (by omega)
    have w4 : IntKind.wrap .i64 (2 * ((v.natAbs : Int) - 1) + 1) = 2 * ((v.natAbs : Int) - 1) + 1 := wr _ (by omega)
    simp only [zB, decide_true, decide_false, Bool.false_eq_true, if_false, if_true, List.getElem?_cons_zero, List.getElem?_cons_succ, beq_self_eq_true, bne_self_eq_false, Int.reduceBNe, Int.reduceBEq, Int.reduceLT, Int.reduceGT, Int.reduceLE, Int.reduceGE, Nat.reduceAdd, Nat.reduceMul, Nat.reduceLeDiff, h, w1, w2, w3, w4]
  · have w2 : IntKind.wrap .i64 (v - 1) = v - 1 := wr _ (by omega)
    have w3 : IntKind.wrap .i64 (2 * (v - 1)) = 2 * ((v.natAbs : Int) - 1) + 0 := by rw [wr _ (by omega)]; omega
    simp only [zB, decide_true, decide_false, Bool.false_eq_true, if_false, if_true, List.getElem?_cons_zero, List.getElem?_cons_succ, beq_self_eq_true, bne_self_eq_false, Int.reduceBNe, Int.reduceBEq, Int.reduceLT, Int.reduceGT, Int.reduceLE, Int.reduceGE, Nat.reduceAdd, Nat.reduceMul, Nat.reduceLeDiff, h, w2, w3]
theorem parts_c (h : Cod1 S c K left sk) (hK : K ≤ 6) (n : Nat) (hn : n ≤ 1000000) :
    Cn B (k + 1) f_spindleref19_Coder_parts 0 [.ptr c 0, .int .i64 (n : Int)] S = some (if n > mstN K then .tup [.int .i64 0, .int .i64 0, .int .i64 0, .bool false] else .tup [.int .i64 ((splN K n).1 : Int), .int .i64 ((splN K n).2.1 : Int), .int .i64 ((splN K n).2.2 : Int), .bool true], S) := by
  rw [c_spindleref19_Coder_parts _ _ _ _ _ (hB.no _ _ _ _ (kn_no (by decide))), T_spindleref19_Coder_parts]
  obtain ⟨h1, h2, h3, h4⟩ := esc_le hK
  have hs := shl15 ⟨K, by omega⟩
  simp only at hs
  have hsel : (if ((K : Int) == 0) = true then some ([AV.ptr c 0, .int .i64 (n : Int), .int .i64 30], S) else some ([AV.ptr c 0, .int .i64 (n : Int), .int .i64 ((15 * 2 ^ K : Nat) : Int)], S)) = some ([AV.ptr c 0, .int .i64 (n : Int), .int .i64 (escN K : Int)], S) := by
    unfold escN
    by_cases h0 : K = 0
    · subst h0; simp only [zB, decide_true, decide_false, Bool.false_eq_true, if_false, if_true, List.getElem?_cons_zero, List.getElem?_cons_succ, beq_self_eq_true, bne_self_eq_false, Int.reduceBNe, Int.reduceBEq, Int.reduceLT, Int.reduceGT, Int.reduceLE, Int.reduceGE, Nat.reduceAdd, Nat.reduceMul, Nat.reduceLeDiff, Int.natCast_zero]; rfl
    · have c1 : ((K : Int) == 0) = false := by simp [h0]
      rw [if_neg h0]; simp only [zB, decide_true, decide_false, Bool.false_eq_true, if_false, if_true, List.getElem?_cons_zero, List.getElem?_cons_succ, beq_self_eq_true, bne_self_eq_false, Int.reduceBNe, Int.reduceBEq, Int.reduceLT, Int.reduceGT, Int.reduceLE, Int.reduceGE, Nat.reduceAdd, Nat.reduceMul, Nat.reduceLeDiff, c1]
  have w1 : IntKind.wrap .i64 ((escN K : Int) + 4096) = ((escN K + 4096 : Nat) : Int) := by rw [wr _ (by omega)]; omega
  by_cases g0 : n > mstN K
  · have d0 : (n : Int) ≥ ((escN K + 4096 : Nat) : Int) := by unfold mstN at g0; omega
    rw [if_pos g0]
    simp only [zB, decide_true, decide_false, Bool.false_eq_true, if_false, if_true, List.getElem?_cons_zero, List.getElem?_cons_succ, beq_self_eq_true, bne_self_eq_false, Int.reduceBNe, Int.reduceBEq, Int.reduceLT, Int.reduceGT, Int.reduceLE, Int.reduceGE, Nat.reduceAdd, Nat.reduceMul, Nat.reduceLeDiff, h.blk, wu6 (show K ≤ 100 by omega), aShl, hs, hsel, w1, d0]
  · have d0 : ¬ (n : Int) ≥ ((escN K + 4096 : Nat) : Int) := by unfold mstN at g0; omega
    rw [if_neg g0]
    unfold splN
    by_cases g1 : n ≥ escN K
    · have d1 : (n : Int) ≥ (escN K : Int) := by omega
      have w2 : IntKind.wrap .i64 ((n : Int) - (escN K : Int)) = ((n - escN K : Nat) : Int) := by rw [wr _ (by omega)]; omega
      rw [if_pos g1]
      simp only [zB, decide_true, decide_false, Bool.false_eq_true, if_false, if_true, List.getElem?_cons_zero, List.getElem?_cons_succ, beq_self_eq_true, bne_self_eq_false, Int.reduceBNe, Int.reduceBEq, Int.reduceLT, Int.reduceGT, Int.reduceLE, Int.reduceGE, Nat.reduceAdd, Nat.reduceMul, Nat.reduceLeDiff, h.blk, wu6 (show K ≤ 100 by omega), aShl, hs, hsel, w1, d0, d1, w2]; rfl
    · have d1 : ¬ (n : Int) ≥ (escN K : Int) := by omega
      rw [if_neg g1]
      by_cases g2 : K > 0
      · have d2 : ((K : Int) == 0) = false := by simp; omega
        have hs1 := shl1 ⟨K, by omega⟩
        simp only at hs1
        have hr : aInt .rem .i64 (n : Int) ((2 ^ K : Nat) : Int) = some (.int .i64 ((n % 2 ^ K : Nat) : Int)) := by
          rw [rem64 _ _ (by have := Nat.two_pow_pos K; omega), tmodN]
        rw [if_pos g2]
        rw [h4 g2] at w1 d0 d1
        simp only [zB, decide_true, decide_false, Bool.false_eq_true, if_false, if_true, List.getElem?_cons_zero, List.getElem?_cons_succ, beq_self_eq_true, bne_self_eq_false, Int.reduceBNe, Int.reduceBEq, Int.reduceLT, Int.reduceGT, Int.reduceLE, Int.reduceGE, Nat.reduceAdd, Nat.reduceMul, Nat.reduceLeDiff, h.blk, wu6 (show K ≤ 100 by omega), aShl, hs, w1, d0, d1, d2, aShr, shrN n K (by omega), hs1, hr]
      · have hK0 : K = 0 := by omega
        subst hK0
        rw [if_neg g2]
        by_cases g3 : n ≥ 14
        · have d3 : (n : Int) ≥ 14 := by omega
          have w2 : IntKind.wrap .i64 ((n : Int) - 14) = ((n - 14 : Nat) : Int) := by rw [wr _ (by omega)]; omega
          have z : (((0 : Nat) : Int) == 0) = true := rfl
          have he : ((escN 0 : Nat) : Int) = 30 := rfl
          rw [he] at w1 d1
          rw [if_pos g3]
          simp only [zB, decide_true, decide_false, Bool.false_eq_true, if_false, if_true, List.getElem?_cons_zero, List.getElem?_cons_succ, beq_self_eq_true, bne_self_eq_false, Int.reduceBNe, Int.reduceBEq, Int.reduceLT, Int.reduceGT, Int.reduceLE, Int.reduceGE, Nat.reduceAdd, Nat.reduceMul, Nat.reduceLeDiff, h.blk, wu6 (show 0 ≤ 100 by omega), aShl, hs, w1, d0, d1, z, d3, w2]; rfl
        · have d3 : ¬ (n : Int) ≥ 14 := by omega
          have hs1 := shl1 ⟨0, by omega⟩
          simp only at hs1
          have hr : aInt .rem .i64 (n : Int) ((2 ^ 0 : Nat) : Int) = some (.int .i64 ((n % 2 ^ 0 : Nat) : Int)) := by
            rw [rem64 _ _ (by omega), tmodN]
          have z : (((0 : Nat) : Int) == 0) = true := rfl
          have q1 : n / 2 ^ 0 = n := by simp
          have q2 : n % 2 ^ 0 = 0 := by simp [Nat.mod_one]
          rw [q2] at hr
          rw [if_neg g3]
          have hss := shrN n 0 (by omega)
          rw [q1] at hss
          have he : ((escN 0 : Nat) : Int) = 30 := rfl
          rw [he] at w1 d1
          simp only [zB, decide_true, decide_false, Bool.false_eq_true, if_false, if_true, List.getElem?_cons_zero, List.getElem?_cons_succ, beq_self_eq_true, bne_self_eq_false, Int.reduceBNe, Int.reduceBEq, Int.reduceLT, Int.reduceGT, Int.reduceLE, Int.reduceGE, Nat.reduceAdd, Nat.reduceMul, Nat.reduceLeDiff, h.blk, wu6 (show 0 ≤ 100 by omega), aShl, hs, w1, d0, d1, z, d3, aShr, hss, hs1, hr]
theorem after1_c (h : Cod1 S c K (left + 1) sk) (hK : K ≤ 6) (hl : left ≤ 1000) (v : Int) (hv : v.natAbs ≤ 1000000) : ∃ S', Cn B (k + 1) f_spindleref19_Coder_after 0 [.ptr c 0, .int .i64 v] S = some (.tup [], S') ∧ Cod1 S' c (aftN K v.natAbs) left 0 ∧ Fr S S' [c] ∧ S'.next = S.next := by
  rw [c_spindleref19_Coder_after _ _ _ _ _ (hB.no _ _ _ _ (kn_no (by decide))), T_spindleref19_Coder_after]
  have w1 : IntKind.wrap .i64 (((left + 1 : Nat) : Int) - 1) = (left : Int) := by rw [wr _ (by omega)]; omega
  have e1 := put3_0 (x := .int .i64 (left : Int)) h.blk
  obtain ⟨S1, hS1⟩ : ∃ S1, S1 = S.set c (some [.int .i64 (left : Int), .int .i64 (K : Int), .int .i64 (sk : Int)]) := ⟨_, rfl⟩
  rw [← hS1] at e1
  have b1 : S1.blk c = some [.int .i64 (left : Int), .int .i64 (K : Int), .int .i64 (sk : Int)] := by rw [hS1, set_blk]
  have e2 := put3_2 (x := .int .i64 0) b1
  obtain ⟨S2, hS2⟩ : ∃ S2, S2 = S1.set c (some [.int .i64 (left : Int), .int .i64 (K : Int), .int .i64 0]) := ⟨_, rfl⟩
  rw [← hS2] at e2
  have b2 : S2.blk c = some [.int .i64 (left : Int), .int .i64 (K : Int), .int .i64 0] := by rw [hS2, set_blk]
  have n2 : S2.next = S.next := by rw [hS2, hS1]; rfl
  have f2 : Fr S S2 [c] := by rw [hS2, hS1]; exact ((Fr.refl S [c]).set (.inl (by simp)) _).set (.inl (by simp)) _
  -- the length is at least 1
  obtain ⟨S3, hsel, b3, f3, n3⟩ : ∃ S3, (if ((K : Int) == 0) = true then bO (putV (.ptr c 1) [.int .i64 1] S2) fun t21 => some ([AV.ptr c 0, .int .i64 v], t21) else some ([AV.ptr c 0, .int .i64 v], S2)) = some ([AV.ptr c 0, .int .i64 v], S3) ∧ S3.blk c = some [.int .i64 (left : Int), .int .i64 ((max K 1 : Nat) : Int), .int .i64 0] ∧ Fr S S3 [c] ∧ S3.next = S.next := by
    by_cases h0 : K = 0
    · subst h0
      have e3 := put3_1 (x := .int .i64 1) b2
      have z : (((0 : Nat) : Int) == 0) = true := rfl
      exact ⟨S2.set c (some [.int .i64 (left : Int), .int .i64 1, .int .i64 0]), by simp only [zB, decide_true, decide_false, Bool.false_eq_true, if_false, if_true, List.getElem?_cons_zero, List.getElem?_cons_succ, beq_self_eq_true, bne_self_eq_false, Int.reduceBNe, Int.reduceBEq, Int.reduceLT, Int.reduceGT, Int.reduceLE, Int.reduceGE, Nat.reduceAdd, Nat.reduceMul, Nat.reduceLeDiff, z, e3], by rw [set_blk]; rfl, f2.set (.inl (by simp)) _, by rw [set_next, n2]⟩
    · have c1 : ((K : Int) == 0) = false := by simp [h0]
      have hm : max K 1 = K := by omega
      exact ⟨S2, by simp only [zB, decide_true, decide_false, Bool.false_eq_true, if_false, if_true, List.getElem?_cons_zero, List.getElem?_cons_succ, beq_self_eq_true, bne_self_eq_false, Int.reduceBNe, Int.reduceBEq, Int.reduceLT, Int.reduceGT, Int.reduceLE, Int.reduceGE, Nat.reduceAdd, Nat.reduceMul, Nat.reduceLeDiff, c1], by rw [hm]; exact b2, f2, n2⟩
  have w2 : IntKind.wrap .i64 (((max K 1 : Nat) : Int) - 1) = ((max K 1 - 1 : Nat) : Int) := by rw [wr _ (by omega)]; omega
  have w3 : IntKind.wrap .u64 ((max K 1 - 1 : Nat) : Int) = ((max K 1 - 1 : Nat) : Int) := wu6 (by omega)
  have h3 := shl3 ⟨max K 1 - 1, by omega⟩
  simp only at h3
  have ha := absI' v hv
  unfold aftN
  by_cases g1 : v.natAbs > 3 * 2 ^ (max K 1 - 1)
  · have c1 : ((v.natAbs : Nat) : Int) > ((3 * 2 ^ (max K 1 - 1) : Nat) : Int) := by omega
    by_cases g2 : max K 1 < 6
    · have c2 : ((max K 1 : Nat) : Int) < 6 := by omega
      have w4 : IntKind.wrap .i64 (((max K 1 : Nat) : Int) + 1) = ((max K 1 + 1 : Nat) : Int) := by rw [wr _ (by omega)]; omega
      have e4 := put3_1 (x := .int .i64 ((max K 1 + 1 : Nat) : Int)) b3
      rw [if_pos ⟨g1, g2⟩]
      refine ⟨_, ?_, ⟨set_blk S3 c _, by rw [set_next, n3]; exact h.lt⟩, f3.set (.inl (by simp)) _, by rw [set_next, n3]⟩
      simp only [zB, decide_true, decide_false, Bool.false_eq_true, if_false, if_true, List.getElem?_cons_zero, List.getElem?_cons_succ, beq_self_eq_true, bne_self_eq_false, Int.reduceBNe, Int.reduceBEq, Int.reduceLT, Int.reduceGT, Int.reduceLE, Int.reduceGE, Nat.reduceAdd, Nat.reduceMul, Nat.reduceLeDiff, h.blk, w1, e1, e2, b2]
      rw [hsel]
      simp only [zB, decide_true, decide_false, Bool.false_eq_true, if_false, if_true, List.getElem?_cons_zero, List.getElem?_cons_succ, beq_self_eq_true, bne_self_eq_false, Int.reduceBNe, Int.reduceBEq, Int.reduceLT, Int.reduceGT, Int.reduceLE, Int.reduceGE, Nat.reduceAdd, Nat.reduceMul, Nat.reduceLeDiff, b3, w2, w3, aShl, h3, ha, c1, c2, w4, e4]; rfl
    · have c2 : ¬ ((max K 1 : Nat) : Int) < 6 := by omega
      rw [if_neg (fun hh => g2 hh.2)]
      refine ⟨S3, ?_, ⟨b3, by rw [n3]; exact h.lt⟩, f3, n3⟩
      simp only [zB, decide_true, decide_false, Bool.false_eq_true, if_false, if_true, List.getElem?_cons_zero, List.getElem?_cons_succ, beq_self_eq_true, bne_self_eq_false, Int.reduceBNe, Int.reduceBEq, Int.reduceLT, Int.reduceGT, Int.reduceLE, Int.reduceGE, Nat.reduceAdd, Nat.reduceMul, Nat.reduceLeDiff, h.blk, w1, e1, e2, b2]
      rw [hsel]
      simp only [zB, decide_true, decide_false, Bool.false_eq_true, if_false, if_true, List.getElem?_cons_zero, List.getElem?_cons_succ, beq_self_eq_true, bne_self_eq_false, Int.reduceBNe, Int.reduceBEq, Int.reduceLT, Int.reduceGT, Int.reduceLE, Int.reduceGE, Nat.reduceAdd, Nat.reduceMul, Nat.reduceLeDiff, b3, w2, w3, aShl, h3, ha, c1, c2]
  · have c1 : ¬ ((v.natAbs : Nat) : Int) > ((3 * 2 ^ (max K 1 - 1) : Nat) : Int) := by omega
    rw [if_neg (fun hh => g1 hh.1)]
    refine ⟨S3, ?_, ⟨b3, by rw [n3]; exact h.lt⟩, f3, n3⟩
    simp only [zB, decide_true, decide_false, Bool.false_eq_true, if_false, if_true, List.getElem?_cons_zero, List.getElem?_cons_succ, beq_self_eq_true, bne_self_eq_false, Int.reduceBNe, Int.reduceBEq, Int.reduceLT, Int.reduceGT, Int.reduceLE, Int.reduceGE, Nat.reduceAdd, Nat.reduceMul, Nat.reduceLeDiff, h.blk, w1, e1, e2, b2]
    rw [hsel]
    simp only [zB, decide_true, decide_false, Bool.false_eq_true, if_false, if_true, List.getElem?_cons_zero, List.getElem?_cons_succ, beq_self_eq_true, bne_self_eq_false, Int.reduceBNe, Int.reduceBEq, Int.reduceLT, Int.reduceGT, Int.reduceLE, Int.reduceGE, Nat.reduceAdd, Nat.reduceMul, Nat.reduceLeDiff, b3, w2, w3, aShl, h3, ha, c1]
theorem numI_sub (sk : Nat) (hs : sk ≤ 2) (v : Int) (hv : v.natAbs ≤ 1000000) (h0 : v ≠ 0) (h1 : sk = 0 ∨ v ≠ 1 ∧ v ≠ -1) : IntKind.wrap .i64 (numI v - (sk : Int)) = (lvN sk v : Int) := by
  unfold numI lvN
  split
  · rw [wr _ (by omega)]; omega
  · rw [wr _ (by omega)]; omega
theorem has_c (h : Cod1 S c K left sk) (hK : K ≤ 6) (hs : sk ≤ 2) (v : Int) (hv : -32768 ≤ v ∧ v ≤ 32768) (h0 : v ≠ 0) (h1 : sk = 0 ∨ v ≠ 1 ∧ v ≠ -1) :
    Cn B (k + 2) f_spindleref19_Coder_Has 0 [.ptr c 0, .int .i64 v] S = some (.bool (decide (¬ lvN sk v > mstN K)), S) := by
  rw [c_spindleref19_Coder_Has _ _ _ _ _ (hB.no _ _ _ _ (kn_no (by decide))), T_spindleref19_Coder_Has]
  have c1 : ¬ v < -32768 := by omega
  have c2 : ¬ v > 32768 := by omega
  have e1 := number1_c hB k (S := S) v (by omega)
  have w1 := numI_sub hB sk hs v (by omega) h0 h1
  have hle : lvN sk v ≤ 1000000 := by unfold lvN; split <;> omega
  have e2 := parts_c hB k h hK (lvN sk v) hle
  by_cases g : lvN sk v > mstN K
  · rw [if_pos g] at e2
    have : decide (¬ lvN sk v > mstN K) = false := by simp; omega
    rw [this]
    simp only [zB, decide_true, decide_false, Bool.false_eq_true, if_false, if_true, List.getElem?_cons_zero, List.getElem?_cons_succ, beq_self_eq_true, bne_self_eq_false, Int.reduceBNe, Int.reduceBEq, Int.reduceLT, Int.reduceGT, Int.reduceLE, Int.reduceGE, Nat.reduceAdd, Nat.reduceMul, Nat.reduceLeDiff, c1, c2, e1, h.blk, w1, e2]
  · rw [if_neg g] at e2
    have : decide (¬ lvN sk v > mstN K) = true := by simp; omega
    rw [this]
    simp only [zB, decide_true, decide_false, Bool.false_eq_true, if_false, if_true, List.getElem?_cons_zero, List.getElem?_cons_succ, beq_self_eq_true, bne_self_eq_false, Int.reduceBNe, Int.reduceBEq, Int.reduceLT, Int.reduceGT, Int.reduceLE, Int.reduceGE, Nat.reduceAdd, Nat.reduceMul, Nat.reduceLeDiff, c1, c2, e1, h.blk, w1, e2]
theorem lput1_none {p : Nat} (h : Cod1 S c K (left + 1) sk) (hK : K ≤ 6) (hs : sk ≤ 2) (v : Int) (hv : -32768 ≤ v ∧ v ≤ 32768) (h0 : v ≠ 0) (h1 : sk = 0 ∨ v ≠ 1 ∧ v ≠ -1) (hn : lvC K sk v = none) :
    Cn B (k + 3) f_spindleref19_Coder_Put 0 [.ptr c 0, .ptr p 0, .int .i64 v] S = some (.int .i64 12, S) := by
  rw [c_spindleref19_Coder_Put _ _ _ _ _ _ (hB.no _ _ _ _ (kn_no (by decide))), T_spindleref19_Coder_Put]
  have e1 := has_c hB k h hK hs v hv h0 h1
  have c0 : (((left + 1 : Nat) : Int) == 0) = false := by simp; omega
  have c1 : (v == 0) = false := by simp [h0]
  have cs : ∀ b : Bool, (if decide ((sk : Int) > 0) = true then if (v == 1) = true then some ([AV.ptr c 0, .ptr p 0, .int .i64 v, .bool true], S) else some ([AV.ptr c 0, .ptr p 0, .int .i64 v, .bool (v == -1)], S) else some ([AV.ptr c 0, .ptr p 0, .int .i64 v, .bool false], S)) = some ([AV.ptr c 0, .ptr p 0, .int .i64 v, .bool false], S) := by
    intro _
    rcases h1 with h1 | ⟨h1, h2⟩
    · subst h1; simp only [zB, decide_true, decide_false, Bool.false_eq_true, if_false, if_true, List.getElem?_cons_zero, List.getElem?_cons_succ, beq_self_eq_true, bne_self_eq_false, Int.reduceBNe, Int.reduceBEq, Int.reduceLT, Int.reduceGT, Int.reduceLE, Int.reduceGE, Nat.reduceAdd, Nat.reduceMul, Nat.reduceLeDiff, Int.natCast_zero]
    · have d1 : (v == 1) = false := by simp [h1]
      have d2 : (v == -1) = false := by simp [h2]
      simp only [zB, decide_true, decide_false, Bool.false_eq_true, if_false, if_true, List.getElem?_cons_zero, List.getElem?_cons_succ, beq_self_eq_true, bne_self_eq_false, Int.reduceBNe, Int.reduceBEq, Int.reduceLT, Int.reduceGT, Int.reduceLE, Int.reduceGE, Nat.reduceAdd, Nat.reduceMul, Nat.reduceLeDiff, d1, d2, ite_self]
  have cs := cs true
  unfold lvC at hn
  split at hn
  · rename_i hgt
    have : decide (¬ lvN sk v > mstN K) = false := by simp; omega
    rw [this] at e1
    simp only [zB, decide_true, decide_false, Bool.false_eq_true, if_false, if_true, List.getElem?_cons_zero, List.getElem?_cons_succ, beq_self_eq_true, bne_self_eq_false, Int.reduceBNe, Int.reduceBEq, Int.reduceLT, Int.reduceGT, Int.reduceLE, Int.reduceGE, Nat.reduceAdd, Nat.reduceMul, Nat.reduceLeDiff, h.blk, c0, c1, cs, e1]
  · cases hn
theorem lput1_some {p q : Nat} {bs b : List Bool} (h : Cod1 S c K (left + 1) sk) (hw : RWr S p q bs) (hcp : c ≠ p ∧ c ≠ q) (hb : bs.length ≤ 800000000) (hK : K ≤ 6) (hl : left ≤ 1000) (hs : sk ≤ 2) (v : Int) (hv : -32768 ≤ v ∧ v ≤ 32768) (h0 : v ≠ 0) (h1 : sk = 0 ∨ v ≠ 1 ∧ v ≠ -1) (hn : lvC K sk v = some b) :
    ∃ S' q', Cn B (k + 3) f_spindleref19_Coder_Put 0 [.ptr c 0, .ptr p 0, .int .i64 v] S = some (.int .i64 0, S') ∧ RWr S' p q' (bs ++ b) ∧ Fr S S' [p, q, c] ∧ (q' = q ∨ S.next ≤ q') ∧ Cod1 S' c (aftN K v.natAbs) left 0 := by
  rw [c_spindleref19_Coder_Put _ _ _ _ _ _ (hB.no _ _ _ _ (kn_no (by decide))), T_spindleref19_Coder_Put]
  have e1 := has_c hB k h hK hs v hv h0 h1
  have c0 : (((left + 1 : Nat) : Int) == 0) = false := by simp; omega
  have c1 : (v == 0) = false := by simp [h0]
  have cs : ∀ b : Bool, (if decide ((sk : Int) > 0) = true then if (v == 1) = true then some ([AV.ptr c 0, .ptr p 0, .int .i64 v, .bool true], S) else some ([AV.ptr c 0, .ptr p 0, .int .i64 v, .bool (v == -1)], S) else some ([AV.ptr c 0, .ptr p 0, .int .i64 v, .bool false], S)) = some ([AV.ptr c 0, .ptr p 0, .int .i64 v, .bool false], S) := by
    intro _
    rcases h1 with h1 | ⟨h1, h2⟩
    · subst h1; simp only [zB, decide_true, decide_false, Bool.false_eq_true, if_false, if_true, List.getElem?_cons_zero, List.getElem?_cons_succ, beq_self_eq_true, bne_self_eq_false, Int.reduceBNe, Int.reduceBEq, Int.reduceLT, Int.reduceGT, Int.reduceLE, Int.reduceGE, Nat.reduceAdd, Nat.reduceMul, Nat.reduceLeDiff, Int.natCast_zero]
    · have d1 : (v == 1) = false := by simp [h1]
      have d2 : (v == -1) = false := by simp [h2]
      simp only [zB, decide_true, decide_false, Bool.false_eq_true, if_false, if_true, List.getElem?_cons_zero, List.getElem?_cons_succ, beq_self_eq_true, bne_self_eq_false, Int.reduceBNe, Int.reduceBEq, Int.reduceLT, Int.reduceGT, Int.reduceLE, Int.reduceGE, Nat.reduceAdd, Nat.reduceMul, Nat.reduceLeDiff, d1, d2, ite_self]
  have cs := cs true
  unfold lvC at hn
  have hm := (esc_le hK).1
  have hm2 : mstN K ≤ 6000 := by unfold mstN; omega
  split at hn
  · cases hn
  · rename_i hgt
    have hb' := (Option.some.inj hn).symm
    subst hb'
    have hle : lvN sk v ≤ mstN K := by omega
    have : decide (¬ lvN sk v > mstN K) = true := by simp; omega
    rw [this] at e1
    obtain ⟨s1, s2, s3⟩ := spl_le hK hle
    have e2 := number1_c hB (k + 1) (S := S) v (by omega)
    have w1 := numI_sub hB sk hs v (by omega) h0 h1
    have e3 := parts_c hB (k + 1) h hK (lvN sk v) (by omega)
    rw [if_neg hgt] at e3
    obtain ⟨S1, q1, e4, p1⟩ := put1_c hB (k + 1) hw (splN K (lvN sk v)).1 0 (by omega) (Nat.two_pow_pos _) (by omega)
    obtain ⟨S2, q2, e5, p2⟩ := put1_c hB (k + 1) p1.1 1 1 (by omega) (by omega) (by simp only [List.length_append, bitsN_len]; omega)
    obtain ⟨S3, q3, e6, p3⟩ := put1_c hB (k + 1) p2.1 (splN K (lvN sk v)).2.2 (splN K (lvN sk v)).2.1 (by omega) s3 (by simp only [List.length_append, bitsN_len]; omega)
    have pt := (p1.trans p2).trans p3
    have hC3 := h.fr pt.2.1 (by simp [hcp])
    obtain ⟨S4, e7, h4, f4, n4⟩ := after1_c hB (k + 1) hC3 hK hl v (by omega)
    have hq3 : c ≠ q3 := by
      rcases pt.2.2 with hh | hh
      · rw [hh]; exact hcp.2
      · have := h.lt; omega
    have s4 : (splN K (lvN sk v)).2.1 < 4611686018427387904 := by
      have : 2 ^ (splN K (lvN sk v)).2.2 ≤ 2 ^ 12 := Nat.pow_le_pow_right (by omega) s2
      omega
    have w7 : IntKind.wrap .u64 ((splN K (lvN sk v)).2.1 : Int) = ((splN K (lvN sk v)).2.1 : Int) := wu _ (by omega)
    have hone : ((1 : Nat) : Int) = 1 := rfl
    rw [hone] at e5
    rw [Int.natCast_zero] at e4
    refine ⟨S4, q3, ?_, ?_, ?_, pt.2.2, h4⟩
    · simp only [zB, decide_true, decide_false, Bool.false_eq_true, if_false, if_true, List.getElem?_cons_zero, List.getElem?_cons_succ, beq_self_eq_true, bne_self_eq_false, Int.reduceBNe, Int.reduceBEq, Int.reduceLT, Int.reduceGT, Int.reduceLE, Int.reduceGE, Nat.reduceAdd, Nat.reduceMul, Nat.reduceLeDiff, h.blk, c0, c1, cs, e1, e2, w1, e3, e4, e5, w7, e6, e7]
    · have := pt.1.fr f4 (by simp [Ne.symm hcp.1]) (by simp [Ne.symm hq3])
      have eb : bs ++ lvB K (lvN sk v) = bs ++ bitsN (splN K (lvN sk v)).1 0 ++ bitsN 1 1 ++ bitsN (splN K (lvN sk v)).2.2 (splN K (lvN sk v)).2.1 := by
        have := bitsN_snoc (splN K (lvN sk v)).1 0 1 (by omega)
        rw [show 2 * 0 + 1 = 1 from rfl] at this
        unfold lvB
        rw [this]
        simp only [List.append_assoc]; rfl
      rw [eb]; exact this
    · exact (pt.2.1.weak (fun j hj => .inl (by simp at hj ⊢; rcases hj with h | h <;> simp [h]))).trans f4 (fun j hj => .inl (by simp at hj ⊢; simp [hj]))
theorem new1_c {total ones : Nat} (ht : total ≤ 16) (ho : ones ≤ min total 3) : ∃ S', Cn B (k + 2) f_spindleref19_New 0 [.int .i64 (total : Int), .int .i64 (ones : Int)] S = some (.tup [.ptr S.next 0, .int .i64 0], S') ∧ Cod1 S' S.next (k0N total ones) (total - ones) (s0N ones) ∧ Fr S S' [] := by
  rw [c_spindleref19_New _ _ _ _ _ (hB.no _ _ _ _ (kn_no (by decide))), T_spindleref19_New]
  obtain ⟨n, hn, _⟩ := sym_ok ht ho
  have e0 := symbol1_c hB k (S := S) total ones
  rw [hn] at e0
  have w1 : IntKind.wrap .i64 ((total : Int) - (ones : Int)) = ((total - ones : Nat) : Int) := by rw [wr _ (by omega)]; omega
  obtain ⟨S1, hS1⟩ : ∃ S1, S1 = S.alloc [.int .i64 ((total - ones : Nat) : Int), .int .i64 0, .int .i64 0] := ⟨_, rfl⟩
  have b1 : S1.blk S.next = some [.int .i64 ((total - ones : Nat) : Int), .int .i64 0, .int .i64 0] := by rw [hS1]; exact alloc_blk _ _
  have n1 : S1.next = S.next + 1 := by rw [hS1]; rfl
  have f1 : Fr S S1 [] := by rw [hS1]; exact Fr.alloc _ _ _
  have e1 := put3_1 (x := .int .i64 1) b1
  obtain ⟨S2, hS2⟩ : ∃ S2, S2 = S1.set S.next (some [.int .i64 ((total - ones : Nat) : Int), .int .i64 1, .int .i64 0]) := ⟨_, rfl⟩
  rw [← hS2] at e1
  have b2 : S2.blk S.next = some [.int .i64 ((total - ones : Nat) : Int), .int .i64 1, .int .i64 0] := by rw [hS2, set_blk]
  have n2 : S2.next = S.next + 1 := by rw [hS2]; exact n1
  have f2 : Fr S S2 [] := by rw [hS2]; exact f1.set (.inr (Nat.le_refl _)) _
  have e2 := put3_2 (x := .int .i64 2) b2
  have e3 := put3_2 (x := .int .i64 2) b1
  simp only [zB, decide_true, decide_false, Bool.false_eq_true, if_false, if_true, List.getElem?_cons_zero, List.getElem?_cons_succ, beq_self_eq_true, bne_self_eq_false, Int.reduceBNe, Int.reduceBEq, Int.reduceLT, Int.reduceGT, Int.reduceLE, Int.reduceGE, Nat.reduceAdd, Nat.reduceMul, Nat.reduceLeDiff, e0, w1, ← hS1]
  by_cases g1 : ones < 3
  · have d1 : (ones : Int) < 3 := by omega
    have hs0 : s0N ones = 2 := by unfold s0N; rw [if_pos g1]
    by_cases g2 : total > 10
    · have d2 : (total : Int) > 10 := by omega
      have hk0 : k0N total ones = 1 := by unfold k0N; rw [if_pos ⟨g2, g1⟩]
      rw [hk0, hs0]
      exact ⟨_, by simp only [zB, decide_true, decide_false, Bool.false_eq_true, if_false, if_true, List.getElem?_cons_zero, List.getElem?_cons_succ, beq_self_eq_true, bne_self_eq_false, Int.reduceBNe, Int.reduceBEq, Int.reduceLT, Int.reduceGT, Int.reduceLE, Int.reduceGE, Nat.reduceAdd, Nat.reduceMul, Nat.reduceLeDiff, d1, d2, e1, e2]; rfl, ⟨set_blk _ _ _, by rw [set_next, n2]; omega⟩, f2.set (.inr (Nat.le_refl _)) _⟩
    · have d2 : ¬ (total : Int) > 10 := by omega
      have hk0 : k0N total ones = 0 := by unfold k0N; rw [if_neg (fun hh => g2 hh.1)]
      rw [hk0, hs0]
      exact ⟨_, by simp only [zB, decide_true, decide_false, Bool.false_eq_true, if_false, if_true, List.getElem?_cons_zero, List.getElem?_cons_succ, beq_self_eq_true, bne_self_eq_false, Int.reduceBNe, Int.reduceBEq, Int.reduceLT, Int.reduceGT, Int.reduceLE, Int.reduceGE, Nat.reduceAdd, Nat.reduceMul, Nat.reduceLeDiff, d1, d2, e3]; rfl, ⟨set_blk _ _ _, by rw [set_next, n1]; omega⟩, f1.set (.inr (Nat.le_refl _)) _⟩
  · have d1 : ¬ (ones : Int) < 3 := by omega
    have hs0 : s0N ones = 0 := by unfold s0N; rw [if_neg g1]
    have hk0 : k0N total ones = 0 := by unfold k0N; rw [if_neg (fun hh => g1 hh.2)]
    rw [hk0, hs0]
    by_cases g2 : total > 10
    · have d2 : (total : Int) > 10 := by omega
      exact ⟨S1, by simp only [zB, decide_true, decide_false, Bool.false_eq_true, if_false, if_true, List.getElem?_cons_zero, List.getElem?_cons_succ, beq_self_eq_true, bne_self_eq_false, Int.reduceBNe, Int.reduceBEq, Int.reduceLT, Int.reduceGT, Int.reduceLE, Int.reduceGE, Nat.reduceAdd, Nat.reduceMul, Nat.reduceLeDiff, d1, d2], ⟨b1, by omega⟩, f1⟩
    · have d2 : ¬ (total : Int) > 10 := by omega
      exact ⟨S1, by simp only [zB, decide_true, decide_false, Bool.false_eq_true, if_false, if_true, List.getElem?_cons_zero, List.getElem?_cons_succ, beq_self_eq_true, bne_self_eq_false, Int.reduceBNe, Int.reduceBEq, Int.reduceLT, Int.reduceGT, Int.reduceLE, Int.reduceGE, Nat.reduceAdd, Nat.reduceMul, Nat.reduceLeDiff, d1, d2], ⟨b1, by omega⟩, f1⟩
end
end Go.Ab.tV
