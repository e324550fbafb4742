/- The coders of levels: those of the packages level and spindleref19, as they write. -/
import Derived.Test.YtfkmmiinlipcpaaVE3
set_option maxRecDepth 100000
set_option linter.unusedSimpArgs false
set_option linter.unusedVariables false
set_option linter.unusedSectionVars false
namespace Go.Ab.tV
open Go Go.Proofs

def escN (k : Nat) : Nat := if k = 0 then 30 else 15 * 2 ^ k
def mstN (k : Nat) : Nat := escN k + 4095
def splN (k c : Nat) : Nat × Nat × Nat := if c ≥ escN k then (15, c - escN k, 12) else if k > 0 then (c / 2 ^ k, c % 2 ^ k, k) else if c ≥ 14 then (14, c - 14, 4) else (c, 0, 0)
def aftN (k sz : Nat) : Nat := if sz > 3 * 2 ^ (max k 1 - 1) ∧ max k 1 < 6 then max k 1 + 1 else max k 1
def lvN (sk : Nat) (v : Int) : Nat := 2 * (v.natAbs - 1) - sk + (if v < 0 then 1 else 0)
def lvB (k n : Nat) : List Bool := bitsN ((splN k n).1 + 1) 1 ++ bitsN (splN k n).2.2 (splN k n).2.1
def lvC (k sk : Nat) (v : Int) : Option (List Bool) := if lvN sk v > mstN k then none else some (lvB k (lvN sk v))
theorem esc_fin : ∀ k : Fin 7, escN k.val ≤ 960 ∧ 30 ≤ escN k.val ∧ 2 ^ k.val ≤ 64 ∧ (0 < k.val → escN k.val = 15 * 2 ^ k.val) := by decide
theorem esc_le {k : Nat} (h : k ≤ 6) : escN k ≤ 960 ∧ 30 ≤ escN k ∧ 2 ^ k ≤ 64 ∧ (0 < k → escN k = 15 * 2 ^ k) := esc_fin ⟨k, by omega⟩
theorem aft_le {k : Nat} (h : k ≤ 6) (sz : Nat) : aftN k sz ≤ 6 ∧ 1 ≤ aftN k sz := by unfold aftN; split <;> omega
theorem spl_le {k c : Nat} (hk : k ≤ 6) (h : c ≤ mstN k) : (splN k c).1 ≤ 15 ∧ (splN k c).2.2 ≤ 12 ∧ (splN k c).2.1 < 2 ^ (splN k c).2.2 := by
  obtain ⟨h1, h2, h3, h4⟩ := esc_le hk
  unfold mstN at h
  unfold splN
  split
  · refine ⟨Nat.le_refl _, Nat.le_refl _, ?_⟩
    simp only
    omega
  · split
    · rename_i h5 h6
      refine ⟨?_, by simp only; omega, Nat.mod_lt _ (Nat.two_pow_pos _)⟩
      simp only
      have := h4 h6
      exact Nat.le_of_lt (Nat.div_lt_of_lt_mul (by rw [Nat.mul_comm]; omega))
    · split
      · rename_i h5 h6 h7
        have hk0 : k = 0 := by omega
        subst hk0
        have e : escN 0 = 30 := rfl
        simp only; omega
      · simp only; omega
theorem lvB_len {k c : Nat} (hk : k ≤ 6) (h : c ≤ mstN k) : (lvB k c).length ≤ 28 := by
  obtain ⟨h1, h2, _⟩ := spl_le hk h
  simp only [lvB, List.length_append, bitsN_len]; omega
theorem shl15 : ∀ k : Fin 7, shlI .i64 15 ((k.val : Nat) : Int) = ((15 * 2 ^ k.val : Nat) : Int) := by decide
theorem shl3 : ∀ k : Fin 7, shlI .i64 3 ((k.val : Nat) : Int) = ((3 * 2 ^ k.val : Nat) : Int) := by decide
theorem shl1 : ∀ k : Fin 7, shlI .i64 1 ((k.val : Nat) : Int) = ((2 ^ k.val : Nat) : Int) := by decide
theorem shrN (v k : Nat) (hk : k ≤ 64) : shrI .i64 v k = ((v / 2 ^ k : Nat) : Int) := by
  have : min k 64 = k := by omega
  simp only [shrI, Int.toNat_natCast, IntKind.bits, this, pow2N]
  rw [Int.fdiv_eq_ediv_of_nonneg _ (Int.natCast_nonneg _)]; rfl
theorem shlN (v k : Nat) (hk : k ≤ 64) (hv : v * 2 ^ k < 4611686018427387904) : shlI .i64 v k = ((v * 2 ^ k : Nat) : Int) := by
  have : min k 64 = k := by omega
  simp only [shlI, Int.toNat_natCast, IntKind.bits, this, pow2N, ← Int.natCast_mul]
  exact wr _ (by omega)
theorem andN (x y : Nat) (hx : x < 4611686018427387904) (hy : y < 4611686018427387904) : andI .i64 x y = ((x &&& y : Nat) : Int) := by
  have h : x &&& y ≤ x := Nat.and_le_left
  have e : (BitVec.ofInt 64 (x : Int) &&& BitVec.ofInt 64 (y : Int)).toNat = x &&& y := by
    rw [BitVec.toNat_and, bvNat 64 x (by omega), bvNat 64 y (by omega)]
  show IntKind.wrap .i64 (((BitVec.ofInt 64 (x : Int) &&& BitVec.ofInt 64 (y : Int)).toNat : Nat) : Int) = _
  rw [e]
  exact wr ((x &&& y : Nat) : Int) (by omega)
structure Cod (S : Heap) (c k left sk : Nat) : Prop where
  blk : S.blk c = some [.int .i64 (k : Int), .int .i64 (left : Int), .int .i64 (sk : Int)]
  lt : c < S.next
structure Cod1 (S : Heap) (c k left sk : Nat) : Prop where
  blk : S.blk c = some [.int .i64 (left : Int), .int .i64 (k : Int), .int .i64 (sk : Int)]
  lt : c < S.next
theorem Cod.fr {S T : Heap} {c k left sk : Nat} {ids : List Nat} (h : Cod S c k left sk) (f : Fr S T ids) (hc : c ∉ ids) : Cod T c k left sk := ⟨(f.get h.lt hc).trans h.blk, Nat.lt_of_lt_of_le h.lt f.1⟩
theorem Cod1.fr {S T : Heap} {c k left sk : Nat} {ids : List Nat} (h : Cod1 S c k left sk) (f : Fr S T ids) (hc : c ∉ ids) : Cod1 T c k left sk := ⟨(f.get h.lt hc).trans h.blk, Nat.lt_of_lt_of_le h.lt f.1⟩
def k0N (total ones : Nat) : Nat := if total > 10 ∧ ones < 3 then 1 else 0
def s0N (ones : Nat) : Nat := if ones < 3 then 2 else 0
section
variable {B : CallF} (hB : Silent B) (k : Nat) {S : Heap} {c K left sk : Nat}
include hB
theorem esc_c (hK : K ≤ 6) : Cn B (k + 1) f_level_length_escape 0 [.int .i64 (K : Int)] S = some (.int .i64 (escN K : Int), S) := by
  rw [c_level_length_escape _ _ _ _ (hB.no _ _ _ _ (kn_no (by decide))), T_level_length_escape]
  unfold escN
  by_cases h : K = 0
  · subst h; simp only [zB, decide_true, decide_false, Bool.false_eq_true, if_false, if_true, List.getElem?_cons_zero, List.getElem?_cons_succ, beq_self_eq_true, bne_self_eq_false, Int.reduceBNe, Int.reduceBEq, Int.reduceLT, Int.reduceGT, Int.reduceLE, Int.reduceGE, Nat.reduceAdd, Nat.reduceMul, Nat.reduceLeDiff, Int.natCast_zero]; rfl
  · have c1 : ((K : Int) == 0) = false := by simp [h]
    have := shl15 ⟨K, by omega⟩
    simp only at this
    rw [if_neg h]
    simp only [zB, decide_true, decide_false, Bool.false_eq_true, if_false, if_true, List.getElem?_cons_zero, List.getElem?_cons_succ, beq_self_eq_true, bne_self_eq_false, Int.reduceBNe, Int.reduceBEq, Int.reduceLT, Int.reduceGT, Int.reduceLE, Int.reduceGE, Nat.reduceAdd, Nat.reduceMul, Nat.reduceLeDiff, c1, aShl, this]
theorem lmost_c (hK : K ≤ 6) : Cn B (k + 2) f_level_length_most 0 [.int .i64 (K : Int)] S = some (.int .i64 (mstN K : Int), S) := by
  rw [c_level_length_most _ _ _ _ (hB.no _ _ _ _ (kn_no (by decide))), T_level_length_most]
  have e := esc_c hB k (S := S) hK
  obtain ⟨h1, _⟩ := esc_le hK
  have w1 : IntKind.wrap .i64 ((escN K : Int) + 4096) = ((escN K + 4096 : Nat) : Int) := by rw [wr _ (by omega)]; omega
  have w2 : IntKind.wrap .i64 (((escN K + 4096 : Nat) : Int) - 1) = (mstN K : Int) := by unfold mstN; rw [wr _ (by omega)]; omega
  simp only [zB, decide_true, decide_false, Bool.false_eq_true, if_false, if_true, List.getElem?_cons_zero, List.getElem?_cons_succ, beq_self_eq_true, bne_self_eq_false, Int.reduceBNe, Int.reduceBEq, Int.reduceLT, Int.reduceGT, Int.reduceLE, Int.reduceGE, Nat.reduceAdd, Nat.reduceMul, Nat.reduceLeDiff, e, w1, w2]
theorem split_c (hK : K ≤ 6) (n : Nat) (hn : n ≤ 1000000) : Cn B (k + 2) f_level_length_split 0 [.int .i64 (K : Int), .int .i64 (n : Int)] S = some (.tup [.int .i64 ((splN K n).1 : Int), .int .i64 ((splN K n).2.1 : Int), .int .i64 ((splN K n).2.2 : Int)], S) := by
  rw [c_level_length_split _ _ _ _ _ (hB.no _ _ _ _ (kn_no (by decide))), T_level_length_split]
  have e := esc_c hB k (S := S) hK
  obtain ⟨h1, h2, h3, h4⟩ := esc_le hK
  unfold splN
  by_cases g1 : n ≥ escN K
  · have c1 : (n : Int) ≥ (escN K : Int) := by omega
    have w1 : IntKind.wrap .i64 ((n : Int) - (escN K : Int)) = ((n - escN K : Nat) : Int) := by rw [wr _ (by omega)]; omega
    rw [if_pos g1]
    simp only [zB, decide_true, decide_false, Bool.false_eq_true, if_false, if_true, List.getElem?_cons_zero, List.getElem?_cons_succ, beq_self_eq_true, bne_self_eq_false, Int.reduceBNe, Int.reduceBEq, Int.reduceLT, Int.reduceGT, Int.reduceLE, Int.reduceGE, Nat.reduceAdd, Nat.reduceMul, Nat.reduceLeDiff, e, c1, w1]; rfl
  · have c1 : ¬ (n : Int) ≥ (escN K : Int) := by omega
    rw [if_neg g1]
    by_cases g2 : K > 0
    · have c2 : (K : Int) > 0 := by omega
      have h5 := shl1 ⟨K, by omega⟩
      simp only at h5
      have w1 : IntKind.wrap .i64 (((2 ^ K : Nat) : Int) - 1) = ((2 ^ K - 1 : Nat) : Int) := by
        have := Nat.two_pow_pos K
        rw [wr _ (by omega)]; omega
      have h6 := andN n (2 ^ K - 1) (by omega) (by omega)
      rw [Nat.and_two_pow_sub_one_eq_mod] at h6
      rw [if_pos g2]
      simp only [zB, decide_true, decide_false, Bool.false_eq_true, if_false, if_true, List.getElem?_cons_zero, List.getElem?_cons_succ, beq_self_eq_true, bne_self_eq_false, Int.reduceBNe, Int.reduceBEq, Int.reduceLT, Int.reduceGT, Int.reduceLE, Int.reduceGE, Nat.reduceAdd, Nat.reduceMul, Nat.reduceLeDiff, e, c1, c2, aShr, aShl, shrN n K (by omega), h5, w1, h6]
    · have c2 : ¬ (K : Int) > 0 := by omega
      rw [if_neg g2]
      by_cases g3 : n ≥ 14
      · have c3 : (n : Int) ≥ 14 := by omega
        have w1 : IntKind.wrap .i64 ((n : Int) - 14) = ((n - 14 : Nat) : Int) := by rw [wr _ (by omega)]; omega
        rw [if_pos g3]
        simp only [zB, decide_true, decide_false, Bool.false_eq_true, if_false, if_true, List.getElem?_cons_zero, List.getElem?_cons_succ, beq_self_eq_true, bne_self_eq_false, Int.reduceBNe, Int.reduceBEq, Int.reduceLT, Int.reduceGT, Int.reduceLE, Int.reduceGE, Nat.reduceAdd, Nat.reduceMul, Nat.reduceLeDiff, e, c1, c2, c3, w1]; rfl
      · have c3 : ¬ (n : Int) ≥ 14 := by omega
        rw [if_neg g3]
        simp only [zB, decide_true, decide_false, Bool.false_eq_true, if_false, if_true, List.getElem?_cons_zero, List.getElem?_cons_succ, beq_self_eq_true, bne_self_eq_false, Int.reduceBNe, Int.reduceBEq, Int.reduceLT, Int.reduceGT, Int.reduceLE, Int.reduceGE, Nat.reduceAdd, Nat.reduceMul, Nat.reduceLeDiff, e, c1, c2, c3]; rfl
theorem after_c (h : Cod S c K left sk) (hK : K ≤ 6) (sz : Nat) (hsz : sz ≤ 1000000) : ∃ S', Cn B (k + 1) f_level_length_after 0 [.ptr c 0, .int .i64 (sz : Int)] S = some (.tup [], S') ∧ Cod S' c (aftN K sz) left sk ∧ Fr S S' [c] ∧ S'.next = S.next := by
  rw [c_level_length_after _ _ _ _ _ (hB.no _ _ _ _ (kn_no (by decide))), T_level_length_after]
  have w1 : (if (1 : Int) > (K : Int) then (1 : Int) else (K : Int)) = ((max K 1 : Nat) : Int) := by split <;> omega
  have e1 := put3_0 (x := .int .i64 ((max K 1 : Nat) : Int)) h.blk
  obtain ⟨S1, hS1⟩ : ∃ S1, S1 = S.set c (some [.int .i64 ((max K 1 : Nat) : Int), .int .i64 (left : Int), .int .i64 (sk : Int)]) := ⟨_, rfl⟩
  rw [← hS1] at e1
  have b1 : S1.blk c = some [.int .i64 ((max K 1 : Nat) : Int), .int .i64 (left : Int), .int .i64 (sk : Int)] := by rw [hS1, set_blk]
  have w2 : IntKind.wrap .i64 (((max K 1 : Nat) : Int) - 1) = ((max K 1 - 1 : Nat) : Int) := by rw [wr _ (by omega)]; omega
  have h3 := shl3 ⟨max K 1 - 1, by omega⟩
  simp only at h3
  have hF1 : Fr S S1 [c] := by rw [hS1]; exact (Fr.refl S [c]).set (.inl (by simp)) _
  have hn1 : S1.next = S.next := by rw [hS1]; rfl
  unfold aftN
  by_cases g1 : sz > 3 * 2 ^ (max K 1 - 1)
  · have c1 : (sz : Int) > ((3 * 2 ^ (max K 1 - 1) : Nat) : Int) := by omega
    by_cases g2 : max K 1 < 6
    · have c2 : ((max K 1 : Nat) : Int) < 6 := by omega
      have w3 : IntKind.wrap .i64 (((max K 1 : Nat) : Int) + 1) = ((max K 1 + 1 : Nat) : Int) := by rw [wr _ (by omega)]; omega
      have e2 := put3_0 (x := .int .i64 ((max K 1 + 1 : Nat) : Int)) b1
      rw [if_pos ⟨g1, g2⟩]
      exact ⟨_, by simp only [zB, decide_true, decide_false, Bool.false_eq_true, if_false, if_true, List.getElem?_cons_zero, List.getElem?_cons_succ, beq_self_eq_true, bne_self_eq_false, Int.reduceBNe, Int.reduceBEq, Int.reduceLT, Int.reduceGT, Int.reduceLE, Int.reduceGE, Nat.reduceAdd, Nat.reduceMul, Nat.reduceLeDiff, h.blk, w1, e1, b1, w2, aShl, h3, c1, c2, w3, e2], ⟨set_blk _ _ _, by rw [set_next, hn1]; exact h.lt⟩, hF1.set (.inl (by simp)) _, by rw [set_next, hn1]⟩
    · have c2 : ¬ ((max K 1 : Nat) : Int) < 6 := by omega
      rw [if_neg (fun hh => g2 hh.2)]
      exact ⟨S1, by simp only [zB, decide_true, decide_false, Bool.false_eq_true, if_false, if_true, List.getElem?_cons_zero, List.getElem?_cons_succ, beq_self_eq_true, bne_self_eq_false, Int.reduceBNe, Int.reduceBEq, Int.reduceLT, Int.reduceGT, Int.reduceLE, Int.reduceGE, Nat.reduceAdd, Nat.reduceMul, Nat.reduceLeDiff, h.blk, w1, e1, b1, w2, aShl, h3, c1, c2], ⟨b1, by rw [hn1]; exact h.lt⟩, hF1, hn1⟩
  · have c1 : ¬ (sz : Int) > ((3 * 2 ^ (max K 1 - 1) : Nat) : Int) := by omega
    rw [if_neg (fun hh => g1 hh.1)]
    exact ⟨S1, by simp only [zB, decide_true, decide_false, Bool.false_eq_true, if_false, if_true, List.getElem?_cons_zero, List.getElem?_cons_succ, beq_self_eq_true, bne_self_eq_false, Int.reduceBNe, Int.reduceBEq, Int.reduceLT, Int.reduceGT, Int.reduceLE, Int.reduceGE, Nat.reduceAdd, Nat.reduceMul, Nat.reduceLeDiff, h.blk, w1, e1, b1, w2, aShl, h3, c1], ⟨b1, by rw [hn1]; exact h.lt⟩, hF1, hn1⟩
omit hB in
theorem absI' (v : Int) (hv : v.natAbs ≤ 1000000) : (if (IntKind.wrap .i64 (0 - v) : Int) > v then IntKind.wrap .i64 (0 - v) else v) = ((v.natAbs : Nat) : Int) := by
  rw [wr _ (by omega)]; split <;> omega
theorem next_c (h : Cod S c K (left + 1) sk) (hK : K ≤ 6) (hl : left ≤ 1000) (v : Int) (hv : v.natAbs ≤ 1000000) : ∃ S', Cn B (k + 2) f_level_Coder_next 0 [.ptr c 0, .int .i64 v] S = some (.tup [], S') ∧ Cod S' c (aftN K v.natAbs) left 0 ∧ Fr S S' [c] ∧ S'.next = S.next := by
  rw [c_level_Coder_next _ _ _ _ _ (hB.no _ _ _ _ (kn_no (by decide))), T_level_Coder_next]
  have w1 : IntKind.wrap .i64 (((left + 1 : Nat) : Int) - 1) = (left : Int) := by rw [wr _ (by omega)]; omega
  have e1 := put3_1 (x := .int .i64 (left : Int)) h.blk
  obtain ⟨S1, hS1⟩ : ∃ S1, S1 = S.set c (some [.int .i64 (K : Int), .int .i64 (left : Int), .int .i64 (sk : Int)]) := ⟨_, rfl⟩
  rw [← hS1] at e1
  have b1 : S1.blk c = some [.int .i64 (K : Int), .int .i64 (left : Int), .int .i64 (sk : Int)] := by rw [hS1, set_blk]
  have e2 := put3_2 (x := .int .i64 0) b1
  obtain ⟨S2, hS2⟩ : ∃ S2, S2 = S1.set c (some [.int .i64 (K : Int), .int .i64 (left : Int), .int .i64 0]) := ⟨_, rfl⟩
  rw [← hS2] at e2
  have n2 : S2.next = S.next := by rw [hS2, hS1]; rfl
  have hC2 : Cod S2 c K left 0 := ⟨by rw [hS2, set_blk]; rfl, by rw [n2]; exact h.lt⟩
  obtain ⟨S3, e3, h3, f3, n3⟩ := after_c hB k hC2 hK v.natAbs hv
  have hF2 : Fr S S2 [c] := by rw [hS2, hS1]; exact ((Fr.refl S [c]).set (.inl (by simp)) _).set (.inl (by simp)) _
  exact ⟨S3, by simp only [zB, decide_true, decide_false, Bool.false_eq_true, if_false, if_true, List.getElem?_cons_zero, List.getElem?_cons_succ, beq_self_eq_true, bne_self_eq_false, Int.reduceBNe, Int.reduceBEq, Int.reduceLT, Int.reduceGT, Int.reduceLE, Int.reduceGE, Nat.reduceAdd, Nat.reduceMul, Nat.reduceLeDiff, h.blk, w1, e1, e2, absI' v hv, e3], h3, hF2.trans f3 (fun j hj => .inl hj), n3.trans n2⟩
theorem cmost_c (h : Cod S c K (left + 1) sk) (hK : K ≤ 6) (hs : sk ≤ 2) : Cn B (k + 3) f_level_Coder_Most 0 [.ptr c 0] S = some (.int .i64 (((mstN K + sk) / 2 + 1 : Nat) : Int), S) := by
  rw [c_level_Coder_Most _ _ _ _ (hB.no _ _ _ _ (kn_no (by decide))), T_level_Coder_Most]
  have e := lmost_c hB k (S := S) hK
  obtain ⟨h1, _⟩ := esc_le hK
  have c1 : (((left + 1 : Nat) : Int) == 0) = false := by simp; omega
  have hm : mstN K ≤ 6000 := by unfold mstN; omega
  have w1 : IntKind.wrap .i64 ((mstN K : Int) + (sk : Int)) = ((mstN K + sk : Nat) : Int) := by rw [wr _ (by omega)]; omega
  have w2 : IntKind.wrap .i64 (Int.tdiv ((mstN K + sk : Nat) : Int) 2) = (((mstN K + sk) / 2 : Nat) : Int) := by rw [tdiv2, wr _ (by omega)]
  have w3 : IntKind.wrap .i64 ((((mstN K + sk) / 2 : Nat) : Int) + 1) = (((mstN K + sk) / 2 + 1 : Nat) : Int) := by rw [wr _ (by omega)]; omega
  simp only [zB, decide_true, decide_false, Bool.false_eq_true, if_false, if_true, List.getElem?_cons_zero, List.getElem?_cons_succ, beq_self_eq_true, bne_self_eq_false, Int.reduceBNe, Int.reduceBEq, Int.reduceLT, Int.reduceGT, Int.reduceLE, Int.reduceGE, Nat.reduceAdd, Nat.reduceMul, Nat.reduceLeDiff, h.blk, c1, e, w1, w2, w3]
theorem lput_none {p : Nat} (h : Cod S c K (left + 1) sk) (hK : K ≤ 6) (hs : sk ≤ 2) (v : Int) (hv : v.natAbs ≤ 1000000) (h0 : v ≠ 0) (h1 : sk = 0 ∨ v ≠ 1 ∧ v ≠ -1) (hn : lvC K sk v = none) :
    Cn B (k + 4) f_level_Coder_Put 0 [.ptr c 0, .ptr p 0, .int .i64 v] S = some (.int .i64 12, S) := by
  rw [c_level_Coder_Put _ _ _ _ _ _ (hB.no _ _ _ _ (kn_no (by decide))), T_level_Coder_Put]
  have e1 := cmost_c hB k h hK hs
  have e2 := lmost_c hB (k + 1) (S := S) hK
  have c0 : (((left + 1 : Nat) : Int) == 0) = false := by simp; omega
  have c1 : (v == 0) = false := by simp [h0]
  have cs : ∀ b : Bool, (if decide ((sk : Int) > 0) = true then if (v == 1) = true then some ([AV.ptr c 0, .ptr p 0, .int .i64 v, .bool true], S) else some ([AV.ptr c 0, .ptr p 0, .int .i64 v, .bool (v == -1)], S) else some ([AV.ptr c 0, .ptr p 0, .int .i64 v, .bool false], S)) = some ([AV.ptr c 0, .ptr p 0, .int .i64 v, .bool false], S) := by
    intro _
    rcases h1 with h1 | ⟨h1, h2⟩
    · subst h1; simp only [zB, decide_true, decide_false, Bool.false_eq_true, if_false, if_true, List.getElem?_cons_zero, List.getElem?_cons_succ, beq_self_eq_true, bne_self_eq_false, Int.reduceBNe, Int.reduceBEq, Int.reduceLT, Int.reduceGT, Int.reduceLE, Int.reduceGE, Nat.reduceAdd, Nat.reduceMul, Nat.reduceLeDiff, Int.natCast_zero]
    · have d1 : (v == 1) = false := by simp [h1]
      have d2 : (v == -1) = false := by simp [h2]
      simp only [zB, decide_true, decide_false, Bool.false_eq_true, if_false, if_true, List.getElem?_cons_zero, List.getElem?_cons_succ, beq_self_eq_true, bne_self_eq_false, Int.reduceBNe, Int.reduceBEq, Int.reduceLT, Int.reduceGT, Int.reduceLE, Int.reduceGE, Nat.reduceAdd, Nat.reduceMul, Nat.reduceLeDiff, d1, d2, ite_self]
  have cs := cs true
  unfold lvC at hn
  have hm := (esc_le hK).1
  have hm2 : mstN K ≤ 6000 := by unfold mstN; omega
  split at hn
  · rename_i hgt
    unfold lvN at hgt
    by_cases hneg : v < 0
    · rw [if_pos hneg] at hgt
      have d1 : ¬ ((v.natAbs : Int) < 0) := by omega
      have w1 : IntKind.wrap .i64 (0 - v) = ((v.natAbs : Nat) : Int) := by rw [wr _ (by omega)]; omega
      by_cases g : (v.natAbs : Int) > (((mstN K + sk) / 2 + 1 : Nat) : Int)
      · simp only [zB, decide_true, decide_false, Bool.false_eq_true, if_false, if_true, List.getElem?_cons_zero, List.getElem?_cons_succ, beq_self_eq_true, bne_self_eq_false, Int.reduceBNe, Int.reduceBEq, Int.reduceLT, Int.reduceGT, Int.reduceLE, Int.reduceGE, Nat.reduceAdd, Nat.reduceMul, Nat.reduceLeDiff, h.blk, c0, c1, cs, hneg, w1, d1, e1, g]
      · have w2 : IntKind.wrap .i64 ((v.natAbs : Int) - 1) = ((v.natAbs - 1 : Nat) : Int) := by rw [wr _ (by omega)]; omega
        have w3 : IntKind.wrap .i64 (2 * ((v.natAbs - 1 : Nat) : Int)) = ((2 * (v.natAbs - 1) : Nat) : Int) := by rw [wr _ (by omega)]; omega
        have w4 : IntKind.wrap .i64 (((2 * (v.natAbs - 1) : Nat) : Int) - (sk : Int)) = ((2 * (v.natAbs - 1) - sk : Nat) : Int) := by rw [wr _ (by omega)]; omega
        have w5 : IntKind.wrap .i64 (((2 * (v.natAbs - 1) - sk : Nat) : Int) + 1) = ((2 * (v.natAbs - 1) - sk + 1 : Nat) : Int) := by rw [wr _ (by omega)]; omega
        have g2 : ((2 * (v.natAbs - 1) - sk + 1 : Nat) : Int) > (mstN K : Int) := by omega
        simp only [zB, decide_true, decide_false, Bool.false_eq_true, if_false, if_true, List.getElem?_cons_zero, List.getElem?_cons_succ, beq_self_eq_true, bne_self_eq_false, Int.reduceBNe, Int.reduceBEq, Int.reduceLT, Int.reduceGT, Int.reduceLE, Int.reduceGE, Nat.reduceAdd, Nat.reduceMul, Nat.reduceLeDiff, h.blk, c0, c1, cs, hneg, w1, d1, e1, g, w2, w3, w4, w5, e2, g2]
    · rw [if_neg hneg] at hgt
      have hvn : v = ((v.natAbs : Nat) : Int) := by omega
      by_cases g : v > (((mstN K + sk) / 2 + 1 : Nat) : Int)
      · simp only [zB, decide_true, decide_false, Bool.false_eq_true, if_false, if_true, List.getElem?_cons_zero, List.getElem?_cons_succ, beq_self_eq_true, bne_self_eq_false, Int.reduceBNe, Int.reduceBEq, Int.reduceLT, Int.reduceGT, Int.reduceLE, Int.reduceGE, Nat.reduceAdd, Nat.reduceMul, Nat.reduceLeDiff, h.blk, c0, c1, cs, hneg, e1, g]
      · have w2 : IntKind.wrap .i64 (v - 1) = ((v.natAbs - 1 : Nat) : Int) := by rw [wr _ (by omega)]; omega
        have w3 : IntKind.wrap .i64 (2 * ((v.natAbs - 1 : Nat) : Int)) = ((2 * (v.natAbs - 1) : Nat) : Int) := by rw [wr _ (by omega)]; omega
        have w4 : IntKind.wrap .i64 (((2 * (v.natAbs - 1) : Nat) : Int) - (sk : Int)) = ((2 * (v.natAbs - 1) - sk : Nat) : Int) := by rw [wr _ (by omega)]; omega
        have g2 : ((2 * (v.natAbs - 1) - sk : Nat) : Int) > (mstN K : Int) := by omega
        simp only [zB, decide_true, decide_false, Bool.false_eq_true, if_false, if_true, List.getElem?_cons_zero, List.getElem?_cons_succ, beq_self_eq_true, bne_self_eq_false, Int.reduceBNe, Int.reduceBEq, Int.reduceLT, Int.reduceGT, Int.reduceLE, Int.reduceGE, Nat.reduceAdd, Nat.reduceMul, Nat.reduceLeDiff, h.blk, c0, c1, cs, hneg, e1, g, w2, w3, w4, e2, g2]
  · cases hn
theorem lput_some {p q : Nat} {bs b : List Bool} (h : Cod S c K (left + 1) sk) (hw : Wr S p q bs) (hcp : c ≠ p ∧ c ≠ q) (hb : bs.length ≤ 800000000) (hK : K ≤ 6) (hl : left ≤ 1000) (hs : sk ≤ 2) (v : Int) (hv : v.natAbs ≤ 1000000) (h0 : v ≠ 0) (h1 : sk = 0 ∨ v ≠ 1 ∧ v ≠ -1) (hn : lvC K sk v = some b) :
    ∃ S' q', Cn B (k + 4) f_level_Coder_Put 0 [.ptr c 0, .ptr p 0, .int .i64 v] S = some (.int .i64 0, S') ∧ Wr S' p q' (bs ++ b) ∧ Fr S S' [p, q, c] ∧ (q' = q ∨ S.next ≤ q') ∧ Cod S' c (aftN K v.natAbs) left 0 := by
  rw [c_level_Coder_Put _ _ _ _ _ _ (hB.no _ _ _ _ (kn_no (by decide))), T_level_Coder_Put]
  have e1 := cmost_c hB k h hK hs
  have e2 := lmost_c hB (k + 1) (S := S) hK
  have c0 : (((left + 1 : Nat) : Int) == 0) = false := by simp; omega
  have c1 : (v == 0) = false := by simp [h0]
  have cs : ∀ b : Bool, (if decide ((sk : Int) > 0) = true then if (v == 1) = true then some ([AV.ptr c 0, .ptr p 0, .int .i64 v, .bool true], S) else some ([AV.ptr c 0, .ptr p 0, .int .i64 v, .bool (v == -1)], S) else some ([AV.ptr c 0, .ptr p 0, .int .i64 v, .bool false], S)) = some ([AV.ptr c 0, .ptr p 0, .int .i64 v, .bool false], S) := by
    intro _
    rcases h1 with h1 | ⟨h1, h2⟩
    · subst h1; simp only [zB, decide_true, decide_false, Bool.false_eq_true, if_false, if_true, List.getElem?_cons_zero, List.getElem?_cons_succ, beq_self_eq_true, bne_self_eq_false, Int.reduceBNe, Int.reduceBEq, Int.reduceLT, Int.reduceGT, Int.reduceLE, Int.reduceGE, Nat.reduceAdd, Nat.reduceMul, Nat.reduceLeDiff, Int.natCast_zero]
    · have d1 : (v == 1) = false := by simp [h1]
      have d2 : (v == -1) = false := by simp [h2]
      simp only [zB, decide_true, decide_false, Bool.false_eq_true, if_false, if_true, List.getElem?_cons_zero, List.getElem?_cons_succ, beq_self_eq_true, bne_self_eq_false, Int.reduceBNe, Int.reduceBEq, Int.reduceLT, Int.reduceGT, Int.reduceLE, Int.reduceGE, Nat.reduceAdd, Nat.reduceMul, Nat.reduceLeDiff, d1, d2, ite_self]
  have cs := cs true
  unfold lvC at hn
  have hm := (esc_le hK).1
  have hm2 : mstN K ≤ 6000 := by unfold mstN; omega
  split at hn
  · cases hn
  · rename_i hgt
    have hb' := (Option.some.inj hn).symm
    subst hb'
    have hle : lvN sk v ≤ mstN K := by omega
    obtain ⟨s1, s2, s3⟩ := spl_le hK hle
    have e3 := split_c hB (k + 1) (S := S) hK (lvN sk v) (by omega)
    obtain ⟨S1, q1, e4, p1⟩ := put_c hB (k + 2) hw ((splN K (lvN sk v)).1 + 1) 1 (by omega) (Nat.one_lt_two_pow (by omega)) (by omega)
    obtain ⟨S2, q2, e5, p2⟩ := put_c hB (k + 2) p1.1 (splN K (lvN sk v)).2.2 (splN K (lvN sk v)).2.1 (by omega) s3 (by simp only [List.length_append, bitsN_len]; omega)
    have pt := p1.trans p2
    have hC2 := h.fr pt.2.1 (by simp [hcp])
    obtain ⟨S3, e6, h3, f3, n3⟩ := next_c hB (k + 1) hC2 hK hl v hv
    have hq2 : c ≠ q2 := by
      rcases pt.2.2 with hh | hh
      · rw [hh]; exact hcp.2
      · have := h.lt; omega
    have w6 : IntKind.wrap .i64 (((splN K (lvN sk v)).1 : Int) + 1) = (((splN K (lvN sk v)).1 + 1 : Nat) : Int) := by rw [wr _ (by omega)]; omega
    have s4 : (splN K (lvN sk v)).2.1 < 4611686018427387904 := by
      have : 2 ^ (splN K (lvN sk v)).2.2 ≤ 2 ^ 12 := Nat.pow_le_pow_right (by omega) s2
      omega
    have w7 : IntKind.wrap .u64 ((splN K (lvN sk v)).2.1 : Int) = ((splN K (lvN sk v)).2.1 : Int) := wu _ (by omega)
    have hone : ((1 : Nat) : Int) = 1 := rfl
    rw [hone] at e4
    have hfin : Wr S3 p q2 (bs ++ lvB K (lvN sk v)) ∧ Fr S S3 [p, q, c] ∧ (q2 = q ∨ S.next ≤ q2) ∧ Cod S3 c (aftN K v.natAbs) left 0 := by
      refine ⟨?_, ?_, pt.2.2, h3⟩
      · have := pt.1.fr f3 (by simp [Ne.symm hcp.1]) (by simp [Ne.symm hq2])
        rw [List.append_assoc] at this
        exact this
      · exact (pt.2.1.weak (fun j hj => .inl (by simp at hj ⊢; rcases hj with h | h <;> simp [h]))).trans f3 (fun j hj => .inl (by simp at hj ⊢; simp [hj]))
    refine ⟨S3, q2, ?_, hfin⟩
    obtain ⟨N, hN⟩ : ∃ N, N = lvN sk v := ⟨_, rfl⟩
    rw [← hN] at hle hgt s1 s2 s3 e3 e4 e5 w6 w7
    unfold lvN at hN
    by_cases hneg : v < 0
    · rw [if_pos hneg] at hN
      have d1 : ¬ ((v.natAbs : Int) < 0) := by omega
      have w1 : IntKind.wrap .i64 (0 - v) = ((v.natAbs : Nat) : Int) := by rw [wr _ (by omega)]; omega
      have g : ¬ (v.natAbs : Int) > (((mstN K + sk) / 2 + 1 : Nat) : Int) := by omega
      have w2 : IntKind.wrap .i64 ((v.natAbs : Int) - 1) = ((v.natAbs - 1 : Nat) : Int) := by rw [wr _ (by omega)]; omega
      have w3 : IntKind.wrap .i64 (2 * ((v.natAbs - 1 : Nat) : Int)) = ((2 * (v.natAbs - 1) : Nat) : Int) := by rw [wr _ (by omega)]; omega
      have w4 : IntKind.wrap .i64 (((2 * (v.natAbs - 1) : Nat) : Int) - (sk : Int)) = ((2 * (v.natAbs - 1) - sk : Nat) : Int) := by rw [wr _ (by omega)]; omega
      have w5 : IntKind.wrap .i64 (((2 * (v.natAbs - 1) - sk : Nat) : Int) + 1) = (N : Int) := by rw [wr _ (by omega)]; omega
      have g2 : ¬ (N : Int) > (mstN K : Int) := by omega
      simp only [zB, decide_true, decide_false, Bool.false_eq_true, if_false, if_true, List.getElem?_cons_zero, List.getElem?_cons_succ, beq_self_eq_true, bne_self_eq_false, Int.reduceBNe, Int.reduceBEq, Int.reduceLT, Int.reduceGT, Int.reduceLE, Int.reduceGE, Nat.reduceAdd, Nat.reduceMul, Nat.reduceLeDiff, h.blk, c0, c1, cs, hneg, w1, d1, e1, g, w2, w3, w4, w5, e2, g2, e3, w6, e4, w7, e5, e6]
    · rw [if_neg hneg] at hN
      have hvn : v = ((v.natAbs : Nat) : Int) := by omega
      have g : ¬ v > (((mstN K + sk) / 2 + 1 : Nat) : Int) := by omega
      have w2 : IntKind.wrap .i64 (v - 1) = ((v.natAbs - 1 : Nat) : Int) := by rw [wr _ (by omega)]; omega
      have w3 : IntKind.wrap .i64 (2 * ((v.natAbs - 1 : Nat) : Int)) = ((2 * (v.natAbs - 1) : Nat) : Int) := by rw [wr _ (by omega)]; omega
      have w4 : IntKind.wrap .i64 (((2 * (v.natAbs - 1) : Nat) : Int) - (sk : Int)) = (N : Int) := by rw [wr _ (by omega)]; omega
      have g2 : ¬ (N : Int) > (mstN K : Int) := by omega
      simp only [zB, decide_true, decide_false, Bool.false_eq_true, if_false, if_true, List.getElem?_cons_zero, List.getElem?_cons_succ, beq_self_eq_true, bne_self_eq_false, Int.reduceBNe, Int.reduceBEq, Int.reduceLT, Int.reduceGT, Int.reduceLE, Int.reduceGE, Nat.reduceAdd, Nat.reduceMul, Nat.reduceLeDiff, h.blk, c0, c1, cs, hneg, e1, g, w2, w3, w4, e2, g2, e3, w6, e4, w7, e5, e6]
theorem new_c {total ones : Nat} (ht : total ≤ 16) (ho : ones ≤ 3) (hto : ones ≤ total) : ∃ S', Cn B (k + 1) f_level_New 0 [.int .i64 (total : Int), .int .i64 (ones : Int)] S = some (.tup [.ptr S.next 0, .int .i64 0], S') ∧ Cod S' S.next (k0N total ones) (total - ones) (s0N ones) ∧ Fr S S' [] := by
  rw [c_level_New _ _ _ _ _ (hB.no _ _ _ _ (kn_no (by decide))), T_level_New]
  have c1 : ¬ (total : Int) < 0 := by omega
  have c2 : ¬ (total : Int) > 16 := by omega
  have c3 : ¬ (ones : Int) < 0 := by omega
  have c4 : ¬ (ones : Int) > (if (3 : Int) < (total : Int) then (3 : Int) else (total : Int)) := by split <;> omega
  have w1 : IntKind.wrap .i64 ((total : Int) - (ones : Int)) = ((total - ones : Nat) : Int) := by rw [wr _ (by omega)]; omega
  obtain ⟨S1, hS1⟩ : ∃ S1, S1 = S.alloc [.int .i64 0, .int .i64 ((total - ones : Nat) : Int), .int .i64 0] := ⟨_, rfl⟩
  have b1 : S1.blk S.next = some [.int .i64 0, .int .i64 ((total - ones : Nat) : Int), .int .i64 0] := by rw [hS1]; exact alloc_blk _ _
  have n1 : S1.next = S.next + 1 := by rw [hS1]; rfl
  have f1 : Fr S S1 [] := by rw [hS1]; exact Fr.alloc _ _ _
  have e1 := put3_2 (x := .int .i64 2) b1
  obtain ⟨S2, hS2⟩ : ∃ S2, S2 = S1.set S.next (some [.int .i64 0, .int .i64 ((total - ones : Nat) : Int), .int .i64 2]) := ⟨_, rfl⟩
  rw [← hS2] at e1
  have b2 : S2.blk S.next = some [.int .i64 0, .int .i64 ((total - ones : Nat) : Int), .int .i64 2] := by rw [hS2, set_blk]
  have n2 : S2.next = S.next + 1 := by rw [hS2]; exact n1
  have f2 : Fr S S2 [] := by rw [hS2]; exact f1.set (.inr (Nat.le_refl _)) _
  have e2 := put3_0 (x := .int .i64 1) b2
  simp only [zB, decide_true, decide_false, Bool.false_eq_true, if_false, if_true, List.getElem?_cons_zero, List.getElem?_cons_succ, beq_self_eq_true, bne_self_eq_false, Int.reduceBNe, Int.reduceBEq, Int.reduceLT, Int.reduceGT, Int.reduceLE, Int.reduceGE, Nat.reduceAdd, Nat.reduceMul, Nat.reduceLeDiff, c1, c2, c3, c4, w1, ← hS1]
  by_cases g1 : ones < 3
  · have d1 : (ones : Int) < 3 := by omega
    have hs0 : s0N ones = 2 := by unfold s0N; rw [if_pos g1]
    by_cases g2 : total > 10
    · have d2 : (total : Int) > 10 := by omega
      have hk0 : k0N total ones = 1 := by unfold k0N; rw [if_pos ⟨g2, g1⟩]
      rw [hk0, hs0]
      exact ⟨_, by simp only [zB, decide_true, decide_false, Bool.false_eq_true, if_false, if_true, List.getElem?_cons_zero, List.getElem?_cons_succ, beq_self_eq_true, bne_self_eq_false, Int.reduceBNe, Int.reduceBEq, Int.reduceLT, Int.reduceGT, Int.reduceLE, Int.reduceGE, Nat.reduceAdd, Nat.reduceMul, Nat.reduceLeDiff, d1, d2, e1, e2]; rfl, ⟨set_blk _ _ _, by rw [set_next, n2]; omega⟩, f2.set (.inr (Nat.le_refl _)) _⟩
    · have d2 : ¬ (total : Int) > 10 := by omega
      have hk0 : k0N total ones = 0 := by unfold k0N; rw [if_neg (fun hh => g2 hh.1)]
      rw [hk0, hs0]
      exact ⟨S2, by simp only [zB, decide_true, decide_false, Bool.false_eq_true, if_false, if_true, List.getElem?_cons_zero, List.getElem?_cons_succ, beq_self_eq_true, bne_self_eq_false, Int.reduceBNe, Int.reduceBEq, Int.reduceLT, Int.reduceGT, Int.reduceLE, Int.reduceGE, Nat.reduceAdd, Nat.reduceMul, Nat.reduceLeDiff, d1, d2, e1], ⟨b2, by omega⟩, f2⟩
  · have d1 : ¬ (ones : Int) < 3 := by omega
    have hs0 : s0N ones = 0 := by unfold s0N; rw [if_neg g1]
    have hk0 : k0N total ones = 0 := by unfold k0N; rw [if_neg (fun hh => g1 hh.2)]
    rw [hk0, hs0]
    exact ⟨S1, by simp only [zB, decide_true, decide_false, Bool.false_eq_true, if_false, if_true, List.getElem?_cons_zero, List.getElem?_cons_succ, beq_self_eq_true, bne_self_eq_false, Int.reduceBNe, Int.reduceBEq, Int.reduceLT, Int.reduceGT, Int.reduceLE, Int.reduceGE, Nat.reduceAdd, Nat.reduceMul, Nat.reduceLeDiff, d1], ⟨b1, by omega⟩, f1⟩
end
end Go.Ab.tV
