/- The variable-length codes of layer 18: what the functions of package vlc come to. No condition beyond what each lemma names. -/
import Derived.Test.YtfkmmiinlipcpaaVB3
set_option maxRecDepth 100000
set_option linter.unusedSimpArgs false
set_option linter.unusedVariables false
set_option linter.unusedSectionVars false
namespace Go.Ab.tV
open Go Go.Proofs

def sizedI (n : Int) : Bool := n == 4 || n == 15 || n == 16
theorem sizedI_iff (n : Int) : sizedI n = true ↔ n = 4 ∨ n = 15 ∨ n = 16 := by simp [sizedI, or_assoc]
def befL : List Nat := [0, 1, 3, 6, 10, 14, 18, 22, 26, 30, 34, 38, 42, 46, 50, 54, 58, 62]
def bef (t : Nat) : Nat := befL.getD t 0
def m3 (t : Int) : Int := if (3 : Int) < t then 3 else t
/-- The number of a pair, and the error. -/
def symR (t o : Int) : Int × Int := if t < 0 ∨ t > 16 ∨ o < 0 ∨ o > m3 t then (0, 3) else ((bef t.toNat : Int) + m3 t - o, 0)
def pairL : List (Nat × Nat) := (List.range 17).flatMap fun t => (List.range (min t 3 + 1)).map fun j => (t, min t 3 - j)
def pairR (n : Int) : Int × Int × Int := if n < 0 ∨ n ≥ 62 then (0, 0, 3) else (((pairL.getD n.toNat (0, 0)).1 : Int), ((pairL.getD n.toNat (0, 0)).2 : Int), 0)
def cutB (m : Nat) : Nat := L2 (m + 1) - 1
def cutD (m : Nat) : Nat := 2 ^ (cutB m + 1) - (m + 1)
theorem kn_pair {n : Int} (h : ¬ (0 ≤ n ∧ n ≤ 61)) : kn f_vlc_Pair [.int .i64 n] = false := by
  have h1 : decide (f_vlc_Pair ∈ [f_vlc_cut, f_spindleref18_cut]) = false := by decide
  have h2 : (decide (0 ≤ n) && decide (n ≤ 61)) = false := by simp; omega
  simp only [kn, knA, h1, Bool.false_and, Bool.and_assoc, h2, Bool.and_false, Bool.or_self]
theorem pair_all : ((List.range 62).all fun n => chk f_vlc_Pair [.int .i64 (n : Int)] (.tup [.int .i64 ((pairL.getD n (0, 0)).1 : Int), .int .i64 ((pairL.getD n (0, 0)).2 : Int), .int .i64 0])) = true := by kernel_rfl
theorem cut_all : ((List.range 16).all fun n => chk f_vlc_cut [.int .i64 (n : Int)] (.tup [.int .i64 (cutB n : Int), .int .i64 (cutD n : Int)])) = true := by kernel_rfl
theorem callK_fn {β : Type} {C : CallF} {f : Nat} {cap args : List AV} {S : Heap} {K : AV → Heap → Option β} (hf : ¬ yldId ≤ f) : callK C .none (.fn f [] cap) args S K = bO (C f 0 (args ++ cap) S) fun q => K q.1 q.2 := by
  simp only [callK, if_neg hf, OAn.way, OAn.cFrz, List.nil_append, Bool.false_eq_true, if_false]
section
variable {B : CallF} (hB : Silent B) (k : Nat) {S : Heap}
include hB
theorem before_c (t : Nat) (ht : t ≤ 17) : Cn B (k + 1) f_vlc_before 0 [.int .i64 (t : Int)] S = some (.int .i64 (bef t : Int), S) := by
  rw [c_vlc_before _ _ _ _ (hB.no _ _ _ _ (kn_no (by decide))), T_vlc_before]
  have h1 : (0 : Int) ≤ (t : Int) := by omega
  have h2 : (t : Int) < ((18 : Nat) : Int) := by omega
  have h3 : ([.int .i64 0, .int .i64 1, .int .i64 3, .int .i64 6, .int .i64 10, .int .i64 14, .int .i64 18, .int .i64 22, .int .i64 26, .int .i64 30, .int .i64 34, .int .i64 38, .int .i64 42, .int .i64 46, .int .i64 50, .int .i64 54, .int .i64 58, .int .i64 62] : List AV)[t]? = some (.int .i64 (bef t : Int)) := by
    show (befL.map fun (x : Nat) => AV.int .i64 (x : Int))[t]? = _
    have : t < befL.length := by show t < 18; omega
    rw [List.getElem?_map, List.getElem?_eq_getElem this]
    simp [bef, List.getD, List.getElem?_eq_getElem this]
  simp only [zB, decide_true, decide_false, Bool.false_eq_true, if_false, if_true, List.getElem?_cons_zero, List.getElem?_cons_succ, beq_self_eq_true, bne_self_eq_false, Int.reduceBNe, Int.reduceBEq, Int.reduceLT, Int.reduceGT, Int.reduceLE, Int.reduceGE, Nat.reduceAdd, Nat.reduceMul, Nat.reduceLeDiff, h1, h2, Int.toNat_natCast, Nat.mul_one, h3]
theorem sized_c (n : Int) : Cn B (k + 1) f_vlc_sized 0 [.int .i64 n] S = some (.bool (sizedI n), S) := by
  rw [c_vlc_sized _ _ _ _ (hB.no _ _ _ _ (kn_no (by decide))), T_vlc_sized]
  cases h1 : (n == 4)
  · cases h2 : (n == 15)
    · simp only [zB, decide_true, decide_false, Bool.false_eq_true, if_false, if_true, List.getElem?_cons_zero, List.getElem?_cons_succ, beq_self_eq_true, bne_self_eq_false, Int.reduceBNe, Int.reduceBEq, Int.reduceLT, Int.reduceGT, Int.reduceLE, Int.reduceGE, Nat.reduceAdd, Nat.reduceMul, Nat.reduceLeDiff, h1, h2, sizedI, Bool.false_or]
    · simp only [zB, decide_true, decide_false, Bool.false_eq_true, if_false, if_true, List.getElem?_cons_zero, List.getElem?_cons_succ, beq_self_eq_true, bne_self_eq_false, Int.reduceBNe, Int.reduceBEq, Int.reduceLT, Int.reduceGT, Int.reduceLE, Int.reduceGE, Nat.reduceAdd, Nat.reduceMul, Nat.reduceLeDiff, h1, h2, sizedI, Bool.false_or, Bool.true_or]
  · simp only [zB, decide_true, decide_false, Bool.false_eq_true, if_false, if_true, List.getElem?_cons_zero, List.getElem?_cons_succ, beq_self_eq_true, bne_self_eq_false, Int.reduceBNe, Int.reduceBEq, Int.reduceLT, Int.reduceGT, Int.reduceLE, Int.reduceGE, Nat.reduceAdd, Nat.reduceMul, Nat.reduceLeDiff, h1, sizedI, Bool.true_or]
theorem symbol_c (t o : Int) : Cn B (k + 2) f_vlc_Symbol 0 [.int .i64 t, .int .i64 o] S = some (.tup [.int .i64 (symR t o).1, .int .i64 (symR t o).2], S) := by
  rw [c_vlc_Symbol _ _ _ _ _ (hB.no _ _ _ _ (kn_no (by decide))), T_vlc_Symbol]
  unfold symR
  have hm : (if (3 : Int) < t then 3 else t) = m3 t := rfl
  by_cases h1 : t < 0
  · rw [if_pos (.inl h1)]; simp only [zB, decide_true, decide_false, Bool.false_eq_true, if_false, if_true, List.getElem?_cons_zero, List.getElem?_cons_succ, beq_self_eq_true, bne_self_eq_false, Int.reduceBNe, Int.reduceBEq, Int.reduceLT, Int.reduceGT, Int.reduceLE, Int.reduceGE, Nat.reduceAdd, Nat.reduceMul, Nat.reduceLeDiff, h1]
  by_cases h2 : t > 16
  · rw [if_pos (.inr (.inl h2))]; simp only [zB, decide_true, decide_false, Bool.false_eq_true, if_false, if_true, List.getElem?_cons_zero, List.getElem?_cons_succ, beq_self_eq_true, bne_self_eq_false, Int.reduceBNe, Int.reduceBEq, Int.reduceLT, Int.reduceGT, Int.reduceLE, Int.reduceGE, Nat.reduceAdd, Nat.reduceMul, Nat.reduceLeDiff, h1, h2]
  by_cases h3 : o < 0
  · rw [if_pos (.inr (.inr (.inl h3)))]; simp only [zB, decide_true, decide_false, Bool.false_eq_true, if_false, if_true, List.getElem?_cons_zero, List.getElem?_cons_succ, beq_self_eq_true, bne_self_eq_false, Int.reduceBNe, Int.reduceBEq, Int.reduceLT, Int.reduceGT, Int.reduceLE, Int.reduceGE, Nat.reduceAdd, Nat.reduceMul, Nat.reduceLeDiff, h1, h2, h3]
  by_cases h4 : o > m3 t
  · rw [if_pos (.inr (.inr (.inr h4)))]; simp only [zB, decide_true, decide_false, Bool.false_eq_true, if_false, if_true, List.getElem?_cons_zero, List.getElem?_cons_succ, beq_self_eq_true, bne_self_eq_false, Int.reduceBNe, Int.reduceBEq, Int.reduceLT, Int.reduceGT, Int.reduceLE, Int.reduceGE, Nat.reduceAdd, Nat.reduceMul, Nat.reduceLeDiff, h1, h2, h3, hm, h4]
  rw [if_neg (by simp only [not_or]; exact ⟨h1, h2, h3, h4⟩)]
  obtain ⟨n, rfl⟩ := Int.eq_ofNat_of_zero_le (show 0 ≤ t by omega)
  have e1 := before_c hB k (S := S) n (by omega)
  have hb : bef n ≤ 62 := by
    have : ∀ i : Fin 18, bef i.val ≤ 62 := by decide
    exact this ⟨n, by omega⟩
  have hm2 : m3 (n : Int) ≤ 3 ∧ m3 (n : Int) ≤ n ∧ 0 ≤ m3 (n : Int) := by unfold m3; split <;> omega
  have w1 : IntKind.wrap .i64 ((bef n : Int) + m3 (n : Int)) = (bef n : Int) + m3 (n : Int) := wr _ (by omega)
  have w2 : IntKind.wrap .i64 ((bef n : Int) + m3 (n : Int) - o) = (bef n : Int) + m3 (n : Int) - o := wr _ (by omega)
  simp only [zB, decide_true, decide_false, Bool.false_eq_true, if_false, if_true, List.getElem?_cons_zero, List.getElem?_cons_succ, beq_self_eq_true, bne_self_eq_false, Int.reduceBNe, Int.reduceBEq, Int.reduceLT, Int.reduceGT, Int.reduceLE, Int.reduceGE, Nat.reduceAdd, Nat.reduceMul, Nat.reduceLeDiff, h1, h2, h3, hm, h4, e1, w1, w2, Int.toNat_natCast]
theorem pair_c (n : Int) : Cn B (k + 2) f_vlc_Pair 0 [.int .i64 n] S = some (.tup [.int .i64 (pairR n).1, .int .i64 (pairR n).2.1, .int .i64 (pairR n).2.2], S) := by
  unfold pairR
  by_cases h1 : n < 0
  · rw [c_vlc_Pair _ _ _ _ (hB.no _ _ _ _ (kn_pair (by omega))), T_vlc_Pair, if_pos (.inl h1)]
    simp only [zB, decide_true, decide_false, Bool.false_eq_true, if_false, if_true, List.getElem?_cons_zero, List.getElem?_cons_succ, beq_self_eq_true, bne_self_eq_false, Int.reduceBNe, Int.reduceBEq, Int.reduceLT, Int.reduceGT, Int.reduceLE, Int.reduceGE, Nat.reduceAdd, Nat.reduceMul, Nat.reduceLeDiff, h1]
  by_cases h2 : n ≥ 62
  · rw [c_vlc_Pair _ _ _ _ (hB.no _ _ _ _ (kn_pair (by omega))), T_vlc_Pair, if_pos (.inr h2)]
    simp only [zB, decide_true, decide_false, Bool.false_eq_true, if_false, if_true, List.getElem?_cons_zero, List.getElem?_cons_succ, beq_self_eq_true, bne_self_eq_false, Int.reduceBNe, Int.reduceBEq, Int.reduceLT, Int.reduceGT, Int.reduceLE, Int.reduceGE, Nat.reduceAdd, Nat.reduceMul, Nat.reduceLeDiff, h1, h2]
  rw [if_neg (by simp only [not_or]; exact ⟨h1, h2⟩)]
  obtain ⟨i, rfl⟩ := Int.eq_ofNat_of_zero_le (show 0 ≤ n by omega)
  exact chk_c hB (List.all_eq_true.1 pair_all i (List.mem_range.2 (by omega))) _ _
theorem cut_c (m : Nat) (hm : m ≤ 15) : Cn B k f_vlc_cut 0 [.int .i64 (m : Int)] S = some (.tup [.int .i64 (cutB m : Int), .int .i64 (cutD m : Int)], S) :=
  chk_c hB (List.all_eq_true.1 cut_all m (List.mem_range.2 (by omega))) _ _
theorem order_c (i : Int) : Cn B (k + 1) f_vlc_order 0 [.int .i64 i] S = some (.agg [.fn f_vlc_order_1 [] [.ptr S.next 0], .fn f_vlc_order_2 [] [.ptr S.next 0]], S.alloc [.int .i64 i]) := by
  rw [c_vlc_order _ _ _ _ (hB.no _ _ _ _ (kn_no (by decide))), T_vlc_order]
  simp only [zB, decide_true, decide_false, Bool.false_eq_true, if_false, if_true, List.getElem?_cons_zero, List.getElem?_cons_succ, beq_self_eq_true, bne_self_eq_false, Int.reduceBNe, Int.reduceBEq, Int.reduceLT, Int.reduceGT, Int.reduceLE, Int.reduceGE, Nat.reduceAdd, Nat.reduceMul, Nat.reduceLeDiff]
/-- The functions of the classes. -/
def clsL (q : Nat) : List AV := [.fn f_vlc_order_1 [] [.ptr q 0], .fn f_vlc_order_2 [] [.ptr q 0], .fn f_vlc_order_1 [] [.ptr (q + 1) 0], .fn f_vlc_order_2 [] [.ptr (q + 1) 0], .fn f_vlc_order_1 [] [.ptr (q + 2) 0], .fn f_vlc_order_2 [] [.ptr (q + 2) 0], .fn f_vlc_classes_1 [] [], .fn f_vlc_classes_2 [] [], .fn f_golomb_Ue [] [], .fn f_golomb_PutUe [] []]
def rdF (q c : Nat) : AV := if c < 3 then .fn f_vlc_order_1 [] [.ptr (q + c) 0] else if c = 3 then .fn f_vlc_classes_1 [] [] else .fn f_golomb_Ue [] []
def wrF (q c : Nat) : AV := if c < 3 then .fn f_vlc_order_2 [] [.ptr (q + c) 0] else if c = 3 then .fn f_vlc_classes_2 [] [] else .fn f_golomb_PutUe [] []
omit hB in
theorem cls_rd (q c : Nat) (hc : c < 5) : (clsL q)[c * 2]? = some (rdF q c) := by
  match c, hc with
  | 0, _ => rfl
  | 1, _ => rfl
  | 2, _ => rfl
  | 3, _ => rfl
  | 4, _ => rfl
omit hB in
theorem cls_wr (q c : Nat) (hc : c < 5) : (clsL q)[c * 2 + 1]? = some (wrF q c) := by
  match c, hc with
  | 0, _ => rfl
  | 1, _ => rfl
  | 2, _ => rfl
  | 3, _ => rfl
  | 4, _ => rfl
theorem classes_c : ∃ S', Cn B (k + 2) f_vlc_classes 0 [] S = some (.agg (clsL S.next), S') ∧ Fr S S' [] ∧ S'.next = S.next + 3 ∧ ∀ i, i < 3 → S'.blk (S.next + i) = some [.int .i64 (i : Int)] := by
  rw [c_vlc_classes _ _ _ (hB.no _ _ _ _ (kn_no (by decide))), T_vlc_classes]
  have e1 := order_c hB k (S := S) 0
  have e2 := order_c hB k (S := S.alloc [.int .i64 0]) 1
  have e3 := order_c hB k (S := (S.alloc [.int .i64 0]).alloc [.int .i64 1]) 2
  refine ⟨((S.alloc [.int .i64 0]).alloc [.int .i64 1]).alloc [.int .i64 2], by simp only [zB, decide_true, decide_false, Bool.false_eq_true, if_false, if_true, List.getElem?_cons_zero, List.getElem?_cons_succ, beq_self_eq_true, bne_self_eq_false, Int.reduceBNe, Int.reduceBEq, Int.reduceLT, Int.reduceGT, Int.reduceLE, Int.reduceGE, Nat.reduceAdd, Nat.reduceMul, Nat.reduceLeDiff, e1, e2, e3] <;> rfl, ((Fr.alloc S _ _).alloc' _).alloc' _, rfl, fun i hi => ?_⟩
  have n1 : (S.alloc [.int .i64 0]).next = S.next + 1 := rfl
  have n2 : ((S.alloc [.int .i64 0]).alloc [.int .i64 1]).next = S.next + 2 := rfl
  match i, hi with
  | 0, _ => rw [alloc_other _ _ (by rw [n2]; omega), alloc_other _ _ (by rw [n1]; omega)]; exact alloc_blk _ _
  | 1, _ => rw [alloc_other _ _ (by rw [n2]; omega), ← n1]; exact alloc_blk _ _
  | 2, _ => rw [← n2]; exact alloc_blk _ _
end

/-- The number of a pair, as it is read in a class. -/
def numR (s : ByteArray) (c a : Nat) : Rn := if c = 3 then rU s 6 a else rUk s (c % 4) a
theorem rUk_zero (s : ByteArray) (a : Nat) : rUk s 0 a = rUe s a := by
  unfold rUk
  cases h : rUe s a with
  | error e => rfl
  | ok x =>
    obtain ⟨v, b⟩ := x
    have := rUe_ok h
    simp only
    rw [if_neg (by omega)]
    simp [num]
theorem numR_err {s : ByteArray} {c a : Nat} {e : Int} (h : numR s c a = .error e) : e = 4 ∨ e = 5 := by
  unfold numR at h
  split at h
  · unfold rU at h; split at h <;> cases h; exact .inr rfl
  · exact rUk_err h
theorem numR_ok {s : ByteArray} {c a v a' : Nat} (h : numR s c a = .ok (v, a')) : a ≤ a' ∧ a' ≤ 8 * s.size ∧ v < 4294967295 * 8 := by
  unfold numR at h
  split at h
  · unfold rU at h
    split at h
    · cases h
    · cases h
      have := num_lt s a 6
      exact ⟨by omega, by omega, by omega⟩
  · obtain ⟨h1, h2, h3⟩ := rUk_ok h
    have h4 : 2 ^ (c % 4) ≤ 2 ^ 3 := Nat.pow_le_pow_right (by omega) (by omega)
    have h5 : 4294967295 * 2 ^ (c % 4) ≤ 4294967295 * 8 := Nat.mul_le_mul_left _ h4
    exact ⟨by omega, h2, by omega⟩
/-- The code of the number of a pair in a class. -/
def clsC (c n : Nat) : List Bool := if c = 3 then bitsN 6 n else ukC (c % 4) n
theorem ukC_zero (n : Nat) : ukC 0 n = ueC n := by simp [ukC, bitsN]
section
variable {B : CallF} (hB : Silent B) (k : Nat) {S : Heap} {p q : Nat} {s : ByteArray} {a c : Nat}
include hB
theorem call_rd (h : Rdr S p s a) (hc : c < 5) (hq : c < 3 → S.blk (q + c) = some [.int .i64 (c : Int)] ∧ q + c < S.next ∧ q + c ≠ p) :
    ∃ S', (∀ {β : Type} (K : AV → Heap → Option β), callK (Cn B (k + 8)) .none (rdF q c) [.ptr p 0] S K = K (encU (numR s c a)) S') ∧ Rdr S' p s ((numR s c a).pos a) ∧ Fr S S' [p] := by
  have y1 : ¬ yldId ≤ f_vlc_order_1 := by decide
  have y2 : ¬ yldId ≤ f_vlc_classes_1 := by decide
  have y3 : ¬ yldId ≤ f_golomb_Ue := by decide
  by_cases h3 : c < 3
  · obtain ⟨hb, hl, hne⟩ := hq h3
    have hc4 : c % 4 = c := by omega
    obtain ⟨S', e, h1, f1⟩ := uk_c hB k h (n := c) (by omega)
    have e1 : Cn B (k + 8) f_vlc_order_1 0 [.ptr p 0, .ptr (q + c) 0] S = some (encU (rUk s c a), S') := by
      rw [c_vlc_order_1 _ _ _ _ _ (hB.no _ _ _ _ (kn_no (by decide))), T_vlc_order_1]
      cases hr : rUk s c a with
      | error e' => rw [hr] at e; simp only [zB, decide_true, decide_false, Bool.false_eq_true, if_false, if_true, List.getElem?_cons_zero, List.getElem?_cons_succ, beq_self_eq_true, bne_self_eq_false, Int.reduceBNe, Int.reduceBEq, Int.reduceLT, Int.reduceGT, Int.reduceLE, Int.reduceGE, Nat.reduceAdd, Nat.reduceMul, Nat.reduceLeDiff, hb, e, encU]
      | ok x => obtain ⟨v, b⟩ := x; rw [hr] at e; simp only [zB, decide_true, decide_false, Bool.false_eq_true, if_false, if_true, List.getElem?_cons_zero, List.getElem?_cons_succ, beq_self_eq_true, bne_self_eq_false, Int.reduceBNe, Int.reduceBEq, Int.reduceLT, Int.reduceGT, Int.reduceLE, Int.reduceGE, Nat.reduceAdd, Nat.reduceMul, Nat.reduceLeDiff, hb, e, encU]
    have r1 : rdF q c = .fn f_vlc_order_1 [] [.ptr (q + c) 0] := by unfold rdF; rw [if_pos h3]
    have r2 : numR s c a = rUk s c a := by unfold numR; rw [if_neg (by omega), hc4]
    rw [r1, r2]
    refine ⟨S', fun K => ?_, h1, f1⟩
    rw [callK_fn y1]
    simp only [List.cons_append, List.nil_append, e1, bO_s]
  · by_cases h4 : c = 3
    · subst h4
      obtain ⟨S', e, h1, f1⟩ := u_c hB (k + 5) h 6 (by omega)
      have e1 : Cn B (k + 8) f_vlc_classes_1 0 [.ptr p 0] S = some (encU (rU s 6 a), S') := by
        rw [c_vlc_classes_1 _ _ _ _ (hB.no _ _ _ _ (kn_no (by decide))), T_vlc_classes_1]
        rw [show (((6 : Nat)) : Int) = 6 from rfl] at e
        cases hr : rU s 6 a with
        | error e' => rw [hr] at e; simp only [zB, decide_true, decide_false, Bool.false_eq_true, if_false, if_true, List.getElem?_cons_zero, List.getElem?_cons_succ, beq_self_eq_true, bne_self_eq_false, Int.reduceBNe, Int.reduceBEq, Int.reduceLT, Int.reduceGT, Int.reduceLE, Int.reduceGE, Nat.reduceAdd, Nat.reduceMul, Nat.reduceLeDiff, e, encU]
        | ok x => obtain ⟨v, b⟩ := x; rw [hr] at e; simp only [zB, decide_true, decide_false, Bool.false_eq_true, if_false, if_true, List.getElem?_cons_zero, List.getElem?_cons_succ, beq_self_eq_true, bne_self_eq_false, Int.reduceBNe, Int.reduceBEq, Int.reduceLT, Int.reduceGT, Int.reduceLE, Int.reduceGE, Nat.reduceAdd, Nat.reduceMul, Nat.reduceLeDiff, e, encU]
      have r1 : rdF q 3 = .fn f_vlc_classes_1 [] [] := rfl
      have r2 : numR s 3 a = rU s 6 a := rfl
      rw [r1, r2]
      refine ⟨S', fun K => ?_, h1, f1⟩
      rw [callK_fn y2]
      simp only [List.cons_append, List.nil_append, List.append_nil, e1, bO_s]
    · have h5 : c = 4 := by omega
      subst h5
      obtain ⟨S', e, h1, f1⟩ := ue_c hB (k + 3) h
      have r1 : rdF q 4 = .fn f_golomb_Ue [] [] := rfl
      have r2 : numR s 4 a = rUe s a := by unfold numR; rw [if_neg (by omega)]; exact rUk_zero s a
      rw [r1, r2]
      refine ⟨S', fun K => ?_, h1, f1⟩
      rw [callK_fn y3]
      simp only [List.cons_append, List.nil_append, List.append_nil, e, bO_s]
theorem call_wr {w qw n : Nat} {bs : List Bool} (h : Wr S w qw bs) (hn : n ≤ 63) (hb : bs.length ≤ 800000000) (hc : c < 5) (hq : c < 3 → S.blk (q + c) = some [.int .i64 (c : Int)]) :
    ∃ S' q', (∀ {β : Type} (K : AV → Heap → Option β), callK (Cn B (k + 4)) .none (wrF q c) [.ptr w 0, .int .u64 (n : Int)] S K = K (.int .i64 0) S') ∧ Puts S S' w qw q' bs (bs ++ clsC c n) := by
  have y1 : ¬ yldId ≤ f_vlc_order_2 := by decide
  have y2 : ¬ yldId ≤ f_vlc_classes_2 := by decide
  have y3 : ¬ yldId ≤ f_golomb_PutUe := by decide
  by_cases h3 : c < 3
  · have hb' := hq h3
    have hc4 : c % 4 = c := by omega
    obtain ⟨S', q', e, h1⟩ := putuk_c hB k h c n (by omega) (by omega) hb
    have e1 : Cn B (k + 4) f_vlc_order_2 0 [.ptr w 0, .int .u64 (n : Int), .ptr (q + c) 0] S = some (.int .i64 0, S') := by
      rw [c_vlc_order_2 _ _ _ _ _ _ (hB.no _ _ _ _ (kn_no (by decide))), T_vlc_order_2]
      simp only [zB, decide_true, decide_false, Bool.false_eq_true, if_false, if_true, List.getElem?_cons_zero, List.getElem?_cons_succ, beq_self_eq_true, bne_self_eq_false, Int.reduceBNe, Int.reduceBEq, Int.reduceLT, Int.reduceGT, Int.reduceLE, Int.reduceGE, Nat.reduceAdd, Nat.reduceMul, Nat.reduceLeDiff, hb', e]
    have r1 : wrF q c = .fn f_vlc_order_2 [] [.ptr (q + c) 0] := by unfold wrF; rw [if_pos h3]
    have r2 : clsC c n = ukC c n := by unfold clsC; rw [if_neg (by omega), hc4]
    rw [r1, r2]
    refine ⟨S', q', fun K => ?_, h1⟩
    rw [callK_fn y1]
    simp only [List.cons_append, List.nil_append, e1, bO_s]
  · by_cases h4 : c = 3
    · subst h4
      obtain ⟨S', q', e, h1⟩ := put_c hB (k + 2) h 6 n (by omega) (by omega) (by omega)
      have e1 : Cn B (k + 4) f_vlc_classes_2 0 [.ptr w 0, .int .u64 (n : Int)] S = some (.int .i64 0, S') := by
        rw [c_vlc_classes_2 _ _ _ _ _ (hB.no _ _ _ _ (kn_no (by decide))), T_vlc_classes_2]
        rw [show (((6 : Nat)) : Int) = 6 from rfl] at e
        simp only [zB, decide_true, decide_false, Bool.false_eq_true, if_false, if_true, List.getElem?_cons_zero, List.getElem?_cons_succ, beq_self_eq_true, bne_self_eq_false, Int.reduceBNe, Int.reduceBEq, Int.reduceLT, Int.reduceGT, Int.reduceLE, Int.reduceGE, Nat.reduceAdd, Nat.reduceMul, Nat.reduceLeDiff, e]
      have r1 : wrF q 3 = .fn f_vlc_classes_2 [] [] := rfl
      have r2 : clsC 3 n = bitsN 6 n := rfl
      rw [r1, r2]
      refine ⟨S', q', fun K => ?_, h1⟩
      rw [callK_fn y2]
      simp only [List.cons_append, List.nil_append, List.append_nil, e1, bO_s]
    · have h5 : c = 4 := by omega
      subst h5
      obtain ⟨S', q', e, h1⟩ := putue_c hB (k + 2) h n (by omega) (by omega)
      have r1 : wrF q 4 = .fn f_golomb_PutUe [] [] := rfl
      have r2 : clsC 4 n = ueC n := by unfold clsC; rw [if_neg (by omega)]; exact ukC_zero n
      rw [r1, r2]
      refine ⟨S', q', fun K => ?_, h1⟩
      rw [callK_fn y3]
      simp only [List.cons_append, List.nil_append, List.append_nil, e, bO_s]
end

/-- What is read: two numbers, the error, and where the reader is then. -/
def tokR (s : ByteArray) (a : Nat) (class' size : Int) : Int × Int × Int × Nat :=
  if class' < 0 ∨ class' > 4 ∨ sizedI size = false then (0, 0, 3, a) else match numR s class'.toNat a with
    | .error e => (0, 0, e, a)
    | .ok (v, a') => if v ≥ bef (size.toNat + 1) then (0, 0, 3, a) else ((pairR v).1, (pairR v).2.1, 0, a')
/-- What is written: the error, and the bits. -/
def tokP (class' size total ones : Int) : Int × List Bool :=
  if class' < 0 ∨ class' > 4 ∨ sizedI size = false ∨ total > size then (3, []) else if (symR total ones).2 ≠ 0 then (3, []) else (0, clsC class'.toNat (symR total ones).1.toNat)
theorem symR_le {t o : Int} (h : (symR t o).2 = 0) : 0 ≤ (symR t o).1 ∧ (symR t o).1 ≤ 61 := by
  unfold symR at h ⊢
  split at h
  · cases h
  · rename_i hh
    rw [if_neg hh]
    simp only [not_or] at hh
    obtain ⟨n, rfl⟩ := Int.eq_ofNat_of_zero_le (show 0 ≤ t by omega)
    have : ∀ i : Fin 17, ((bef i.val : Int) + m3 (i.val : Int) ≤ 61) := by decide
    have h1 := this ⟨n, by omega⟩
    simp only [Int.toNat_natCast] at h1 ⊢
    constructor <;> omega
theorem symR_two (t o : Int) : (symR t o).2 = 0 ∨ (symR t o).2 = 3 := by unfold symR; split <;> simp
theorem bef_le (size : Int) (h : sizedI size = true) : bef (size.toNat + 1) ≤ 62 ∧ size.toNat + 1 ≤ 17 := by
  rcases (sizedI_iff size).1 h with rfl | rfl | rfl <;> decide
theorem Puts.fr {S T : Heap} {p q : Nat} {bs : List Bool} (h : Wr S p q bs) (f : Fr S T []) : Puts S T p q q bs (bs ++ []) := ⟨by rw [List.append_nil]; exact h.fr f (by simp) (by simp), f.nil, .inl rfl⟩
theorem setCls (q : Nat) : setCells [.nilf, .nilf, .nilf, .nilf, .nilf, .nilf, .nilf, .nilf, .nilf, .nilf] 0 (clsL q) = clsL q := (rfl)
theorem lenCls (q : Nat) : (clsL q).length = 10 := (rfl)
theorem cellCls (q : Nat) : (clsL q).all cell = true := (rfl)
section
variable {B : CallF} (hB : Silent B) (k : Nat) {S : Heap} {p : Nat} {s : ByteArray} {a : Nat}
include hB
theorem token_c (h : Rdr S p s a) (class' size : Int) :
    ∃ S', Cn B (k + 9) f_vlc_Token 0 [.ptr p 0, .int .i64 class', .int .i64 size] S = some (.tup [.int .i64 (tokR s a class' size).1, .int .i64 (tokR s a class' size).2.1, .int .i64 (tokR s a class' size).2.2.1], S') ∧ Rdr S' p s (tokR s a class' size).2.2.2 ∧ Fr S S' [p] := by
  rw [c_vlc_Token _ _ _ _ _ _ (hB.no _ _ _ _ (kn_no (by decide))), T_vlc_Token]
  have lt := h.lt
  obtain ⟨S1, e1, f1, n1, b1⟩ := classes_c hB (k + 6) (S := S)
  have h1 := h.fr f1 (by simp)
  unfold tokR
  by_cases g1 : class' < 0
  · rw [if_pos (.inl g1)]
    exact ⟨S1, by simp only [zB, decide_true, decide_false, Bool.false_eq_true, if_false, if_true, List.getElem?_cons_zero, List.getElem?_cons_succ, beq_self_eq_true, bne_self_eq_false, Int.reduceBNe, Int.reduceBEq, Int.reduceLT, Int.reduceGT, Int.reduceLE, Int.reduceGE, Nat.reduceAdd, Nat.reduceMul, Nat.reduceLeDiff, e1, lenCls, cellCls, setCls, Nat.le_refl, g1], h1, f1.nil⟩
  by_cases g2 : class' > 4
  · rw [if_pos (.inr (.inl g2))]
    have g2' : class' ≥ 5 := by omega
    exact ⟨S1, by simp only [zB, decide_true, decide_false, Bool.false_eq_true, if_false, if_true, List.getElem?_cons_zero, List.getElem?_cons_succ, beq_self_eq_true, bne_self_eq_false, Int.reduceBNe, Int.reduceBEq, Int.reduceLT, Int.reduceGT, Int.reduceLE, Int.reduceGE, Nat.reduceAdd, Nat.reduceMul, Nat.reduceLeDiff, e1, lenCls, cellCls, setCls, Nat.le_refl, g1, g2'], h1, f1.nil⟩
  have g2' : ¬ class' ≥ 5 := by omega
  have e2 := sized_c hB (k + 7) (S := S1) size
  cases g3 : sizedI size with
  | false =>
    rw [if_pos (.inr (.inr rfl))]
    rw [g3] at e2
    exact ⟨S1, by simp only [zB, decide_true, decide_false, Bool.false_eq_true, if_false, if_true, List.getElem?_cons_zero, List.getElem?_cons_succ, beq_self_eq_true, bne_self_eq_false, Int.reduceBNe, Int.reduceBEq, Int.reduceLT, Int.reduceGT, Int.reduceLE, Int.reduceGE, Nat.reduceAdd, Nat.reduceMul, Nat.reduceLeDiff, e1, lenCls, cellCls, setCls, Nat.le_refl, g1, g2', e2], h1, f1.nil⟩
  | true =>
    rw [if_neg (by simp only [not_or]; exact ⟨g1, g2, by simp⟩)]
    rw [g3] at e2
    obtain ⟨hbf, hsz⟩ := bef_le size g3
    obtain ⟨c, rfl⟩ := Int.eq_ofNat_of_zero_le (show 0 ≤ class' by omega)
    have hc : c < 5 := by omega
    obtain ⟨S2, e3, h2, f2⟩ := rcopy_c hB (k + 7) h1
    have n2 := f2.1
    have b2 : ∀ i, i < 3 → S2.blk (S.next + i) = some [.int .i64 (i : Int)] := fun i hi => (f2.get (by omega) (by simp)).trans (b1 i hi)
    obtain ⟨S3, e4, h3, f3⟩ := call_rd hB k h2 (q := S.next) hc (fun h => ⟨b2 c h, by omega, by omega⟩)
    have n3 := f3.1
    have f13 : Fr S1 S3 [] := f2.trans f3 (fun j hj => by simp at hj; omega)
    have b3 : ∀ i, i < 3 → S3.blk (S.next + i) = some [.int .i64 (i : Int)] := fun i hi => (f13.get (by omega) (by simp)).trans (b1 i hi)
    have h3' := h1.fr f13 (by simp)
    have f03 : Fr S S3 [] := f1.trans f13 (fun j hj => .inl hj)
    have c1 : (0 : Int) ≤ (c : Int) := by omega
    have c2 : (c : Int) < ((5 : Nat) : Int) := by omega
    simp only [Int.toNat_natCast]
    cases hr : numR s c a with
    | error e =>
      have c3 : (e != 0) = true := by rcases numR_err hr with rfl | rfl <;> rfl
      rw [hr] at e4
      exact ⟨S3, by simp only [zB, decide_true, decide_false, Bool.false_eq_true, if_false, if_true, List.getElem?_cons_zero, List.getElem?_cons_succ, beq_self_eq_true, bne_self_eq_false, Int.reduceBNe, Int.reduceBEq, Int.reduceLT, Int.reduceGT, Int.reduceLE, Int.reduceGE, Nat.reduceAdd, Nat.reduceMul, Nat.reduceLeDiff, e1, lenCls, cellCls, setCls, Nat.le_refl, g1, g2', e2, c1, c2, Int.toNat_natCast, cls_rd _ _ hc, e3, e4, encU, c3], h3', f03.nil⟩
    | ok x =>
      obtain ⟨v, b⟩ := x
      obtain ⟨r1, r2, r3⟩ := numR_ok hr
      rw [hr] at e4
      have e5 := before_c hB (k + 7) (S := S3) (size.toNat + 1) hsz
      have w1 : IntKind.wrap .i64 (size + 1) = ((size.toNat + 1 : Nat) : Int) := by
        have := (sizedI_iff size).1 g3
        rw [wr _ (by omega)]; omega
      have w2 : IntKind.wrap .u64 ((bef (size.toNat + 1) : Nat) : Int) = ((bef (size.toNat + 1) : Nat) : Int) := wu _ (by omega)
      simp only
      by_cases g4 : v ≥ bef (size.toNat + 1)
      · rw [if_pos g4]
        have c4 : (v : Int) ≥ ((bef (size.toNat + 1) : Nat) : Int) := by omega
        exact ⟨S3, by simp only [zB, decide_true, decide_false, Bool.false_eq_true, if_false, if_true, List.getElem?_cons_zero, List.getElem?_cons_succ, beq_self_eq_true, bne_self_eq_false, Int.reduceBNe, Int.reduceBEq, Int.reduceLT, Int.reduceGT, Int.reduceLE, Int.reduceGE, Nat.reduceAdd, Nat.reduceMul, Nat.reduceLeDiff, e1, lenCls, cellCls, setCls, Nat.le_refl, g1, g2', e2, c1, c2, Int.toNat_natCast, cls_rd _ _ hc, e3, e4, encU, w1, e5, w2, c4], h3', f03.nil⟩
      · rw [if_neg g4]
        have c4 : ¬ (v : Int) ≥ ((bef (size.toNat + 1) : Nat) : Int) := by omega
        obtain ⟨S4, e6, h4, f4⟩ := call_rd hB k h3' (q := S.next) hc (fun h => ⟨b3 c h, by omega, by omega⟩)
        rw [hr] at e6 h4
        have w3 : IntKind.wrap .i64 (v : Int) = (v : Int) := wr _ (by omega)
        have e7 := pair_c hB (k + 6) (S := S4) (v : Int)
        have hp : (pairR (v : Int)).2.2 = 0 := by unfold pairR; rw [if_neg (by omega)]
        rw [hp] at e7
        exact ⟨S4, by simp only [zB, decide_true, decide_false, Bool.false_eq_true, if_false, if_true, List.getElem?_cons_zero, List.getElem?_cons_succ, beq_self_eq_true, bne_self_eq_false, Int.reduceBNe, Int.reduceBEq, Int.reduceLT, Int.reduceGT, Int.reduceLE, Int.reduceGE, Nat.reduceAdd, Nat.reduceMul, Nat.reduceLeDiff, e1, lenCls, cellCls, setCls, Nat.le_refl, g1, g2', e2, c1, c2, Int.toNat_natCast, cls_rd _ _ hc, e3, e4, encU, w1, e5, w2, c4, e6, w3, e7], h4, f03.nil.trans f4 (fun j hj => .inl hj)⟩
theorem puttoken_c {q : Nat} {bs : List Bool} (h : Wr S p q bs) (hb : bs.length ≤ 800000000) (class' size total ones : Int) :
    ∃ S' q', Cn B (k + 5) f_vlc_PutToken 0 [.ptr p 0, .int .i64 class', .int .i64 size, .int .i64 total, .int .i64 ones] S = some (.int .i64 (tokP class' size total ones).1, S') ∧ Puts S S' p q q' bs (bs ++ (tokP class' size total ones).2) := by
  rw [c_vlc_PutToken _ _ _ _ _ _ _ _ (hB.no _ _ _ _ (kn_no (by decide))), T_vlc_PutToken]
  obtain ⟨S1, e1, f1, n1, b1⟩ := classes_c hB (k + 2) (S := S)
  unfold tokP
  by_cases g1 : class' < 0
  · rw [if_pos (.inl g1)]
    exact ⟨S1, q, by simp only [zB, decide_true, decide_false, Bool.false_eq_true, if_false, if_true, List.getElem?_cons_zero, List.getElem?_cons_succ, beq_self_eq_true, bne_self_eq_false, Int.reduceBNe, Int.reduceBEq, Int.reduceLT, Int.reduceGT, Int.reduceLE, Int.reduceGE, Nat.reduceAdd, Nat.reduceMul, Nat.reduceLeDiff, e1, lenCls, cellCls, setCls, Nat.le_refl, g1], Puts.fr h f1⟩
  by_cases g2 : class' > 4
  · rw [if_pos (.inr (.inl g2))]
    have g2' : class' ≥ 5 := by omega
    exact ⟨S1, q, by simp only [zB, decide_true, decide_false, Bool.false_eq_true, if_false, if_true, List.getElem?_cons_zero, List.getElem?_cons_succ, beq_self_eq_true, bne_self_eq_false, Int.reduceBNe, Int.reduceBEq, Int.reduceLT, Int.reduceGT, Int.reduceLE, Int.reduceGE, Nat.reduceAdd, Nat.reduceMul, Nat.reduceLeDiff, e1, lenCls, cellCls, setCls, Nat.le_refl, g1, g2'], Puts.fr h f1⟩
  have g2' : ¬ class' ≥ 5 := by omega
  have e2 := sized_c hB (k + 3) (S := S1) size
  cases g3 : sizedI size with
  | false =>
    rw [if_pos (.inr (.inr (.inl rfl)))]
    rw [g3] at e2
    exact ⟨S1, q, by simp only [zB, decide_true, decide_false, Bool.false_eq_true, if_false, if_true, List.getElem?_cons_zero, List.getElem?_cons_succ, beq_self_eq_true, bne_self_eq_false, Int.reduceBNe, Int.reduceBEq, Int.reduceLT, Int.reduceGT, Int.reduceLE, Int.reduceGE, Nat.reduceAdd, Nat.reduceMul, Nat.reduceLeDiff, e1, lenCls, cellCls, setCls, Nat.le_refl, g1, g2', e2], Puts.fr h f1⟩
  | true =>
    rw [g3] at e2
    by_cases g4 : total > size
    · rw [if_pos (.inr (.inr (.inr g4)))]
      exact ⟨S1, q, by simp only [zB, decide_true, decide_false, Bool.false_eq_true, if_false, if_true, List.getElem?_cons_zero, List.getElem?_cons_succ, beq_self_eq_true, bne_self_eq_false, Int.reduceBNe, Int.reduceBEq, Int.reduceLT, Int.reduceGT, Int.reduceLE, Int.reduceGE, Nat.reduceAdd, Nat.reduceMul, Nat.reduceLeDiff, e1, lenCls, cellCls, setCls, Nat.le_refl, g1, g2', e2, g4], Puts.fr h f1⟩
    · rw [if_neg (by simp only [not_or]; exact ⟨g1, g2, by simp, g4⟩)]
      have e3 := symbol_c hB (k + 2) (S := S1) total ones
      rcases symR_two total ones with g5 | g5
      · rw [if_neg (by simp [g5])]
        obtain ⟨r1, r2⟩ := symR_le g5
        obtain ⟨n, hn⟩ := Int.eq_ofNat_of_zero_le r1
        obtain ⟨c, rfl⟩ := Int.eq_ofNat_of_zero_le (show 0 ≤ class' by omega)
        have hc : c < 5 := by omega
        have c1 : (0 : Int) ≤ (c : Int) := by omega
        have c2 : (c : Int) < ((5 : Nat) : Int) := by omega
        rw [hn, g5] at e3
        have w1 : IntKind.wrap .u64 (n : Int) = (n : Int) := wu _ (by omega)
        obtain ⟨S2, q2, e4, h2⟩ := call_wr hB k (h.fr f1 (by simp) (by simp)) (n := n) (by omega) hb hc (q := S.next) (fun h => b1 c h)
        refine ⟨S2, q2, by simp only [zB, decide_true, decide_false, Bool.false_eq_true, if_false, if_true, List.getElem?_cons_zero, List.getElem?_cons_succ, beq_self_eq_true, bne_self_eq_false, Int.reduceBNe, Int.reduceBEq, Int.reduceLT, Int.reduceGT, Int.reduceLE, Int.reduceGE, Nat.reduceAdd, Nat.reduceMul, Nat.reduceLeDiff, e1, lenCls, cellCls, setCls, Nat.le_refl, g1, g2', e2, g4, e3, c1, c2, Int.toNat_natCast, cls_wr _ _ hc, w1, e4], ?_⟩
        have hp := (Puts.fr h f1)
        rw [List.append_nil] at hp
        rw [hn]
        simp only [Int.toNat_natCast]
        exact hp.trans h2
      · rw [if_pos (by simp [g5])]
        rw [g5] at e3
        exact ⟨S1, q, by simp only [zB, decide_true, decide_false, Bool.false_eq_true, if_false, if_true, List.getElem?_cons_zero, List.getElem?_cons_succ, beq_self_eq_true, bne_self_eq_false, Int.reduceBNe, Int.reduceBEq, Int.reduceLT, Int.reduceGT, Int.reduceLE, Int.reduceGE, Nat.reduceAdd, Nat.reduceMul, Nat.reduceLeDiff, e1, lenCls, cellCls, setCls, Nat.le_refl, g1, g2', e2, g4, e3], Puts.fr h f1⟩
end
end Go.Ab.tV
