/- The references of layers 1, 2 and 18: writers. No condition beyond what each lemma names. -/
import Derived.Test.YtfkmmiinlipcpaaVB6
set_option maxRecDepth 100000
set_option linter.unusedSimpArgs false
set_option linter.unusedVariables false
set_option linter.unusedSectionVars false
namespace Go.Ab.tV
open Go Go.Proofs

structure RX (S : Heap) (p q : Nat) (l : List Nat) : Prop where
  blk : S.blk p = some [if l = [] then .nils else .hs q 0 l.length 1]
  row : l ≠ [] → S.blk q = some (u8s l) ∧ q < S.next ∧ q ≠ p
  non : l = [] → q = p
  lt : p < S.next
/-- A writer of the reference at p, with its characters at q. -/
def RWr (S : Heap) (p q : Nat) (bs : List Bool) : Prop := RX S p q (bs.map bitC)
theorem RWr.fr {S T : Heap} {p q : Nat} {bs : List Bool} {l : List Nat} (h : RWr S p q bs) (f : Fr S T l) (hp : p ∉ l) (hq : q ∉ l) : RWr T p q bs :=
  ⟨(f.get h.lt hp).trans h.blk, fun h0 => ⟨(f.get (h.row h0).2.1 hq).trans (h.row h0).1, Nat.lt_of_lt_of_le (h.row h0).2.1 f.1, (h.row h0).2.2⟩, h.non, Nat.lt_of_lt_of_le h.lt f.1⟩
theorem RWr.lts {S : Heap} {p q : Nat} {bs : List Bool} (h : RWr S p q bs) : p < S.next ∧ q < S.next := by
  refine ⟨h.lt, ?_⟩
  by_cases h0 : bs.map bitC = []
  · rw [h.non h0]; exact h.lt
  · exact (h.row h0).2.1
def RPuts (S S' : Heap) (p q q' : Nat) (bs' : List Bool) : Prop := RWr S' p q' bs' ∧ Fr S S' [p, q] ∧ (q' = q ∨ S.next ≤ q')
theorem RPuts.trans {S T U : Heap} {p q q' q'' : Nat} {b c : List Bool} (h1 : RPuts S T p q q' b) (h2 : RPuts T U p q' q'' c) : RPuts S U p q q'' c := by
  refine ⟨h2.1, h1.2.1.trans h2.2.1 (fun j hj => ?_), ?_⟩
  · simp only [List.mem_cons, List.not_mem_nil, or_false] at hj ⊢
    rcases hj with rfl | rfl
    · exact .inl (.inl rfl)
    · rcases h1.2.2 with h | h
      · exact .inl (.inr h)
      · exact .inr h
  · have := h1.2.1.1
    rcases h2.2.2 with h | h
    · rw [h]; exact h1.2.2
    · exact .inr (by omega)
theorem RPuts.refl {S : Heap} {p q : Nat} {bs : List Bool} (h : RWr S p q bs) : RPuts S S p q q (bs ++ []) := ⟨by rw [List.append_nil]; exact h, Fr.refl _ _, .inl rfl⟩
theorem app1 {T : Heap} {q : Nat} {l : List Nat} (c : Nat) (hrow : l ≠ [] → T.blk q = some (u8s l) ∧ q < T.next) (hs : l.length ≤ 1000000000) :
    ∃ T', aAppend 1 1 (if l = [] then .nils else .hs q 0 l.length 1) (.is 1 [.int .u8 (c : Int)]) T = some (.hs T.next 0 (l.length + 1) 1, T') ∧ T'.blk T.next = some (u8s (l ++ [c])) ∧ T'.next = T.next + 1 ∧ T'.cx = T.cx ∧
      ∀ j, j ≠ T.next → (j ≠ q ∨ l = []) → T'.blk j = T.blk j := by
  have r0 : rowOf 1 (.is 1 [.int .u8 (c : Int)]) T = some (1, [.int .u8 (c : Int)]) := rfl
  have r1 : (1 : Nat) * 1 ≤ mostRoom := room64 (by omega)
  have r2 : (1 : Nat) ≤ mostRoom := room64 (by omega)
  unfold aAppend
  rw [r0]
  simp only
  unfold aAppendN
  rw [if_neg (by omega)]
  by_cases h0 : l = []
  · subst h0
    simp only [if_true, r1, r2, and_self, List.length_nil, Nat.zero_add]
    exact ⟨_, rfl, alloc_blk _ _, rfl, rfl, fun j hj _ => alloc_other _ _ hj⟩
  · obtain ⟨hb, hq⟩ := hrow h0
    have r7 : l.length + 1 ≤ mostRoom := room64 (by omega)
    have r8 : ([.int .u8 (c : Int)] : List AV).all cell = true := rfl
    simp only [if_neg h0, hb, u8s_len, Nat.zero_add, Nat.mul_one, Nat.le_refl, r7, r8, and_self, if_true, List.drop_zero]
    rw [List.take_of_length_le (by rw [u8s_len]; exact Nat.le_refl _)]
    refine ⟨_, rfl, by rw [u8s_app]; exact alloc_blk (T.set q none) _, rfl, rfl, fun j hj hjq => ?_⟩
    rcases hjq with h | h
    · rw [alloc_other _ _ (by rw [set_next]; exact hj), set_other _ _ h]
    · exact absurd h h0
theorem put1_0 {T : Heap} {p : Nat} {x a : AV} (h : T.blk p = some [a]) : putV (.ptr p 0) [x] T = some (T.set p (some [x])) := by rw [putV_p h (by simp)]; rfl
theorem lenL (l : List Nat) (q : Nat) : aLen Try.prog 103 (if l = [] then .nils else .hs q 0 l.length 1) = some (.int .i64 (l.length : Int)) := lenH l q
section
variable {B : CallF} (hB : Silent B) (k : Nat) {S : Heap} {p q : Nat} {bs : List Bool}
include hB
theorem write1_c : ∃ S', Cn B (k + 1) f_spindleref01_Write 0 [] S = some (.ptr S.next 0, S') ∧ RWr S' S.next S.next [] ∧ Fr S S' [] := by
  rw [c_spindleref01_Write _ _ _ (hB.no _ _ _ _ (kn_no (by decide))), T_spindleref01_Write]
  exact ⟨S.alloc [.nils], by simp only [zB, decide_true, decide_false, Bool.false_eq_true, if_false, if_true, List.getElem?_cons_zero, List.getElem?_cons_succ, beq_self_eq_true, bne_self_eq_false, Int.reduceBNe, Int.reduceBEq, Int.reduceLT, Int.reduceGT, Int.reduceLE, Int.reduceGE, Nat.reduceAdd, Nat.reduceMul, Nat.reduceLeDiff], ⟨alloc_blk _ _, fun h => absurd rfl h, fun _ => rfl, Nat.lt_succ_self _⟩, Fr.alloc _ _ _⟩
theorem wlen1_c (h : RWr S p q bs) : Cn B (k + 1) f_spindleref01_Writer_Len 0 [.ptr p 0] S = some (.int .i64 (bs.length : Int), S) := by
  rw [c_spindleref01_Writer_Len _ _ _ _ (hB.no _ _ _ _ (kn_no (by decide))), T_spindleref01_Writer_Len]
  have e := lenL (bs.map bitC) q
  rw [List.length_map] at e
  simp only [zB, decide_true, decide_false, Bool.false_eq_true, if_false, if_true, List.getElem?_cons_zero, List.getElem?_cons_succ, beq_self_eq_true, bne_self_eq_false, Int.reduceBNe, Int.reduceBEq, Int.reduceLT, Int.reduceGT, Int.reduceLE, Int.reduceGE, Nat.reduceAdd, Nat.reduceMul, Nat.reduceLeDiff, h.blk, List.length_map, e]
theorem wbits1_c (h : RWr S p q bs) : Cn B (k + 1) f_spindleref01_Writer_Bits 0 [.ptr p 0] S = some (.str (bitStr bs), S) := by
  rw [c_spindleref01_Writer_Bits _ _ _ _ (hB.no _ _ _ _ (kn_no (by decide))), T_spindleref01_Writer_Bits]
  have e1 : aB2S (if bs.map bitC = [] then .nils else .hs q 0 (bs.map bitC).length 1) S = some (bitStr bs) := by
    by_cases h0 : bs.map bitC = []
    · rw [if_pos h0]
      have : bs = [] := List.map_eq_nil_iff.1 h0
      subst this; rfl
    · rw [if_neg h0]
      exact b2s_hs (h.row h0).1 (fun x hx => by
        obtain ⟨b, _, rfl⟩ := List.mem_map.1 hx
        unfold bitC; split <;> omega)
  simp only [zB, decide_true, decide_false, Bool.false_eq_true, if_false, if_true, List.getElem?_cons_zero, List.getElem?_cons_succ, beq_self_eq_true, bne_self_eq_false, Int.reduceBNe, Int.reduceBEq, Int.reduceLT, Int.reduceGT, Int.reduceLE, Int.reduceGE, Nat.reduceAdd, Nat.reduceMul, Nat.reduceLeDiff, h.blk, e1]
theorem put1_c (h : RWr S p q bs) (n v : Nat) (hn : n ≤ 64) (hv : v < 2 ^ n) (hbs : bs.length ≤ 900000000) :
    ∃ S' q', Cn B (k + 1) f_spindleref01_Writer_Put 0 [.ptr p 0, .int .i64 (n : Int), .int .u64 (v : Int)] S = some (.int .i64 0, S') ∧ RPuts S S' p q q' (bs ++ bitsN n v) := by
  rw [c_spindleref01_Writer_Put _ _ _ _ _ _ (hB.no _ _ _ _ (kn_no (by decide))), T_spindleref01_Writer_Put]
  have hlt := h.lt
  have c1 : ¬ ((n : Int) < 0) := by omega
  have c2 : ¬ ((n : Int) > 64) := by omega
  have hv64 : v < 18446744073709551616 := by
    have : 2 ^ n ≤ 2 ^ 64 := Nat.pow_le_pow_right (by omega) hn
    omega
  have w0 : IntKind.wrap .u64 (n : Int) = (n : Int) := wu _ (by omega)
  have w1 : shrI .u64 (v : Int) (n : Int) = 0 := by rw [shr64 _ _ hn, Nat.div_eq_of_lt hv]; rfl
  have w2 : IntKind.wrap .i64 ((n : Int) - 1) = (n : Int) - 1 := wr _ (by omega)
  by_cases c3 : (n : Int) < 64
  all_goals
    simp only [zB, decide_true, decide_false, Bool.false_eq_true, if_false, if_true, List.getElem?_cons_zero, List.getElem?_cons_succ, beq_self_eq_true, bne_self_eq_false, Int.reduceBNe, Int.reduceBEq, Int.reduceLT, Int.reduceGT, Int.reduceLE, Int.reduceGE, Nat.reduceAdd, Nat.reduceMul, Nat.reduceLeDiff, c1, c2, c3, w0, aShr, w1, w2]
    refine loop_meas (fun o => ∃ S' q', o = some (AV.int .i64 0, S') ∧ RPuts S S' p q q' (bs ++ bitsN n v))
      (fun m st => ∃ (q1 : Nat) (T : Heap), m ≤ n ∧ st = ([.ptr p 0, .int .u64 (v : Int), .int .i64 ((m : Int) - 1)], T) ∧ RPuts S T p q q1 (bs ++ (bitsN n v).take (n - m))) n
      ⟨q, S, Nat.le_refl _, rfl, by rw [Nat.sub_self, List.take_zero]; exact RPuts.refl h⟩ ?_
    rintro m st ⟨q1, T, hm, rfl, hT, hF, hq1⟩
    cases m with
    | zero =>
      have c4 : ¬ (((0 : Nat) : Int) - 1 ≥ 0) := by omega
      rw [Nat.sub_zero, List.take_of_length_le (by rw [bitsN_len]; exact Nat.le_refl _)] at hT
      exact .inl ⟨(0, [], T), by simp only [zB, decide_true, decide_false, Bool.false_eq_true, if_false, if_true, List.getElem?_cons_zero, List.getElem?_cons_succ, beq_self_eq_true, bne_self_eq_false, Int.reduceBNe, Int.reduceBEq, Int.reduceLT, Int.reduceGT, Int.reduceLE, Int.reduceGE, Nat.reduceAdd, Nat.reduceMul, Nat.reduceLeDiff, c4], T, q1, by simp only [zB, decide_true, decide_false, Bool.false_eq_true, if_false, if_true, List.getElem?_cons_zero, List.getElem?_cons_succ, beq_self_eq_true, bne_self_eq_false, Int.reduceBNe, Int.reduceBEq, Int.reduceLT, Int.reduceGT, Int.reduceLE, Int.reduceGE, Nat.reduceAdd, Nat.reduceMul, Nat.reduceLeDiff, sel], hT, hF, hq1⟩
    | succ m =>
      have hm1 : ((m + 1 : Nat) : Int) - 1 = (m : Int) := by omega
      have c4 : (m : Int) ≥ 0 := by omega
      have w3 : IntKind.wrap .i64 ((m : Int) - 1) = (m : Int) - 1 := wr _ (by omega)
      have w30 : IntKind.wrap .u64 (m : Int) = (m : Int) := wu _ (by omega)
      obtain ⟨b, hb⟩ : ∃ b, b = v / 2 ^ m % 2 := ⟨_, rfl⟩
      have hb2 : b < 2 := by rw [hb]; exact Nat.mod_lt _ (by omega)
      have hdv : v / 2 ^ m < 18446744073709551616 := Nat.lt_of_le_of_lt (Nat.div_le_self _ _) hv64
      have w4 : andI .u64 (shrI .u64 (v : Int) (m : Int)) 1 = (b : Int) := by
        rw [shr64 _ _ (by omega)]
        have := and64 (v / 2 ^ m) 1 hdv (by omega)
        rw [Nat.and_one_is_mod, ← hb] at this
        exact this
      have w5 : IntKind.wrap .u8 (IntKind.wrap .u64 (48 + (b : Int))) = ((bitC (b == 1) : Nat) : Int) := by
        rw [wu _ (by omega), wb _ (by omega)]
        have : b = 0 ∨ b = 1 := by omega
        rcases this with rfl | rfl <;> rfl
      have hll : ((bs ++ (bitsN n v).take (n - (m + 1))).map bitC).length ≤ 1000000000 := by
        simp only [List.length_map, List.length_append, List.length_take, bitsN_len]; omega
      obtain ⟨T', e1, b1, n1, x1, o1⟩ := app1 (q := q1) (l := (bs ++ (bitsN n v).take (n - (m + 1))).map bitC) (bitC (b == 1)) (fun h0 => ⟨(hT.row h0).1, (hT.row h0).2.1⟩) hll
      have hTlt := hT.lt
      have hFn := hF.1
      have hp' : T'.blk p = T.blk p := o1 p (by omega) (by
        by_cases h0 : (bs ++ (bitsN n v).take (n - (m + 1))).map bitC = []
        · exact .inr h0
        · exact .inl (Ne.symm (hT.row h0).2.2))
      rw [hT.blk] at hp'
      have e2 := put1_0 (x := .hs T.next 0 (((bs ++ (bitsN n v).take (n - (m + 1))).map bitC).length + 1) 1) hp'
      have hcell : cell (.hs T.next 0 (((bs ++ (bitsN n v).take (n - (m + 1))).map bitC).length + 1) 1) = true := rfl
      have hnew : (bs ++ (bitsN n v).take (n - m)).map bitC = (bs ++ (bitsN n v).take (n - (m + 1))).map bitC ++ [bitC (b == 1)] := by
        rw [show n - m = n - (m + 1) + 1 by omega, bitsN_take _ _ _ (by omega), ← List.append_assoc, List.map_append, show n - 1 - (n - (m + 1)) = m by omega, ← hb]; rfl
      refine .inr ⟨m, ([.ptr p 0, .int .u64 (v : Int), .int .i64 ((m : Int) - 1)], T'.set p (some [.hs T.next 0 (((bs ++ (bitsN n v).take (n - (m + 1))).map bitC).length + 1) 1])), by omega,
        by simp only [zB, decide_true, decide_false, Bool.false_eq_true, if_false, if_true, List.getElem?_cons_zero, List.getElem?_cons_succ, beq_self_eq_true, bne_self_eq_false, Int.reduceBNe, Int.reduceBEq, Int.reduceLT, Int.reduceGT, Int.reduceLE, Int.reduceGE, Nat.reduceAdd, Nat.reduceMul, Nat.reduceLeDiff, hm1, c4, hT.blk, w30, aShr, w4, w5, e1, hcell, List.all_cons, List.all_nil, e2, w3], T.next, _, by omega, rfl, ⟨?_, fun _ => ⟨?_, by rw [set_next]; omega, by omega⟩, fun h0 => ?_, by rw [set_next]; omega⟩, ⟨by rw [set_next]; omega, ?_, fun j hj hn => ?_⟩, .inr (by omega)⟩
      · rw [set_blk, hnew, if_neg (by simp), List.length_append]; rfl
      · rw [set_other _ _ (by omega), b1, hnew]
      · rw [hnew] at h0; simp at h0
      · show T'.cx = S.cx
        rw [x1]; exact hF.2.1
      · simp only [List.mem_cons, List.not_mem_nil, or_false, not_or] at hn
        rw [set_other _ _ hn.1, o1 j (by omega) ?_]
        · exact hF.2.2 j hj (by simp [hn.1, hn.2])
        · rcases hq1 with h | h
          · exact .inl (by rw [h]; exact hn.2)
          · exact .inl (by omega)
theorem putue1_c (h : RWr S p q bs) (v : Nat) (hv : v ≤ 4294967294) (hb : bs.length ≤ 800000000) :
    ∃ S' q', Cn B (k + 2) f_spindleref02_PutUe 0 [.ptr p 0, .int .u64 (v : Int)] S = some (.int .i64 0, S') ∧ RPuts S S' p q q' (bs ++ ueC v) := by
  rw [c_spindleref02_PutUe _ _ _ _ _ (hB.no _ _ _ _ (kn_no (by decide))), T_spindleref02_PutUe]
  have c1 : ¬ ((v : Int) > 4294967294) := by omega
  have w1 : IntKind.wrap .u64 ((v : Int) + 1) = ((v + 1 : Nat) : Int) := by rw [wu _ (by omega)]; omega
  obtain ⟨h1, h2, h3⟩ := L2_spec (x := v + 1) (by omega)
  have h4 := L2_le (v := v + 1) (by omega)
  obtain ⟨g, hg⟩ : ∃ g, g = L2 (v + 1) - 1 := ⟨_, rfl⟩
  rw [← hg] at h1
  rw [show L2 (v + 1) = g + 1 by omega] at h2
  simp only [zB, decide_true, decide_false, Bool.false_eq_true, if_false, if_true, List.getElem?_cons_zero, List.getElem?_cons_succ, beq_self_eq_true, bne_self_eq_false, Int.reduceBNe, Int.reduceBEq, Int.reduceLT, Int.reduceGT, Int.reduceLE, Int.reduceGE, Nat.reduceAdd, Nat.reduceMul, Nat.reduceLeDiff, c1]
  refine loop_meas (fun o => ∃ S' q', o = some (AV.int .i64 0, S') ∧ RPuts S S' p q q' (bs ++ ueC v))
    (fun m st => ∃ i, i + m = g ∧ st = ([.ptr p 0, .int .u64 (v : Int), .int .i64 (i : Int)], S)) g ⟨0, by omega, rfl⟩ ?_
  rintro m st ⟨i, him, rfl⟩
  have w2 : IntKind.wrap .u64 (IntKind.wrap .i64 ((i : Int) + 1)) = ((i + 1 : Nat) : Int) := by rw [wr _ (by omega), wu _ (by omega)]; omega
  have hp33 : 2 ^ (i + 1) ≤ 2 ^ 33 := Nat.pow_le_pow_right (by omega) (by omega)
  have w3 : shlI .u64 1 ((i + 1 : Nat) : Int) = ((2 ^ (i + 1) : Nat) : Int) := by
    have := shl64 1 (i + 1) (by omega) (by omega)
    rw [Nat.one_mul] at this
    exact this
  have w4 : IntKind.wrap .i64 ((i : Int) + 1) = ((i + 1 : Nat) : Int) := by rw [wr _ (by omega)]; omega
  have w5 : IntKind.wrap .u64 ((i + 1 : Nat) : Int) = ((i + 1 : Nat) : Int) := wu _ (by omega)
  cases m with
  | zero =>
    have hi : i = g := by omega
    subst hi
    have c2 : ¬ (((2 ^ (i + 1) : Nat) : Int) ≤ ((v + 1 : Nat) : Int)) := by omega
    refine .inl ⟨(0, [.ptr p 0, .int .u64 (v : Int), .int .i64 (i : Int)], S), by simp only [zB, decide_true, decide_false, Bool.false_eq_true, if_false, if_true, List.getElem?_cons_zero, List.getElem?_cons_succ, beq_self_eq_true, bne_self_eq_false, Int.reduceBNe, Int.reduceBEq, Int.reduceLT, Int.reduceGT, Int.reduceLE, Int.reduceGE, Nat.reduceAdd, Nat.reduceMul, Nat.reduceLeDiff, w4, w5, aShl, w3, w1, c2], ?_⟩
    obtain ⟨S1, q1, e1, r1⟩ := put1_c hB k h i 0 (by omega) (Nat.pow_pos (by omega)) (by omega)
    obtain ⟨S2, q2, e2, r2⟩ := put1_c hB k r1.1 (i + 1) (v + 1) (by omega) (by omega) (by rw [List.length_append, bitsN_len]; omega)
    rw [Int.natCast_zero] at e1
    refine ⟨S2, q2, by simp only [zB, decide_true, decide_false, Bool.false_eq_true, if_false, if_true, List.getElem?_cons_zero, List.getElem?_cons_succ, beq_self_eq_true, bne_self_eq_false, Int.reduceBNe, Int.reduceBEq, Int.reduceLT, Int.reduceGT, Int.reduceLE, Int.reduceGE, Nat.reduceAdd, Nat.reduceMul, Nat.reduceLeDiff, sel, e1, w4, w1, e2], ?_⟩
    have hu : ueC v = bitsN i 0 ++ bitsN (i + 1) (v + 1) := by
      unfold ueC
      rw [show 2 * L2 (v + 1) - 1 = i + (i + 1) by omega, bitsN_add, Nat.div_eq_of_lt h2]
    rw [hu, ← List.append_assoc]
    exact r1.trans r2
  | succ m =>
    have hp : 2 ^ (i + 1) ≤ 2 ^ g := Nat.pow_le_pow_right (by omega) (by omega)
    have c2 : ((2 ^ (i + 1) : Nat) : Int) ≤ ((v + 1 : Nat) : Int) := by omega
    exact .inr ⟨m, ([.ptr p 0, .int .u64 (v : Int), .int .i64 ((i + 1 : Nat) : Int)], S), by omega, by simp only [zB, decide_true, decide_false, Bool.false_eq_true, if_false, if_true, List.getElem?_cons_zero, List.getElem?_cons_succ, beq_self_eq_true, bne_self_eq_false, Int.reduceBNe, Int.reduceBEq, Int.reduceLT, Int.reduceGT, Int.reduceLE, Int.reduceGE, Nat.reduceAdd, Nat.reduceMul, Nat.reduceLeDiff, w4, w5, aShl, w3, w1, c2], i + 1, by omega, rfl⟩
theorem putuk1_c (h : RWr S p q bs) (n v : Nat) (hn : n ≤ 8) (hv : v ≤ 4294967294) (hb : bs.length ≤ 700000000) :
    ∃ S' q', Cn B (k + 3) f_spindleref02_PutUk 0 [.ptr p 0, .int .i64 (n : Int), .int .u64 (v : Int)] S = some (.int .i64 0, S') ∧ RPuts S S' p q q' (bs ++ ukC n v) := by
  rw [c_spindleref02_PutUk _ _ _ _ _ _ (hB.no _ _ _ _ (kn_no (by decide))), T_spindleref02_PutUk]
  have c1 : ¬ ((n : Int) < 0) := by omega
  have c2 : ¬ ((n : Int) > 8) := by omega
  have hd : v / 2 ^ n ≤ v := Nat.div_le_self _ _
  have w0 : IntKind.wrap .u64 (n : Int) = (n : Int) := wu _ (by omega)
  have w1 := shr64 v n (by omega)
  have c3 : ¬ (((v / 2 ^ n : Nat) : Int) > 4294967294) := by omega
  obtain ⟨S1, q1, e1, h1⟩ := putue1_c hB k h (v / 2 ^ n) (by omega) (by omega)
  have hp8 : 2 ^ n ≤ 2 ^ 8 := Nat.pow_le_pow_right (by omega) hn
  have hp0 : 0 < 2 ^ n := Nat.pow_pos (by omega)
  have w2 : shlI .u64 1 (n : Int) = ((2 ^ n : Nat) : Int) := by
    have := shl64 1 n (by omega) (by omega)
    rw [Nat.one_mul] at this
    exact this
  have w3 : aInt .rem .u64 (v : Int) ((2 ^ n : Nat) : Int) = some (.int .u64 ((v % 2 ^ n : Nat) : Int)) := by
    have h0 : ¬ (((2 ^ n : Nat) : Int) = 0) := by omega
    simp only [aInt, if_neg h0]; rfl
  have hl := ueC_len (v / 2 ^ n)
  have hl2 := L2_le (v := v / 2 ^ n + 1) (by omega)
  obtain ⟨S2, q2, e2, h2⟩ := put1_c hB (k + 1) h1.1 n (v % 2 ^ n) (by omega) (Nat.mod_lt _ hp0) (by rw [List.length_append]; omega)
  rw [List.append_assoc] at h2
  exact ⟨S2, q2, by simp only [zB, decide_true, decide_false, Bool.false_eq_true, if_false, if_true, List.getElem?_cons_zero, List.getElem?_cons_succ, beq_self_eq_true, bne_self_eq_false, Int.reduceBNe, Int.reduceBEq, Int.reduceLT, Int.reduceGT, Int.reduceLE, Int.reduceGE, Nat.reduceAdd, Nat.reduceMul, Nat.reduceLeDiff, c1, c2, w0, aShr, w1, c3, e1, aShl, w2, w3, e2], h1.trans h2⟩
theorem puttoken1_c (h : RWr S p q bs) (hb : bs.length ≤ 600000000) (class' size total ones : Int) :
    ∃ S' q', Cn B (k + 4) f_spindleref18_PutToken 0 [.ptr p 0, .int .i64 class', .int .i64 size, .int .i64 total, .int .i64 ones] S = some (.int .i64 (tokP class' size total ones).1, S') ∧ RPuts S S' p q q' (bs ++ (tokP class' size total ones).2) := by
  rw [c_spindleref18_PutToken _ _ _ _ _ _ _ _ (hB.no _ _ _ _ (kn_no (by decide))), T_spindleref18_PutToken]
  have hR := RPuts.refl h
  unfold tokP
  by_cases g1 : class' < 0
  · rw [if_pos (.inl g1)]; exact ⟨S, q, by simp only [zB, decide_true, decide_false, Bool.false_eq_true, if_false, if_true, List.getElem?_cons_zero, List.getElem?_cons_succ, beq_self_eq_true, bne_self_eq_false, Int.reduceBNe, Int.reduceBEq, Int.reduceLT, Int.reduceGT, Int.reduceLE, Int.reduceGE, Nat.reduceAdd, Nat.reduceMul, Nat.reduceLeDiff, g1], hR⟩
  by_cases g2 : class' > 4
  · rw [if_pos (.inr (.inl g2))]; exact ⟨S, q, by simp only [zB, decide_true, decide_false, Bool.false_eq_true, if_false, if_true, List.getElem?_cons_zero, List.getElem?_cons_succ, beq_self_eq_true, bne_self_eq_false, Int.reduceBNe, Int.reduceBEq, Int.reduceLT, Int.reduceGT, Int.reduceLE, Int.reduceGE, Nat.reduceAdd, Nat.reduceMul, Nat.reduceLeDiff, g1, g2], hR⟩
  have e2 := sized1_c hB (k + 2) (S := S) size
  cases g3 : sizedI size with
  | false =>
    rw [if_pos (.inr (.inr (.inl rfl)))]
    rw [g3] at e2
    exact ⟨S, q, by simp only [zB, decide_true, decide_false, Bool.false_eq_true, if_false, if_true, List.getElem?_cons_zero, List.getElem?_cons_succ, beq_self_eq_true, bne_self_eq_false, Int.reduceBNe, Int.reduceBEq, Int.reduceLT, Int.reduceGT, Int.reduceLE, Int.reduceGE, Nat.reduceAdd, Nat.reduceMul, Nat.reduceLeDiff, g1, g2, e2], hR⟩
  | true =>
    rw [g3] at e2
    have e3 := symbol1_c hB (k + 2) (S := S) total ones
    rcases symR_two total ones with g5 | g5
    · obtain ⟨r1, r2⟩ := symR_le g5
      obtain ⟨n, hn⟩ := Int.eq_ofNat_of_zero_le r1
      rw [hn, g5] at e3
      by_cases g4 : total > size
      · rw [if_pos (.inr (.inr (.inr g4)))]
        exact ⟨S, q, by simp only [zB, decide_true, decide_false, Bool.false_eq_true, if_false, if_true, List.getElem?_cons_zero, List.getElem?_cons_succ, beq_self_eq_true, bne_self_eq_false, Int.reduceBNe, Int.reduceBEq, Int.reduceLT, Int.reduceGT, Int.reduceLE, Int.reduceGE, Nat.reduceAdd, Nat.reduceMul, Nat.reduceLeDiff, g1, g2, e2, e3, g4], hR⟩
      · rw [if_neg (by simp only [not_or]; exact ⟨g1, g2, by simp, g4⟩), if_neg (by simp [g5])]
        obtain ⟨c, rfl⟩ := Int.eq_ofNat_of_zero_le (show 0 ≤ class' by omega)
        have w1 : IntKind.wrap .u64 (n : Int) = (n : Int) := wu _ (by omega)
        rw [hn]
        simp only [Int.toNat_natCast]
        unfold clsC
        by_cases h3 : c = 3
        · subst h3
          rw [if_pos rfl]
          have c1 : (((3 : Nat) : Int) == 3) = true := rfl
          obtain ⟨S1, q1, e4, h1⟩ := put1_c hB (k + 2) h 6 n (by omega) (by omega) (by omega)
          rw [show (((6 : Nat)) : Int) = 6 from rfl] at e4
          exact ⟨S1, q1, by simp only [zB, decide_true, decide_false, Bool.false_eq_true, if_false, if_true, List.getElem?_cons_zero, List.getElem?_cons_succ, beq_self_eq_true, bne_self_eq_false, Int.reduceBNe, Int.reduceBEq, Int.reduceLT, Int.reduceGT, Int.reduceLE, Int.reduceGE, Nat.reduceAdd, Nat.reduceMul, Nat.reduceLeDiff, g1, g2, e2, e3, g4, c1, w1, e4], h1⟩
        · rw [if_neg h3]
          have c1 : ((c : Int) == 3) = false := by simp; omega
          have w2 : Int.tmod (c : Int) 4 = ((c % 4 : Nat) : Int) := rfl
          obtain ⟨S1, q1, e4, h1⟩ := putuk1_c hB k h (c % 4) n (by omega) (by omega) (by omega)
          exact ⟨S1, q1, by simp only [zB, decide_true, decide_false, Bool.false_eq_true, if_false, if_true, List.getElem?_cons_zero, List.getElem?_cons_succ, beq_self_eq_true, bne_self_eq_false, Int.reduceBNe, Int.reduceBEq, Int.reduceLT, Int.reduceGT, Int.reduceLE, Int.reduceGE, Nat.reduceAdd, Nat.reduceMul, Nat.reduceLeDiff, g1, g2, e2, e3, g4, c1, w1, w2, e4], h1⟩
    · rw [g5] at e3
      by_cases g4 : total > size
      · rw [if_pos (.inr (.inr (.inr g4)))]
        exact ⟨S, q, by simp only [zB, decide_true, decide_false, Bool.false_eq_true, if_false, if_true, List.getElem?_cons_zero, List.getElem?_cons_succ, beq_self_eq_true, bne_self_eq_false, Int.reduceBNe, Int.reduceBEq, Int.reduceLT, Int.reduceGT, Int.reduceLE, Int.reduceGE, Nat.reduceAdd, Nat.reduceMul, Nat.reduceLeDiff, g1, g2, e2, e3], hR⟩
      · rw [if_neg (by simp only [not_or]; exact ⟨g1, g2, by simp, g4⟩), if_pos (by simp [g5])]
        exact ⟨S, q, by simp only [zB, decide_true, decide_false, Bool.false_eq_true, if_false, if_true, List.getElem?_cons_zero, List.getElem?_cons_succ, beq_self_eq_true, bne_self_eq_false, Int.reduceBNe, Int.reduceBEq, Int.reduceLT, Int.reduceGT, Int.reduceLE, Int.reduceGE, Nat.reduceAdd, Nat.reduceMul, Nat.reduceLeDiff, g1, g2, e2, e3], hR⟩
theorem putzeros1_c (h : RWr S p q bs) (hb : bs.length ≤ 800000000) (size total zeros : Int) :
    ∃ S' q', Cn B (k + 2) f_spindleref18_PutZeros 0 [.ptr p 0, .int .i64 size, .int .i64 total, .int .i64 zeros] S = some (.int .i64 (zerP size total zeros).1, S') ∧ RPuts S S' p q q' (bs ++ (zerP size total zeros).2) := by
  rw [c_spindleref18_PutZeros _ _ _ _ _ _ _ (hB.no _ _ _ _ (kn_no (by decide))), T_spindleref18_PutZeros]
  have e1 := sized1_c hB k (S := S) size
  have hR := RPuts.refl h
  unfold zerP
  cases g1 : sizedI size with
  | false =>
    rw [if_pos (.inl rfl)]; rw [g1] at e1
    exact ⟨S, q, by simp only [zB, decide_true, decide_false, Bool.false_eq_true, if_false, if_true, List.getElem?_cons_zero, List.getElem?_cons_succ, beq_self_eq_true, bne_self_eq_false, Int.reduceBNe, Int.reduceBEq, Int.reduceLT, Int.reduceGT, Int.reduceLE, Int.reduceGE, Nat.reduceAdd, Nat.reduceMul, Nat.reduceLeDiff, e1], hR⟩
  | true =>
    rw [g1] at e1
    have hs := (sizedI_iff size).1 g1
    by_cases g2 : total < 1
    · rw [if_pos (.inr (.inl g2))]; exact ⟨S, q, by simp only [zB, decide_true, decide_false, Bool.false_eq_true, if_false, if_true, List.getElem?_cons_zero, List.getElem?_cons_succ, beq_self_eq_true, bne_self_eq_false, Int.reduceBNe, Int.reduceBEq, Int.reduceLT, Int.reduceGT, Int.reduceLE, Int.reduceGE, Nat.reduceAdd, Nat.reduceMul, Nat.reduceLeDiff, e1, g2], hR⟩
    by_cases g3 : total > size
    · rw [if_pos (.inr (.inr (.inl g3)))]; exact ⟨S, q, by simp only [zB, decide_true, decide_false, Bool.false_eq_true, if_false, if_true, List.getElem?_cons_zero, List.getElem?_cons_succ, beq_self_eq_true, bne_self_eq_false, Int.reduceBNe, Int.reduceBEq, Int.reduceLT, Int.reduceGT, Int.reduceLE, Int.reduceGE, Nat.reduceAdd, Nat.reduceMul, Nat.reduceLeDiff, e1, g2, g3], hR⟩
    by_cases g4 : zeros < 0
    · rw [if_pos (.inr (.inr (.inr (.inl g4))))]; exact ⟨S, q, by simp only [zB, decide_true, decide_false, Bool.false_eq_true, if_false, if_true, List.getElem?_cons_zero, List.getElem?_cons_succ, beq_self_eq_true, bne_self_eq_false, Int.reduceBNe, Int.reduceBEq, Int.reduceLT, Int.reduceGT, Int.reduceLE, Int.reduceGE, Nat.reduceAdd, Nat.reduceMul, Nat.reduceLeDiff, e1, g2, g3, g4], hR⟩
    have w1 : IntKind.wrap .i64 (size - total) = size - total := wr _ (by omega)
    by_cases g5 : zeros > size - total
    · rw [if_pos (.inr (.inr (.inr (.inr g5))))]; exact ⟨S, q, by simp only [zB, decide_true, decide_false, Bool.false_eq_true, if_false, if_true, List.getElem?_cons_zero, List.getElem?_cons_succ, beq_self_eq_true, bne_self_eq_false, Int.reduceBNe, Int.reduceBEq, Int.reduceLT, Int.reduceGT, Int.reduceLE, Int.reduceGE, Nat.reduceAdd, Nat.reduceMul, Nat.reduceLeDiff, e1, g2, g3, g4, w1, g5], hR⟩
    rw [if_neg (by simp only [not_or]; exact ⟨by simp, g2, g3, g4, g5⟩)]
    obtain ⟨m, hm⟩ := Int.eq_ofNat_of_zero_le (show 0 ≤ size - total by omega)
    obtain ⟨z, rfl⟩ := Int.eq_ofNat_of_zero_le (show 0 ≤ zeros by omega)
    rw [hm] at w1 g5
    have hm15 : m ≤ 15 := by omega
    have e2 := cut1_c hB (k + 1) (S := S) m hm15
    obtain ⟨f1, f2, f3, f4, f5, f6⟩ := cut_facts ⟨m, by omega⟩
    simp only at f1 f2 f3 f4 f5 f6
    have hz : z ≤ m := by omega
    rw [hm]
    simp only [Int.toNat_natCast]
    by_cases g6 : z < cutD m
    · rw [if_pos g6]
      have c2 : (z : Int) < ((cutD m : Nat) : Int) := by omega
      have w2 : IntKind.wrap .u64 (z : Int) = (z : Int) := wu _ (by omega)
      obtain ⟨S', q', e3, h3⟩ := put1_c hB k h (cutB m) z (by omega) (by omega) (by omega)
      exact ⟨S', q', by simp only [zB, decide_true, decide_false, Bool.false_eq_true, if_false, if_true, List.getElem?_cons_zero, List.getElem?_cons_succ, beq_self_eq_true, bne_self_eq_false, Int.reduceBNe, Int.reduceBEq, Int.reduceLT, Int.reduceGT, Int.reduceLE, Int.reduceGE, Nat.reduceAdd, Nat.reduceMul, Nat.reduceLeDiff, e1, g2, g3, g4, hm, w1, g5, e2, c2, w2, e3], h3⟩
    · rw [if_neg g6]
      have c2 : ¬ (z : Int) < ((cutD m : Nat) : Int) := by omega
      have w2 : IntKind.wrap .i64 ((z : Int) + ((cutD m : Nat) : Int)) = ((z + cutD m : Nat) : Int) := by rw [wr _ (by omega)]; omega
      have w3 : IntKind.wrap .u64 ((z + cutD m : Nat) : Int) = ((z + cutD m : Nat) : Int) := wu _ (by omega)
      have w4 : IntKind.wrap .i64 ((cutB m : Int) + 1) = ((cutB m + 1 : Nat) : Int) := by rw [wr _ (by omega)]; omega
      obtain ⟨S', q', e3, h3⟩ := put1_c hB k h (cutB m + 1) (z + cutD m) (by omega) (by omega) (by omega)
      exact ⟨S', q', by simp only [zB, decide_true, decide_false, Bool.false_eq_true, if_false, if_true, List.getElem?_cons_zero, List.getElem?_cons_succ, beq_self_eq_true, bne_self_eq_false, Int.reduceBNe, Int.reduceBEq, Int.reduceLT, Int.reduceGT, Int.reduceLE, Int.reduceGE, Nat.reduceAdd, Nat.reduceMul, Nat.reduceLeDiff, e1, g2, g3, g4, hm, w1, g5, e2, c2, w2, w3, w4, e3], h3⟩
theorem putrun1_c (h : RWr S p q bs) (hb : bs.length ≤ 800000000) (left run : Int) :
    ∃ S' q', Cn B (k + 2) f_spindleref18_PutRun 0 [.ptr p 0, .int .i64 left, .int .i64 run] S = some (.int .i64 (runP left run).1, S') ∧ RPuts S S' p q q' (bs ++ (runP left run).2) := by
  rw [c_spindleref18_PutRun _ _ _ _ _ _ (hB.no _ _ _ _ (kn_no (by decide))), T_spindleref18_PutRun]
  have hR := RPuts.refl h
  unfold runP
  by_cases g1 : left < 0
  · rw [if_pos (.inl g1)]; exact ⟨S, q, by simp only [zB, decide_true, decide_false, Bool.false_eq_true, if_false, if_true, List.getElem?_cons_zero, List.getElem?_cons_succ, beq_self_eq_true, bne_self_eq_false, Int.reduceBNe, Int.reduceBEq, Int.reduceLT, Int.reduceGT, Int.reduceLE, Int.reduceGE, Nat.reduceAdd, Nat.reduceMul, Nat.reduceLeDiff, g1], hR⟩
  by_cases g2 : left > 15
  · rw [if_pos (.inr (.inl g2))]; exact ⟨S, q, by simp only [zB, decide_true, decide_false, Bool.false_eq_true, if_false, if_true, List.getElem?_cons_zero, List.getElem?_cons_succ, beq_self_eq_true, bne_self_eq_false, Int.reduceBNe, Int.reduceBEq, Int.reduceLT, Int.reduceGT, Int.reduceLE, Int.reduceGE, Nat.reduceAdd, Nat.reduceMul, Nat.reduceLeDiff, g1, g2], hR⟩
  by_cases g3 : run < 0
  · rw [if_pos (.inr (.inr (.inl g3)))]; exact ⟨S, q, by simp only [zB, decide_true, decide_false, Bool.false_eq_true, if_false, if_true, List.getElem?_cons_zero, List.getElem?_cons_succ, beq_self_eq_true, bne_self_eq_false, Int.reduceBNe, Int.reduceBEq, Int.reduceLT, Int.reduceGT, Int.reduceLE, Int.reduceGE, Nat.reduceAdd, Nat.reduceMul, Nat.reduceLeDiff, g1, g2, g3], hR⟩
  by_cases g4 : run > left
  · rw [if_pos (.inr (.inr (.inr g4)))]; exact ⟨S, q, by simp only [zB, decide_true, decide_false, Bool.false_eq_true, if_false, if_true, List.getElem?_cons_zero, List.getElem?_cons_succ, beq_self_eq_true, bne_self_eq_false, Int.reduceBNe, Int.reduceBEq, Int.reduceLT, Int.reduceGT, Int.reduceLE, Int.reduceGE, Nat.reduceAdd, Nat.reduceMul, Nat.reduceLeDiff, g1, g2, g3, g4], hR⟩
  rw [if_neg (by simp only [not_or]; exact ⟨g1, g2, g3, g4⟩)]
  obtain ⟨l, rfl⟩ := Int.eq_ofNat_of_zero_le (show 0 ≤ left by omega)
  obtain ⟨r, rfl⟩ := Int.eq_ofNat_of_zero_le (show 0 ≤ run by omega)
  simp only [Int.toNat_natCast]
  obtain ⟨S1, q1, e1, h1⟩ := put1_c hB k h r 0 (by omega) (Nat.pow_pos (by omega)) (by omega)
  rw [Int.natCast_zero] at e1
  by_cases g5 : (r : Int) = l
  · rw [if_pos g5]
    have c1 : ¬ ((r : Int) < (l : Int)) := by omega
    exact ⟨S1, q1, by simp only [zB, decide_true, decide_false, Bool.false_eq_true, if_false, if_true, List.getElem?_cons_zero, List.getElem?_cons_succ, beq_self_eq_true, bne_self_eq_false, Int.reduceBNe, Int.reduceBEq, Int.reduceLT, Int.reduceGT, Int.reduceLE, Int.reduceGE, Nat.reduceAdd, Nat.reduceMul, Nat.reduceLeDiff, g1, g2, g3, g4, e1, c1], h1⟩
  · rw [if_neg g5]
    have c1 : (r : Int) < (l : Int) := by omega
    obtain ⟨S2, q2, e2, h2⟩ := put1_c hB k h1.1 1 1 (by omega) (by omega) (by rw [List.length_append, bitsN_len]; omega)
    rw [Int.natCast_one] at e2
    refine ⟨S2, q2, by simp only [zB, decide_true, decide_false, Bool.false_eq_true, if_false, if_true, List.getElem?_cons_zero, List.getElem?_cons_succ, beq_self_eq_true, bne_self_eq_false, Int.reduceBNe, Int.reduceBEq, Int.reduceLT, Int.reduceGT, Int.reduceLE, Int.reduceGE, Nat.reduceAdd, Nat.reduceMul, Nat.reduceLeDiff, g1, g2, g3, g4, e1, c1, e2], ?_⟩
    rw [bitsN_add r 1 1, ← List.append_assoc]
    exact h1.trans h2
end
end Go.Ab.tV
