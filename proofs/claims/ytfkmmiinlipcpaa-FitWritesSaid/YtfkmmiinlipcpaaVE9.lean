/- Rows of numbers copied and compared; the statements FitBlocks and VblockWrites. -/
import Derived.Test.YtfkmmiinlipcpaaVE8
set_option maxRecDepth 100000
set_option linter.unusedSimpArgs false
set_option linter.unusedVariables false
set_option linter.unusedSectionVars false
namespace Go.Ab.tV
open Go Go.Proofs

theorem lvsP_len : ∀ (L : List Int) (k s : Nat) (b : List Bool), k ≤ 6 → lvsP k s L = some b → b.length ≤ 28 * L.length
  | [], k, s, b, hk, h => by rw [lvsP_nil] at h; rw [← Option.some.inj h]; simp
  | v :: L, k, s, b, hk, h => by
    simp only [lvsP] at h
    cases hb : lvC k s v with
    | none => rw [hb] at h; cases h
    | some c =>
      rw [hb] at h
      simp only [Option.map_eq_some_iff] at h
      obtain ⟨d, h1, rfl⟩ := h
      have h2 := lvsP_len L _ _ d (aft_le hk _).1 h1
      have h3 := lvC_len hk hb
      simp only [List.length_append, List.length_cons]; omega
theorem runsP_len : ∀ (M : List Nat) (z : Nat), (runsP z M).length ≤ 80 * M.length
  | [], z => by simp [runsP]
  | n :: M, z => by
    have h1 := runsP_len M (z - n)
    have h2 := runP_len (z : Int) (n : Int)
    simp only [runsP, List.length_append, List.length_cons]; omega
theorem putR_len (cls : Int) (l : List Int) : (putR cls l).2.length ≤ 100000 := by
  unfold putR
  split
  · simp
  · rename_i h
    simp only [not_or] at h
    have hl : Blk l := Blk.mk' h.2.2.1 h.2.2.2
    have h1 := hl.len
    have h2 := hl.tot
    have h3 := (rst_sum l).2
    split
    · simp
    · rename_i K hK
      simp only
      unfold blkC at hK
      split at hK
      · rw [← Option.some.inj hK]
        have := tokP_len cls (l.length : Int) ((rst l).1.length : Nat) (onesN (rst l).1 : Nat)
        omega
      · simp only [Option.map_eq_some_iff] at hK
        obtain ⟨b, hb, rfl⟩ := hK
        have e1 := tokP_len cls (l.length : Int) ((rst l).1.length : Nat) (onesN (rst l).1 : Nat)
        have e2 := zerP_len (l.length : Int) ((rst l).1.length : Nat) (rZ l : Nat)
        have e3 := runsP_len (rst l).2.1 (rZ l)
        have e4 := lvsP_len _ _ _ _ (k0_le _ _) hb
        rw [List.length_drop] at e4
        simp only [List.length_append, onesB, List.length_map, List.length_take]
        omega
theorem flat_ints : ∀ ms : List Int, ms.flatMap (fun m => [AV.int .i64 m]) = ints ms
  | [] => rfl
  | m :: ms => by simp only [List.flatMap_cons, flat_ints ms]; rfl
theorem arg_ints {a : AV} (h : argOk Try.prog maxLen 16 71 a) : ∃ l : List Int, ∀ S d, IL S a l d := by
  unfold argOk at h
  have hu : Try.prog.underlying 71 = some (.slice 3) := by kernel_rfl
  have hc : Try.prog.cellsOf 3 = 1 := by kernel_rfl
  rw [hu] at h
  simp only at h
  unfold avOk at h
  rw [hu] at h
  simp only [hc] at h
  rcases h with h | ⟨n, cs, h, h1, h2, h3⟩
  · exact ⟨[], fun _ _ => .inl ⟨by simpa using h, rfl⟩⟩
  · obtain ⟨l, e1, e2, e3⟩ := chunks_of (w := 1) (enc := fun m : Int => [AV.int .i64 m]) (Q := fun _ => True) (fun xs hl => by obtain ⟨m, h, _⟩ := av3 (F := 14) hl; exact ⟨m, h, trivial⟩) n cs h2 h3
    subst e1 e2
    rw [flat_ints] at h
    exact ⟨l, fun _ _ => .inr (.inl (by simpa using h))⟩
section
variable {B : CallF} (hB : Silent B) (k : Nat) {S : Heap}
include hB
theorem copyInts_c {a : AV} {l : List Int} {d : Nat} (h : IL S a l d) (hl : l.length ≤ 1000000000) : ∃ S', Cn B (k + 1) f_spindlekit_CopyInts 0 [a] S = some (isl l, S') ∧ Fr S S' [] := by
  rw [c_spindlekit_CopyInts _ _ _ _ (hB.no _ _ _ _ (kn_no (by decide))), T_spindlekit_CopyInts]
  have hr : rowOf 1 a S = some (l.length, ints l) := by
    rcases h with ⟨rfl, rfl⟩ | rfl | ⟨rfl, h2, _⟩
    · rfl
    · simp [rowOf, ints_len]
    · simp only [rowOf, h2, ints_len, Nat.zero_add, Nat.mul_one, Nat.le_refl, and_self, if_true, List.drop_zero]
      rw [List.take_of_length_le (by rw [ints_len]; exact Nat.le_refl _)]
  by_cases h0 : l = []
  · subst h0
    have e1 : aAppend 1 8 .nils a S = some (.nils, S) := by unfold aAppend; rw [hr]; rfl
    exact ⟨S, by simp only [zB, decide_true, decide_false, Bool.false_eq_true, if_false, if_true, List.getElem?_cons_zero, List.getElem?_cons_succ, beq_self_eq_true, bne_self_eq_false, Int.reduceBNe, Int.reduceBEq, Int.reduceLT, Int.reduceGT, Int.reduceLE, Int.reduceGE, Nat.reduceAdd, Nat.reduceMul, Nat.reduceLeDiff, e1, fz_nils 39 S]; rfl, Fr.refl _ _⟩
  · have hp := List.length_pos_iff.2 h0
    have hne : ¬ l.length = 0 := by omega
    have r1 : l.length * 8 ≤ mostRoom := room64 (by omega)
    have r2 : l.length ≤ mostRoom := room64 (by omega)
    have e1 : aAppend 1 8 .nils a S = some (hv l S.next, S.alloc (ints l)) := by
      unfold aAppend; rw [hr]; simp only; unfold aAppendN; rw [if_neg hne]; simp only [r1, r2, and_self, if_true, hv, if_neg h0]
    have hR : HR (S.alloc (ints l)) l S.next := fun _ => ⟨alloc_blk _ _, Nat.lt_succ_self _⟩
    have e2 := fz_hv 38 hR
    exact ⟨kill (S.alloc (ints l)) l S.next, by simp only [zB, decide_true, decide_false, Bool.false_eq_true, if_false, if_true, List.getElem?_cons_zero, List.getElem?_cons_succ, beq_self_eq_true, bne_self_eq_false, Int.reduceBNe, Int.reduceBEq, Int.reduceLT, Int.reduceGT, Int.reduceLE, Int.reduceGE, Nat.reduceAdd, Nat.reduceMul, Nat.reduceLeDiff, e1, e2], (Fr.alloc S (ints l) []).kill (fun _ => .inr (Nat.le_refl _))⟩
theorem equalInts_c {a b : AV} {l m : List Int} {d d2 : Nat} (h : IL S a l d) (h2 : IL S b m d2) (hl : l.length ≤ 1000000000) : Cn B (k + 1) f_spindlekit_EqualInts 0 [a, b] S = some (.bool (decide (l = m)), S) := by
  rw [c_spindlekit_EqualInts _ _ _ _ _ (hB.no _ _ _ _ (kn_no (by decide))), T_spindlekit_EqualInts]
  by_cases hlen : l.length = m.length
  · have c1 : ((l.length : Int) != (m.length : Int)) = false := by simp [hlen]
    simp only [zB, decide_true, decide_false, Bool.false_eq_true, if_false, if_true, List.getElem?_cons_zero, List.getElem?_cons_succ, beq_self_eq_true, bne_self_eq_false, Int.reduceBNe, Int.reduceBEq, Int.reduceLT, Int.reduceGT, Int.reduceLE, Int.reduceGE, Nat.reduceAdd, Nat.reduceMul, Nat.reduceLeDiff, h.len, h2.len, c1]
    refine loop_meas (fun o => o = some (AV.bool (decide (l = m)), S)) (fun n st => ∃ i : Nat, i + n = l.length ∧ st = ([a, b, .int .i64 (i : Int)], S) ∧ l.take i = m.take i) l.length ⟨0, by omega, rfl, rfl⟩ ?_
    rintro n st ⟨i, hin, rfl, ht⟩
    cases n with
    | zero =>
      have c2 : ¬ ((i : Int) < (l.length : Int)) := by omega
      rw [List.take_of_length_le (by omega), List.take_of_length_le (by omega)] at ht
      refine .inl ⟨(0, [], S), by simp only [zB, decide_true, decide_false, Bool.false_eq_true, if_false, if_true, List.getElem?_cons_zero, List.getElem?_cons_succ, beq_self_eq_true, bne_self_eq_false, Int.reduceBNe, Int.reduceBEq, Int.reduceLT, Int.reduceGT, Int.reduceLE, Int.reduceGE, Nat.reduceAdd, Nat.reduceMul, Nat.reduceLeDiff, h.len, c2], ?_⟩
      rw [decide_eq_true ht]
      simp only [zB, decide_true, decide_false, Bool.false_eq_true, if_false, if_true, List.getElem?_cons_zero, List.getElem?_cons_succ, beq_self_eq_true, bne_self_eq_false, Int.reduceBNe, Int.reduceBEq, Int.reduceLT, Int.reduceGT, Int.reduceLE, Int.reduceGE, Nat.reduceAdd, Nat.reduceMul, Nat.reduceLeDiff, sel_0]
    | succ n =>
      have hi : i < l.length := by omega
      have hi2 : i < m.length := by omega
      have c2 : (i : Int) < (l.length : Int) := by omega
      obtain ⟨t, cs, o, x1, x2, x3⟩ := h.at hi
      obtain ⟨t', cs', o', y1, y2, y3⟩ := h2.at hi2
      by_cases he : l[i] = m[i]
      · have c3 : (l[i] != m[i]) = false := by simp [he]
        have w1 : IntKind.wrap .i64 ((i : Int) + 1) = ((i + 1 : Nat) : Int) := by rw [wr _ (by omega)]; omega
        refine .inr ⟨n, ([a, b, .int .i64 ((i + 1 : Nat) : Int)], S), by omega, by simp only [zB, decide_true, decide_false, Bool.false_eq_true, if_false, if_true, List.getElem?_cons_zero, List.getElem?_cons_succ, beq_self_eq_true, bne_self_eq_false, Int.reduceBNe, Int.reduceBEq, Int.reduceLT, Int.reduceGT, Int.reduceLE, Int.reduceGE, Nat.reduceAdd, Nat.reduceMul, Nat.reduceLeDiff, h.len, c2, x1, x2, x3, y1, y2, y3, c3, w1], i + 1, by omega, rfl, ?_⟩
        rw [List.take_add_one, List.take_add_one, ht, List.getElem?_eq_getElem hi, List.getElem?_eq_getElem hi2, he]
      · have c3 : (l[i] != m[i]) = true := by simp [he]
        have hne : ¬ l = m := fun hh => he (by simp [hh])
        refine .inl ⟨(1, [.bool false], S), by simp only [zB, decide_true, decide_false, Bool.false_eq_true, if_false, if_true, List.getElem?_cons_zero, List.getElem?_cons_succ, beq_self_eq_true, bne_self_eq_false, Int.reduceBNe, Int.reduceBEq, Int.reduceLT, Int.reduceGT, Int.reduceLE, Int.reduceGE, Nat.reduceAdd, Nat.reduceMul, Nat.reduceLeDiff, h.len, c2, x1, x2, x3, y1, y2, y3, c3], ?_⟩
        rw [decide_eq_false hne]
        simp only [zB, decide_true, decide_false, Bool.false_eq_true, if_false, if_true, List.getElem?_cons_zero, List.getElem?_cons_succ, beq_self_eq_true, bne_self_eq_false, Int.reduceBNe, Int.reduceBEq, Int.reduceLT, Int.reduceGT, Int.reduceLE, Int.reduceGE, Nat.reduceAdd, Nat.reduceMul, Nat.reduceLeDiff, sel_1]
  · have c1 : ((l.length : Int) != (m.length : Int)) = true := by simp; omega
    have hne : ¬ l = m := fun hh => hlen (by rw [hh])
    rw [decide_eq_false hne]
    simp only [zB, decide_true, decide_false, Bool.false_eq_true, if_false, if_true, List.getElem?_cons_zero, List.getElem?_cons_succ, beq_self_eq_true, bne_self_eq_false, Int.reduceBNe, Int.reduceBEq, Int.reduceLT, Int.reduceGT, Int.reduceLE, Int.reduceGE, Nat.reduceAdd, Nat.reduceMul, Nat.reduceLeDiff, h.len, h2.len, c1]
theorem rfits_c {a : AV} {l : List Int} (hl : ∀ S d, IL S a l d) (hlen : l.length ≤ 1000000000) : ∃ S', Cn B (k + 7) f_spindleref20_Fits 0 [a] S = some (.bool ((putR 0 l).1 == 0), S') ∧ Fr S S' [] := by
  rw [c_spindleref20_Fits _ _ _ _ (hB.no _ _ _ _ (kn_no (by decide))), T_spindleref20_Fits]
  obtain ⟨S1, e1, w1, f1⟩ := write1_c hB (k + 5) (S := S)
  obtain ⟨S2, q2, e2, p2, _⟩ := put1r_c hB k w1 (by simp) 0 (hl S1 (S.next + 1)) ⟨by omega, by omega⟩ hlen
  exact ⟨S2, by simp only [zB, decide_true, decide_false, Bool.false_eq_true, if_false, if_true, List.getElem?_cons_zero, List.getElem?_cons_succ, beq_self_eq_true, bne_self_eq_false, Int.reduceBNe, Int.reduceBEq, Int.reduceLT, Int.reduceGT, Int.reduceLE, Int.reduceGE, Nat.reduceAdd, Nat.reduceMul, Nat.reduceLeDiff, e1, e2], f1.trans p2 (fun j hj => .inr (by simp at hj; omega))⟩
theorem fblock_c {a : AV} {l : List Int} (hl : ∀ S d, IL S a l d) (hlen : l.length ≤ 1000000000) : ∃ S', Cn B (k + 9) f_fit_Block 0 [a] S = some (.bool ((putR 0 l).1 == 0), S') ∧ Fr S S' [] := by
  rw [c_fit_Block _ _ _ _ (hB.no _ _ _ _ (kn_no (by decide))), T_fit_Block]
  obtain ⟨S1, e1, f1⟩ := vfits_c hB k (hl S 0) (.inr fun S => hl S 0) hlen
  exact ⟨S1, by simp only [zB, decide_true, decide_false, Bool.false_eq_true, if_false, if_true, List.getElem?_cons_zero, List.getElem?_cons_succ, beq_self_eq_true, bne_self_eq_false, Int.reduceBNe, Int.reduceBEq, Int.reduceLT, Int.reduceGT, Int.reduceLE, Int.reduceGE, Nat.reduceAdd, Nat.reduceMul, Nat.reduceLeDiff, e1], f1⟩
theorem fblock1_c {a : AV} {l : List Int} (hl : ∀ S d, IL S a l d) (hlen : l.length ≤ 1000000000) : ∃ S', Cn B (k + 8) f_spindleref34_Block 0 [a] S = some (.bool ((putR 0 l).1 == 0), S') ∧ Fr S S' [] := by
  rw [c_spindleref34_Block _ _ _ _ (hB.no _ _ _ _ (kn_no (by decide))), T_spindleref34_Block]
  obtain ⟨S1, e1, f1⟩ := rfits_c hB k (S := S) hl hlen
  have h1 := (hl S 0).len
  by_cases g1 : l.length = 4
  · have c1 : ((l.length : Int) == 4) = true := by simp; omega
    exact ⟨S1, by simp only [zB, decide_true, decide_false, Bool.false_eq_true, if_false, if_true, List.getElem?_cons_zero, List.getElem?_cons_succ, beq_self_eq_true, bne_self_eq_false, Int.reduceBNe, Int.reduceBEq, Int.reduceLT, Int.reduceGT, Int.reduceLE, Int.reduceGE, Nat.reduceAdd, Nat.reduceMul, Nat.reduceLeDiff, h1, c1, e1], f1⟩
  have c1 : ((l.length : Int) == 4) = false := by simp; omega
  by_cases g2 : l.length = 15
  · have c2 : ((l.length : Int) == 15) = true := by simp; omega
    exact ⟨S1, by simp only [zB, decide_true, decide_false, Bool.false_eq_true, if_false, if_true, List.getElem?_cons_zero, List.getElem?_cons_succ, beq_self_eq_true, bne_self_eq_false, Int.reduceBNe, Int.reduceBEq, Int.reduceLT, Int.reduceGT, Int.reduceLE, Int.reduceGE, Nat.reduceAdd, Nat.reduceMul, Nat.reduceLeDiff, h1, c1, c2, e1], f1⟩
  have c2 : ((l.length : Int) == 15) = false := by simp; omega
  by_cases g3 : l.length = 16
  · have c3 : ((l.length : Int) == 16) = true := by simp; omega
    exact ⟨S1, by simp only [zB, decide_true, decide_false, Bool.false_eq_true, if_false, if_true, List.getElem?_cons_zero, List.getElem?_cons_succ, beq_self_eq_true, bne_self_eq_false, Int.reduceBNe, Int.reduceBEq, Int.reduceLT, Int.reduceGT, Int.reduceLE, Int.reduceGE, Nat.reduceAdd, Nat.reduceMul, Nat.reduceLeDiff, h1, c1, c2, c3, e1], f1⟩
  have c3 : ((l.length : Int) == 16) = false := by simp; omega
  have hs : sizedI (l.length : Int) = false := by simp only [sizedI, c1, c2, c3, Bool.or_self]
  have hp : ((putR 0 l).1 == 0) = false := by unfold putR; rw [if_pos (.inr (.inr (.inl hs)))]; rfl
  rw [hp]
  exact ⟨S, by simp only [zB, decide_true, decide_false, Bool.false_eq_true, if_false, if_true, List.getElem?_cons_zero, List.getElem?_cons_succ, beq_self_eq_true, bne_self_eq_false, Int.reduceBNe, Int.reduceBEq, Int.reduceLT, Int.reduceGT, Int.reduceLE, Int.reduceGE, Nat.reduceAdd, Nat.reduceMul, Nat.reduceLeDiff, h1, c1, c2, c3], Fr.refl _ _⟩
end
theorem awake34_chk : chk f_spindlelaw34_awake [] (.bool true) = true := by kernel_rfl
theorem known20_chk : chk f_spindlelaw20_known [] (.bool true) = true := by kernel_rfl
theorem fitBlocks_law' {a : AV} {l : List Int} (hl : ∀ S d, IL S a l d) : ∃ S', Cn Bk 10 f_spindlelaw34_FitBlocks 0 [a] S0 = some (.bool true, S') := by
  have hB := Bk_silent
  rw [c_spindlelaw34_FitBlocks _ _ _ _ (hB.no _ _ _ _ (kn_no (by decide))), T_spindlelaw34_FitBlocks]
  have h1 := (hl S0 0).len
  by_cases g : (l.length : Int) > 40
  · exact ⟨S0, by simp only [zB, decide_true, decide_false, Bool.false_eq_true, if_false, if_true, List.getElem?_cons_zero, List.getElem?_cons_succ, beq_self_eq_true, bne_self_eq_false, Int.reduceBNe, Int.reduceBEq, Int.reduceLT, Int.reduceGT, Int.reduceLE, Int.reduceGE, Nat.reduceAdd, Nat.reduceMul, Nat.reduceLeDiff, h1, g]⟩
  obtain ⟨S1, e1, f1⟩ := copyInts_c hB 8 (hl S0 0) (by omega)
  obtain ⟨S2, e2, f2⟩ := fblock_c hB 0 (S := S1) (fun S d => isl_il S l d) (by omega)
  obtain ⟨S3, e3, f3⟩ := fblock1_c hB 1 (S := S2) hl (by omega)
  have e4 := equalInts_c hB 8 (isl_il S3 l 0) (hl S3 0) (by omega)
  rw [decide_eq_true (rfl : l = l)] at e4
  have e5 : ∀ S, Cn Bk 9 f_spindlelaw34_awake 0 [] S = some (.bool true, S) := fun S => chk_c hB awake34_chk _ _
  exact ⟨S3, by simp only [zB, decide_true, decide_false, Bool.false_eq_true, if_false, if_true, List.getElem?_cons_zero, List.getElem?_cons_succ, beq_self_eq_true, bne_self_eq_false, Int.reduceBNe, Int.reduceBEq, Int.reduceLT, Int.reduceGT, Int.reduceLE, Int.reduceGE, Nat.reduceAdd, Nat.reduceMul, Nat.reduceLeDiff, h1, g, e1, e2, e3, e4, e5]⟩
theorem fitBlocks_law (xs : List AV) (h : argsOk Try.prog maxLen 16 Try.f11.params.toList xs) : ∃ (C : CallF) (S' : Heap), NOk Try.prog (fun _ => none) C ∧ C 11 0 xs S0 = some (.bool true, S') := by
  rw [Try.params11] at h
  obtain ⟨a, r, rfl, h1, rfl⟩ := h
  obtain ⟨l, hl⟩ := arg_ints h1
  obtain ⟨S', hS⟩ := fitBlocks_law' hl
  exact ⟨Cn Bk 10, S', Cn_ok 10, hS⟩
theorem vblockWrites_law' (cls : Int) {a : AV} {l : List Int} (hl : ∀ S d, IL S a l d) : ∃ S', Cn Bk 10 f_spindlelaw20_VblockWrites 0 [.int .i64 cls, a] S0 = some (.bool true, S') := by
  have hB := Bk_silent
  rw [c_spindlelaw20_VblockWrites _ _ _ _ _ (hB.no _ _ _ _ (kn_no (by decide))), T_spindlelaw20_VblockWrites]
  have h1 := (hl S0 0).len
  have e0 : ∀ S, Cn Bk 9 f_spindlelaw20_known 0 [] S = some (.bool true, S) := fun S => chk_c hB known20_chk _ _
  by_cases g : (l.length : Int) > 20
  · exact ⟨S0, by simp only [zB, decide_true, decide_false, Bool.false_eq_true, if_false, if_true, List.getElem?_cons_zero, List.getElem?_cons_succ, beq_self_eq_true, bne_self_eq_false, Int.reduceBNe, Int.reduceBEq, Int.reduceLT, Int.reduceGT, Int.reduceLE, Int.reduceGE, Nat.reduceAdd, Nat.reduceMul, Nat.reduceLeDiff, h1, g, e0]⟩
  obtain ⟨S1, e1, w1, f1⟩ := write_c hB 8 (S := S0)
  obtain ⟨S2, e2, w2, f2⟩ := write1_c hB 8 (S := S1)
  obtain ⟨p, hp⟩ : ∃ p, p = S0.next := ⟨_, rfl⟩
  obtain ⟨r, hr⟩ : ∃ r, r = S1.next := ⟨_, rfl⟩
  rw [← hp] at e1 w1
  rw [← hr] at e2 w2
  have hl1 := w1.lt
  have hl2 := w2.lts
  have w1' := w1.fr f2 (by simp) (by simp)
  obtain ⟨S3, q3, e3, p3⟩ := put_c hB 8 w1' 3 5 (by omega) (by omega) (by simp)
  have hq3 : r ≠ q3 := by
    rcases p3.2.2 with h | h
    · omega
    · omega
  have w2' := w2.fr p3.2.1 (by simp; omega) (by simp; omega)
  obtain ⟨S4, q4, e4, p4⟩ := put1_c hB 8 w2' 3 5 (by omega) (by omega) (by simp)
  have hpr : p ≠ r := by omega
  have hn3 := p3.2.1.1
  have hn4 := p4.2.1.1
  have hlt3 := p3.1.lt
  have hlt4 := p4.1.lts
  have hq4 : q4 ≠ p ∧ q4 ≠ q3 := by
    rcases p4.2.2 with h | h
    · rw [h]; exact ⟨Ne.symm hpr, hq3⟩
    · exact ⟨by omega, by omega⟩
  have w3 : Wr S4 p q3 ([] ++ bitsN 3 5) := p3.1.fr p4.2.1 (by simp; exact hpr) (by simp; exact Ne.symm hq3)
  obtain ⟨S5, e5, f5⟩ := copyInts_c hB 8 (hl S4 0) (by omega)
  have w5 := w3.fr f5 (by simp) (by simp)
  have w6 := p4.1.fr f5 (by simp) (by simp)
  have hn5 := f5.1
  obtain ⟨S6, q6, e6, p6⟩ := vput_c hB 2 w5 (by simp [bitsN_len]) cls (isl_il S5 l (p + q3 + 1)) ⟨by omega, by omega⟩ (by omega)
  have w7 : RWr S6 r q4 ([] ++ bitsN 3 5) := w6.fr p6.2.1 (by simp; exact ⟨Ne.symm hpr, hq3⟩) (by simp; exact hq4)
  obtain ⟨S7, q7, e7, f7, b7⟩ := put1r_c hB 3 w7 (by simp [bitsN_len]) cls (hl S6 (r + q4 + 1)) ⟨by omega, by omega⟩ (by omega)
  have hq6 : q6 ≠ r ∧ q6 ≠ q4 := by
    rcases p6.2.2 with h | h
    · rw [h]; exact ⟨Ne.symm hq3, Ne.symm hq4.2⟩
    · exact ⟨by omega, by omega⟩
  have w8 : Wr S7 p q6 ([] ++ bitsN 3 5 ++ (putR cls l).2) := p6.1.fr f7 (by simp; exact ⟨hpr, Ne.symm hq4.1⟩) (by simp; exact hq6)
  have hblen := putR_len cls l
  obtain ⟨S8, e8, f8⟩ := wbits_c hB 7 w8 (by simp only [List.length_append, bitsN_len, List.length_nil]; omega)
  have hne : [] ++ bitsN 3 5 ++ (putR cls l).2 ≠ [] := by simp [bitsN]
  obtain ⟨z1, z3, rest, z2⟩ := b7 hne
  have hn6 := p6.2.1.1
  have hn7 := f7.1
  have hq7 : r < S7.next ∧ q7 < S7.next := ⟨by omega, z3⟩
  have e9 := cbits1_c hB 8 (S := S8) ((f8.get hq7.1 (by simp)).trans z1) ((f8.get hq7.2 (by simp)).trans z2)
  obtain ⟨S9, e10, f9⟩ := vfits_c hB 1 (S := S8) (isl_il S8 l 0) (.inr fun S => isl_il S l 0) (by omega)
  obtain ⟨S10, e11, f10⟩ := rfits_c hB 2 (S := S9) hl (by omega)
  have e12 := equalInts_c hB 8 (isl_il S10 l 0) (hl S10 0) (by omega)
  rw [decide_eq_true (rfl : l = l)] at e12
  rw [show ((3 : Nat) : Int) = 3 from rfl, show ((5 : Nat) : Int) = 5 from rfl] at e3 e4
  exact ⟨S10, by simp only [zB, decide_true, decide_false, Bool.false_eq_true, if_false, if_true, List.getElem?_cons_zero, List.getElem?_cons_succ, beq_self_eq_true, bne_self_eq_false, Int.reduceBNe, Int.reduceBEq, Int.reduceLT, Int.reduceGT, Int.reduceLE, Int.reduceGE, Nat.reduceAdd, Nat.reduceMul, Nat.reduceLeDiff, h1, g, e1, e2, e3, e4, e5, e6, e7, e8, e9, strEq_self, e10, e11, e12, e0]⟩
theorem vblockWrites_law (xs : List AV) (h : argsOk Try.prog maxLen 16 Try.f18.params.toList xs) : ∃ (C : CallF) (S' : Heap), NOk Try.prog (fun _ => none) C ∧ C 18 0 xs S0 = some (.bool true, S') := by
  rw [Try.params18] at h
  obtain ⟨c, r, rfl, h1, a, r2, rfl, h2, rfl⟩ := h
  obtain ⟨cls, rfl, _⟩ := arg3 h1
  obtain ⟨l, hl⟩ := arg_ints h2
  obtain ⟨S', hS⟩ := vblockWrites_law' cls hl
  exact ⟨Cn Bk 10, S', Cn_ok 10, hS⟩
end Go.Ab.tV
