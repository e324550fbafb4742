/- The references of layers 1, 2 and 18: readers. No condition beyond what each lemma names. -/
import Derived.Test.YtfkmmiinlipcpaaVB5
set_option maxRecDepth 100000
set_option linter.unusedSimpArgs false
set_option linter.unusedVariables false
set_option linter.unusedSectionVars false
namespace Go.Ab.tV
open Go Go.Proofs

-- equality of two numbers with two
theorem pr_bind {α β : Type} {P : Program} (s : Sem α) (f : α → Sem β) : pureRun P (s >>= f) = (pureRun P s).bind fun a => pureRun P (f a) := by
  show pureRun P (Sem.bind s f) = _
  induction s with
  | pure a => rfl
  | program k ih => exact ih P
  | _ => rfl
theorem pr_pure {α : Type} {P : Program} (a : α) : pureRun P (pure a : Sem α) = some a := rfl
theorem pr_und {P : Program} {t : TypeId} {d : TypeDesc} (h : P.underlying t = some d) : pureRun P (underlying t) = some d := by
  unfold underlying
  rw [pr_bind]
  show pureRun P (match P.underlying t with | some d => pure d | none => _) = _
  rw [h]; rfl
theorem pr_int {P : Program} {d : Nat} {t : TypeId} {k k' : IntKind} {a b : Int} (h : P.underlying t = some (.int k')) : pureRun P (Op.equalIn (d + 1) t (.int k a) (.int k b)) = some (a == b) := by
  rw [Op.equalIn, pr_bind, pr_und h]
  simp [pr_pure]
theorem pr_part1 {P : Program} {t : TypeId} {k : IntKind} {cs : List Value} {i : Nat} {v : Value} (h : P.underlying t = some (.int k)) (hv : cs[i]? = some v) : pureRun P (part t cs.toArray i) = some v := by
  unfold part isAgg
  simp only [pr_bind, pr_und h, Option.bind_some, pr_pure, Bool.false_eq_true, if_false]
  rw [List.getElem?_toArray, hv]
  rfl
theorem all_range_eqI : ∀ (xs ys : List Int), xs.length = ys.length → ((List.range xs.length).all fun i => xs.getD i 0 == ys.getD i 0) = (xs == ys)
  | [], [], _ => rfl
  | x :: xs, y :: ys, h => by
    have ih := all_range_eqI xs ys (by simpa using h)
    rw [List.length_cons, List.range_succ_eq_map, List.all_cons, List.all_map]
    simp only [List.getD_cons_zero, Function.comp_def, List.getD_cons_succ, ih]
    simp [List.cons_beq_cons]
  | [], _ :: _, h => by simp at h
  | _ :: _, [], h => by simp at h
theorem pr_array {P : Program} {t e : TypeId} {n d : Nat} {k : IntKind} (ht : P.underlying t = some (.array n e)) (he : P.underlying e = some (.int k)) (hsz : pureRun P (sizeOf e) = some 1) (xs ys : List Int) (hx : xs.length = n) (hy : ys.length = n) :
    pureRun P (Op.equalIn (d + 2) t (.agg (xs.map (Value.int k)).toArray) (.agg (ys.map (Value.int k)).toArray)) = some (xs == ys) := by
  rw [← all_range_eqI xs ys (hx.trans hy.symm), hx, List.range_eq_range', Op.equalIn]
  simp only [pr_bind, pr_und ht, Option.bind_some, hsz, Std.Legacy.Range.forIn_eq_forIn_range', Std.Legacy.Range.size, Nat.sub_zero, Nat.add_sub_cancel, Nat.div_one]
  have hl : ∀ i ∈ List.range' 0 n 1, i < n := fun i hi => by simpa using (List.mem_range'_1.1 hi).2
  generalize List.range' 0 n 1 = l at hl ⊢
  induction l with
  | nil => simp [pr_pure]
  | cons i l ih =>
    have hi : i < n := hl i (by simp)
    have px : pureRun P (part e (xs.map (Value.int k)).toArray (i * 1)) = some (.int k (xs.getD i 0)) := by
      refine pr_part1 he ?_
      simp [List.getD, List.getElem?_eq_getElem (show i < xs.length by omega)]
    have py : pureRun P (part e (ys.map (Value.int k)).toArray (i * 1)) = some (.int k (ys.getD i 0)) := by
      refine pr_part1 he ?_
      simp [List.getD, List.getElem?_eq_getElem (show i < ys.length by omega)]
    simp only [List.forIn_cons, pr_bind, px, py, pr_int he, Option.bind_some, List.all_cons]
    cases hb : (xs.getD i 0 == ys.getD i 0)
    · simp [pr_pure]
    · simp only [Bool.not_true, Bool.false_eq_true, if_false, pr_pure, Option.bind_some, Bool.true_and]
      exact ih fun j hj => hl j (by simp [hj])
theorem toL_ints {k : IntKind} : ∀ xs : List Int, toL (xs.map (AV.int k)) = some (xs.map (Value.int k))
  | [] => rfl
  | x :: xs => by simp only [List.map_cons, toL, toS, toL_ints xs]
theorem eql_ints {t n : Nat} (ht : Try.prog.underlying t = some (.array n 3)) (hg : Try.prog.eqGuardType Try.prog.depth t = false) (xs ys : List Int) (hx : xs.length = n) (hy : ys.length = n) :
    aBin Try.prog .eql t (.agg (xs.map (AV.int .i64))) (.agg (ys.map (AV.int .i64))) = some (.bool (xs == ys)) := by
  show (aggEq Try.prog t _ _).map AV.bool = _
  unfold aggEq
  rw [toL_ints, toL_ints]
  simp only [hg, Bool.false_eq_true, if_false, Op.equal]
  rw [show Op.maxDepth = 9998 + 2 from rfl, pr_array ht Try.underlying3 (by kernel_rfl) xs ys hx hy]
  rfl
theorem eql_pair (x y z w : Int) : aBin Try.prog .eql 102 (.agg [.int .i64 x, .int .i64 y]) (.agg [.int .i64 z, .int .i64 w]) = some (.bool ([x, y] == [z, w])) := eql_ints (n := 2) (by kernel_rfl) (by kernel_rfl) [x, y] [z, w] rfl rfl

section
variable {B : CallF} (hB : Silent B) (k : Nat) {S : Heap} {p : Nat} {s : ByteArray} {a : Nat} (h : Rdr S p s a)
include hB h
theorem left1_c : Cn B (k + 1) f_spindleref01_Reader_Left 0 [.ptr p 0] S = some (.int .i64 ((8 * s.size - a : Nat) : Int), S) := by
  rw [c_spindleref01_Reader_Left _ _ _ _ (hB.no _ _ _ _ (kn_no (by decide))), T_spindleref01_Reader_Left]
  have := h.sz
  have := h.le
  have w1 : IntKind.wrap .i64 (8 * (s.size : Int)) = 8 * s.size := wr _ (by omega)
  have w2 : IntKind.wrap .i64 (8 * (s.size : Int) - a) = ((8 * s.size - a : Nat) : Int) := by rw [wr _ (by omega)]; omega
  simp only [zB, decide_true, decide_false, Bool.false_eq_true, if_false, if_true, List.getElem?_cons_zero, List.getElem?_cons_succ, beq_self_eq_true, bne_self_eq_false, Int.reduceBNe, Int.reduceBEq, Int.reduceLT, Int.reduceGT, Int.reduceLE, Int.reduceGE, Nat.reduceAdd, Nat.reduceMul, Nat.reduceLeDiff, h.blk, w1, w2]
theorem pos1_c : Cn B (k + 1) f_spindleref01_Reader_Pos 0 [.ptr p 0] S = some (.int .i64 (a : Int), S) := by
  rw [c_spindleref01_Reader_Pos _ _ _ _ (hB.no _ _ _ _ (kn_no (by decide))), T_spindleref01_Reader_Pos]
  simp only [zB, decide_true, decide_false, Bool.false_eq_true, if_false, if_true, List.getElem?_cons_zero, List.getElem?_cons_succ, beq_self_eq_true, bne_self_eq_false, Int.reduceBNe, Int.reduceBEq, Int.reduceLT, Int.reduceGT, Int.reduceLE, Int.reduceGE, Nat.reduceAdd, Nat.reduceMul, Nat.reduceLeDiff, h.blk]
theorem u1_ok (n : Nat) (hn : n ≤ 64) (hL : a + n ≤ 8 * s.size) :
    ∃ S', Cn B (k + 2) f_spindleref01_Reader_U 0 [.ptr p 0, .int .i64 (n : Int)] S = some (.tup [.int .u64 ((num s a n : Nat) : Int), .int .i64 0], S') ∧ Rdr S' p s (a + n) ∧ Fr S S' [p] := by
  rw [c_spindleref01_Reader_U _ _ _ _ _ (hB.no _ _ _ _ (kn_no (by decide))), T_spindleref01_Reader_U]
  have e1 := left1_c hB k h
  have c1 : ¬ ((n : Int) < 0) := by omega
  have c2 : ¬ ((n : Int) > 64) := by omega
  have c3 : ¬ (((8 * s.size - a : Nat) : Int) < (n : Int)) := by omega
  simp only [zB, decide_true, decide_false, Bool.false_eq_true, if_false, if_true, List.getElem?_cons_zero, List.getElem?_cons_succ, beq_self_eq_true, bne_self_eq_false, Int.reduceBNe, Int.reduceBEq, Int.reduceLT, Int.reduceGT, Int.reduceLE, Int.reduceGE, Nat.reduceAdd, Nat.reduceMul, Nat.reduceLeDiff, c1, c2, e1, c3]
  refine loop_meas (fun o => ∃ S', o = some (AV.tup [.int .u64 ((num s a n : Nat) : Int), .int .i64 0], S') ∧ Rdr S' p s (a + n) ∧ Fr S S' [p])
    (fun m st => ∃ i T, i + m = n ∧ st = ([.ptr p 0, .int .i64 (n : Int), .int .u64 ((num s a i : Nat) : Int), .int .i64 (i : Int)], T) ∧ Rdr T p s (a + i) ∧ Fr S T [p]) n ⟨0, S, by omega, by simp [num], h, Fr.refl S _⟩ ?_
  rintro m st ⟨i, T, hi, rfl, hT, hF⟩
  by_cases hm : m = 0
  · subst hm
    have : i = n := by omega
    subst this
    have c4 : ¬ ((i : Int) < (i : Int)) := by omega
    exact .inl ⟨(0, [.int .u64 ((num s a i : Nat) : Int)], T), by simp only [zB, decide_true, decide_false, Bool.false_eq_true, if_false, if_true, List.getElem?_cons_zero, List.getElem?_cons_succ, beq_self_eq_true, bne_self_eq_false, Int.reduceBNe, Int.reduceBEq, Int.reduceLT, Int.reduceGT, Int.reduceLE, Int.reduceGE, Nat.reduceAdd, Nat.reduceMul, Nat.reduceLeDiff, c4], T, by simp only [zB, decide_true, decide_false, Bool.false_eq_true, if_false, if_true, List.getElem?_cons_zero, List.getElem?_cons_succ, beq_self_eq_true, bne_self_eq_false, Int.reduceBNe, Int.reduceBEq, Int.reduceLT, Int.reduceGT, Int.reduceLE, Int.reduceGE, Nat.reduceAdd, Nat.reduceMul, Nat.reduceLeDiff, sel], hT, hF⟩
  · have hsz := h.sz
    have hle := hT.le
    have c4 : (i : Int) < (n : Int) := by omega
    obtain ⟨b, hb⟩ : ∃ b, s.data[(a + i) / 8]? = some b := by
      have : (a + i) / 8 < s.data.size := by have : s.size = s.data.size := rfl; omega
      exact ⟨_, Array.getElem?_eq_getElem this⟩
    have w3 : IntKind.wrap .u64 (IntKind.wrap .i64 (7 - Int.tmod ((a + i : Nat) : Int) 8)) = ((7 - (a + i) % 8 : Nat) : Int) := by rw [tmodL, wr _ (by omega), wu _ (by omega)]; omega
    have w7 : IntKind.wrap .i64 (Int.tdiv ((a + i : Nat) : Int) 8) = (((a + i) / 8 : Nat) : Int) := by rw [tdivL, wr _ (by omega)]
    have w8 : (0 : Int) ≤ (((a + i) / 8 : Nat) : Int) := by omega
    have w9 : IntKind.wrap .i64 (((a + i : Nat) : Int) + 1) = ((a + (i + 1) : Nat) : Int) := by rw [wr _ (by omega)]; omega
    have w10 : IntKind.wrap .i64 ((i : Int) + 1) = ((i + 1 : Nat) : Int) := by rw [wr _ (by omega)]; omega
    have hnum := num_lt s a (i + 1)
    have hp64 : 2 ^ (i + 1) ≤ 2 ^ 64 := Nat.pow_le_pow_right (by omega) (by omega)
    have hs2 := sb_lt s (a + i)
    have hlt := b.toNat_lt
    have w4 : andI .u8 (shrI .u8 ((UInt8.toNat b : Nat) : Int) ((7 - (a + i) % 8 : Nat) : Int)) 1 = ((sb s (a + i) : Nat) : Int) := by
      rw [shr8 _ _ (by omega)]
      have := and8 (b.toNat / 2 ^ (7 - (a + i) % 8)) 1 (Nat.lt_of_le_of_lt (Nat.div_le_self _ _) hlt) (by omega)
      rw [Nat.and_one_is_mod] at this
      rw [show sb s (a + i) = b.toNat / 2 ^ (7 - (a + i) % 8) % 2 by unfold sb; rw [hb]; rfl]
      exact this
    have hns : num s a (i + 1) = 2 * num s a i + sb s (a + i) := rfl
    have w5 : IntKind.wrap .u64 (IntKind.wrap .u64 (2 * ((num s a i : Nat) : Int)) + IntKind.wrap .u64 ((sb s (a + i) : Nat) : Int)) = ((num s a (i + 1) : Nat) : Int) := by
      rw [wu (2 * _) (by omega), wu ((sb s (a + i) : Nat) : Int) (by omega), wu _ (by omega), hns]; omega
    refine .inr ⟨m - 1, _, by omega, by simp only [zB, decide_true, decide_false, Bool.false_eq_true, if_false, if_true, List.getElem?_cons_zero, List.getElem?_cons_succ, beq_self_eq_true, bne_self_eq_false, Int.reduceBNe, Int.reduceBEq, Int.reduceLT, Int.reduceGT, Int.reduceLE, Int.reduceGE, Nat.reduceAdd, Nat.reduceMul, Nat.reduceLeDiff, c4, hT.blk, w3, w7, w8, w9, w10, ba_get, Int.toNat_natCast, hb, aShr, w4, w5, hT.put], i + 1, T.set p (some [.str s, .int .i64 ((a + (i + 1) : Nat) : Int)]), by omega, rfl, hT.set (by omega), hF.set (.inl (by simp)) _⟩
theorem u1_short (n : Nat) (hn : n ≤ 64) (hL : 8 * s.size < a + n) : Cn B (k + 2) f_spindleref01_Reader_U 0 [.ptr p 0, .int .i64 (n : Int)] S = some (.tup [.int .u64 0, .int .i64 5], S) := by
  rw [c_spindleref01_Reader_U _ _ _ _ _ (hB.no _ _ _ _ (kn_no (by decide))), T_spindleref01_Reader_U]
  have e1 := left1_c hB k h
  have := h.le
  have c1 : ¬ ((n : Int) < 0) := by omega
  have c2 : ¬ ((n : Int) > 64) := by omega
  have c3 : ((8 * s.size - a : Nat) : Int) < (n : Int) := by omega
  simp only [zB, decide_true, decide_false, Bool.false_eq_true, if_false, if_true, List.getElem?_cons_zero, List.getElem?_cons_succ, beq_self_eq_true, bne_self_eq_false, Int.reduceBNe, Int.reduceBEq, Int.reduceLT, Int.reduceGT, Int.reduceLE, Int.reduceGE, Nat.reduceAdd, Nat.reduceMul, Nat.reduceLeDiff, c1, c2, e1, c3]
theorem bit1_ok (hL : a < 8 * s.size) : ∃ S', Cn B (k + 3) f_spindleref01_Reader_Bit 0 [.ptr p 0] S = some (.tup [.int .u8 ((sb s a : Nat) : Int), .int .i64 0], S') ∧ Rdr S' p s (a + 1) ∧ Fr S S' [p] := by
  rw [c_spindleref01_Reader_Bit _ _ _ _ (hB.no _ _ _ _ (kn_no (by decide))), T_spindleref01_Reader_Bit]
  obtain ⟨S', e, h1, h2⟩ := u1_ok hB k h 1 (by omega) (by omega)
  have hs := sb_lt s a
  have w1 : IntKind.wrap .u8 ((num s a 1 : Nat) : Int) = ((sb s a : Nat) : Int) := by
    simp only [num, Nat.mul_zero, Nat.zero_add, Nat.add_zero]; exact wb _ (by omega)
  rw [show (((1 : Nat)) : Int) = 1 from rfl] at e
  exact ⟨S', by simp only [zB, decide_true, decide_false, Bool.false_eq_true, if_false, if_true, List.getElem?_cons_zero, List.getElem?_cons_succ, beq_self_eq_true, bne_self_eq_false, Int.reduceBNe, Int.reduceBEq, Int.reduceLT, Int.reduceGT, Int.reduceLE, Int.reduceGE, Nat.reduceAdd, Nat.reduceMul, Nat.reduceLeDiff, e, w1], h1, h2⟩
theorem bit1_short (hL : a = 8 * s.size) : Cn B (k + 3) f_spindleref01_Reader_Bit 0 [.ptr p 0] S = some (.tup [.int .u8 0, .int .i64 5], S) := by
  rw [c_spindleref01_Reader_Bit _ _ _ _ (hB.no _ _ _ _ (kn_no (by decide))), T_spindleref01_Reader_Bit]
  have e := u1_short hB k h 1 (by omega) (by omega)
  rw [show (((1 : Nat)) : Int) = 1 from rfl] at e
  have w1 : IntKind.wrap .u8 0 = 0 := wb _ (by omega)
  simp only [zB, decide_true, decide_false, Bool.false_eq_true, if_false, if_true, List.getElem?_cons_zero, List.getElem?_cons_succ, beq_self_eq_true, bne_self_eq_false, Int.reduceBNe, Int.reduceBEq, Int.reduceLT, Int.reduceGT, Int.reduceLE, Int.reduceGE, Nat.reduceAdd, Nat.reduceMul, Nat.reduceLeDiff, e, w1]
theorem u1_c (n : Nat) (hn : n ≤ 64) : ∃ S', Cn B (k + 2) f_spindleref01_Reader_U 0 [.ptr p 0, .int .i64 (n : Int)] S = some (encU (rU s n a), S') ∧ Rdr S' p s ((rU s n a).pos a) ∧ Fr S S' [p] := by
  unfold rU
  by_cases hL : 8 * s.size < a + n
  · rw [if_pos hL]
    exact ⟨S, u1_short hB k h n hn hL, h, Fr.refl S _⟩
  · rw [if_neg hL]
    exact u1_ok hB k h n hn (by omega)
theorem back_c (b : Nat) (hb : b ≤ 8 * s.size) (e : Int) : ∃ S', Cn B (k + 1) f_spindleref02_back 0 [.ptr p 0, .int .i64 (b : Int), .int .i64 e] S = some (.tup [.int .u64 0, .int .i64 e], S') ∧ Rdr S' p s b ∧ Fr S S' [p] := by
  rw [c_spindleref02_back _ _ _ _ _ _ (hB.no _ _ _ _ (kn_no (by decide))), T_spindleref02_back]
  exact ⟨_, by simp only [zB, decide_true, decide_false, Bool.false_eq_true, if_false, if_true, List.getElem?_cons_zero, List.getElem?_cons_succ, beq_self_eq_true, bne_self_eq_false, Int.reduceBNe, Int.reduceBEq, Int.reduceLT, Int.reduceGT, Int.reduceLE, Int.reduceGE, Nat.reduceAdd, Nat.reduceMul, Nat.reduceLeDiff, h.put] <;> rfl, h.set hb, (Fr.refl S [p]).set (.inl (by simp)) _⟩
theorem ue1_c : ∃ S', Cn B (k + 4) f_spindleref02_Ue 0 [.ptr p 0] S = some (encU (rUe s a), S') ∧ Rdr S' p s ((rUe s a).pos a) ∧ Fr S S' [p] := by
  rw [c_spindleref02_Ue _ _ _ _ (hB.no _ _ _ _ (kn_no (by decide))), T_spindleref02_Ue]
  have hle := h.le
  simp only [zB, decide_true, decide_false, Bool.false_eq_true, if_false, if_true, List.getElem?_cons_zero, List.getElem?_cons_succ, beq_self_eq_true, bne_self_eq_false, Int.reduceBNe, Int.reduceBEq, Int.reduceLT, Int.reduceGT, Int.reduceLE, Int.reduceGE, Nat.reduceAdd, Nat.reduceMul, Nat.reduceLeDiff, h.blk]
  refine loop_meas (fun o => ∃ S', o = some (encU (rUe s a), S') ∧ Rdr S' p s ((rUe s a).pos a) ∧ Fr S S' [p])
    (fun m st => ∃ i T, i + m = 32 ∧ i ≤ 31 ∧ st = ([.ptr p 0, .int .i64 (a : Int), .int .i64 (i : Int)], T) ∧ Rdr T p s (a + i) ∧ Fr S T [p] ∧ lead s 32 a = (lead s m (a + i)).map (· + i)) 32 ⟨0, S, by omega, by omega, rfl, h, Fr.refl _ _, by cases lead s 32 (a + 0) <;> rfl⟩ ?_
  rintro m st ⟨i, T, hi, hi', rfl, hT, hF, hl⟩
  obtain ⟨m, rfl⟩ : ∃ m', m = m' + 1 := ⟨m - 1, by omega⟩
  rw [lead_succ s m (a + i)] at hl
  have hle2 := hT.le
  by_cases hs : 8 * s.size ≤ a + i
  · rw [if_pos hs] at hl
    have e2 := bit1_short hB k hT (by omega)
    obtain ⟨T', e3, h3, f3⟩ := back_c hB (k + 2) hT a hle 5
    have hr : rUe s a = .error 5 := by unfold rUe; rw [hl]; rfl
    refine .inl ⟨(1, [.int .u64 0, .int .i64 5], T'), by simp only [zB, decide_true, decide_false, Bool.false_eq_true, if_false, if_true, List.getElem?_cons_zero, List.getElem?_cons_succ, beq_self_eq_true, bne_self_eq_false, Int.reduceBNe, Int.reduceBEq, Int.reduceLT, Int.reduceGT, Int.reduceLE, Int.reduceGE, Nat.reduceAdd, Nat.reduceMul, Nat.reduceLeDiff, e2, e3], T', ?_⟩
    rw [hr]
    exact ⟨by simp only [zB, decide_true, decide_false, Bool.false_eq_true, if_false, if_true, List.getElem?_cons_zero, List.getElem?_cons_succ, beq_self_eq_true, bne_self_eq_false, Int.reduceBNe, Int.reduceBEq, Int.reduceLT, Int.reduceGT, Int.reduceLE, Int.reduceGE, Nat.reduceAdd, Nat.reduceMul, Nat.reduceLeDiff, sel, encU], h3, hF.trans f3 (fun j hj => .inl hj)⟩
  · rw [if_neg hs] at hl
    obtain ⟨T', e2, h2, f2⟩ := bit1_ok hB k hT (by omega)
    have hF' := hF.trans f2 (fun j hj => .inl hj)
    by_cases hb : sb s (a + i) = 1
    · rw [if_pos hb] at hl
      have hl' : lead s 32 a = .ok i := by rw [hl]; simp [Except.map]
      refine .inl ⟨(0, [.ptr p 0, .int .i64 (a : Int), .int .i64 (i : Int)], T'), by simp only [zB, decide_true, decide_false, Bool.false_eq_true, if_false, if_true, List.getElem?_cons_zero, List.getElem?_cons_succ, beq_self_eq_true, bne_self_eq_false, Int.reduceBNe, Int.reduceBEq, Int.reduceLT, Int.reduceGT, Int.reduceLE, Int.reduceGE, Nat.reduceAdd, Nat.reduceMul, Nat.reduceLeDiff, e2, hb, Int.natCast_one], ?_⟩
      unfold rUe
      rw [hl']
      simp only
      by_cases hL : 8 * s.size < a + i + 1 + i
      · rw [if_pos hL]
        have e3 := u1_short hB (k + 1) h2 i (by omega) hL
        obtain ⟨T2, e4, h4, f4⟩ := back_c hB (k + 2) h2 a hle 5
        exact ⟨T2, by simp only [zB, decide_true, decide_false, Bool.false_eq_true, if_false, if_true, List.getElem?_cons_zero, List.getElem?_cons_succ, beq_self_eq_true, bne_self_eq_false, Int.reduceBNe, Int.reduceBEq, Int.reduceLT, Int.reduceGT, Int.reduceLE, Int.reduceGE, Nat.reduceAdd, Nat.reduceMul, Nat.reduceLeDiff, sel, e3, e4, encU], h4, hF'.trans f4 (fun j hj => .inl hj)⟩
      · rw [if_neg hL]
        obtain ⟨T2, e3, h3, f3⟩ := u1_ok hB (k + 1) h2 i (by omega) (by omega)
        have hn := num_lt s (a + i + 1) i
        have hp : 2 ^ i ≤ 2 ^ 31 := Nat.pow_le_pow_right (by omega) (by omega)
        have hp0 : 0 < 2 ^ i := Nat.pow_pos (by omega)
        have w1 : IntKind.wrap .u64 (i : Int) = (i : Int) := wu _ (by omega)
        have w2 : shlI .u64 1 (i : Int) = ((2 ^ i : Nat) : Int) := by
          have := shl64 1 i (by omega) (by omega)
          rw [Nat.one_mul] at this
          exact this
        have w3 : IntKind.wrap .u64 (((2 ^ i : Nat) : Int) + ((num s (a + i + 1) i : Nat) : Int)) = ((2 ^ i + num s (a + i + 1) i : Nat) : Int) := by rw [wu _ (by omega)]; omega
        have w4 : IntKind.wrap .u64 (((2 ^ i + num s (a + i + 1) i : Nat) : Int) - 1) = ((2 ^ i + num s (a + i + 1) i - 1 : Nat) : Int) := by rw [wu _ (by omega)]; omega
        exact ⟨T2, by simp only [zB, decide_true, decide_false, Bool.false_eq_true, if_false, if_true, List.getElem?_cons_zero, List.getElem?_cons_succ, beq_self_eq_true, bne_self_eq_false, Int.reduceBNe, Int.reduceBEq, Int.reduceLT, Int.reduceGT, Int.reduceLE, Int.reduceGE, Nat.reduceAdd, Nat.reduceMul, Nat.reduceLeDiff, sel, e3, w1, aShl, w2, w3, w4, encU], h3, hF'.trans f3 (fun j hj => .inl hj)⟩
    · rw [if_neg hb, map_map'] at hl
      have hb0 : sb s (a + i) = 0 := by have := sb_lt s (a + i); omega
      have w1 : IntKind.wrap .i64 ((i : Int) + 1) = ((i + 1 : Nat) : Int) := by rw [wr _ (by omega)]; omega
      by_cases hm : m = 0
      · subst hm
        have hz : lead s 0 (a + i + 1) = .error 4 := rfl
        have hr : rUe s a = .error 4 := by unfold rUe; rw [hl, hz]; rfl
        have c1 : (((i + 1 : Nat) : Int) == 32) = true := by simp; omega
        obtain ⟨T2, e3, h3, f3⟩ := back_c hB (k + 2) h2 a hle 4
        refine .inl ⟨(1, [.int .u64 0, .int .i64 4], T2), by simp only [zB, decide_true, decide_false, Bool.false_eq_true, if_false, if_true, List.getElem?_cons_zero, List.getElem?_cons_succ, beq_self_eq_true, bne_self_eq_false, Int.reduceBNe, Int.reduceBEq, Int.reduceLT, Int.reduceGT, Int.reduceLE, Int.reduceGE, Nat.reduceAdd, Nat.reduceMul, Nat.reduceLeDiff, e2, hb0, w1, c1, Int.natCast_zero, e3], T2, ?_⟩
        rw [hr]
        exact ⟨by simp only [zB, decide_true, decide_false, Bool.false_eq_true, if_false, if_true, List.getElem?_cons_zero, List.getElem?_cons_succ, beq_self_eq_true, bne_self_eq_false, Int.reduceBNe, Int.reduceBEq, Int.reduceLT, Int.reduceGT, Int.reduceLE, Int.reduceGE, Nat.reduceAdd, Nat.reduceMul, Nat.reduceLeDiff, sel, encU], h3, hF'.trans f3 (fun j hj => .inl hj)⟩
      · have c1 : (((i + 1 : Nat) : Int) == 32) = false := by simp; omega
        refine .inr ⟨m, ([.ptr p 0, .int .i64 (a : Int), .int .i64 ((i + 1 : Nat) : Int)], T'), by omega, by simp only [zB, decide_true, decide_false, Bool.false_eq_true, if_false, if_true, List.getElem?_cons_zero, List.getElem?_cons_succ, beq_self_eq_true, bne_self_eq_false, Int.reduceBNe, Int.reduceBEq, Int.reduceLT, Int.reduceGT, Int.reduceLE, Int.reduceGE, Nat.reduceAdd, Nat.reduceMul, Nat.reduceLeDiff, e2, hb0, w1, c1, Int.natCast_zero], i + 1, T', by omega, by omega, rfl, h2, hF', hl⟩
theorem uk1r_c {n : Nat} (hn : n ≤ 8) : ∃ S', Cn B (k + 5) f_spindleref02_Uk 0 [.ptr p 0, .int .i64 (n : Int)] S = some (encU (rUk s n a), S') ∧ Rdr S' p s ((rUk s n a).pos a) ∧ Fr S S' [p] := by
  rw [c_spindleref02_Uk _ _ _ _ _ (hB.no _ _ _ _ (kn_no (by decide))), T_spindleref02_Uk]
  have hle := h.le
  have c1 : ¬ ((n : Int) < 0) := by omega
  have c2 : ¬ ((n : Int) > 8) := by omega
  obtain ⟨S1, e1, h1, f1⟩ := ue1_c hB k h
  unfold rUk
  cases hl : rUe s a with
  | error e =>
    rw [hl] at e1 h1
    have c3 : (e != 0) = true := by rcases rUe_err hl with rfl | rfl <;> rfl
    exact ⟨S1, by simp only [zB, decide_true, decide_false, Bool.false_eq_true, if_false, if_true, List.getElem?_cons_zero, List.getElem?_cons_succ, beq_self_eq_true, bne_self_eq_false, Int.reduceBNe, Int.reduceBEq, Int.reduceLT, Int.reduceGT, Int.reduceLE, Int.reduceGE, Nat.reduceAdd, Nat.reduceMul, Nat.reduceLeDiff, c1, c2, h.blk, e1, encU, c3], h1, f1⟩
  | ok x =>
    obtain ⟨v, b⟩ := x
    rw [hl] at e1 h1
    simp only [Rn.pos] at h1
    obtain ⟨l1, l2, l3⟩ := rUe_ok hl
    simp only
    by_cases hL : 8 * s.size < b + n
    · rw [if_pos hL]
      have e2 := u1_short hB (k + 2) h1 n (by omega) hL
      obtain ⟨S2, e3, h3, f3⟩ := back_c hB (k + 3) h1 a hle 5
      exact ⟨S2, by simp only [zB, decide_true, decide_false, Bool.false_eq_true, if_false, if_true, List.getElem?_cons_zero, List.getElem?_cons_succ, beq_self_eq_true, bne_self_eq_false, Int.reduceBNe, Int.reduceBEq, Int.reduceLT, Int.reduceGT, Int.reduceLE, Int.reduceGE, Nat.reduceAdd, Nat.reduceMul, Nat.reduceLeDiff, c1, c2, h.blk, e1, encU, e2, e3], h3, f1.trans f3 (fun j hj => .inl hj)⟩
    · rw [if_neg hL]
      obtain ⟨S2, e2, h2, f2⟩ := u1_ok hB (k + 2) h1 n (by omega) (by omega)
      have h5 : 2 ^ n ≤ 2 ^ 8 := Nat.pow_le_pow_right (by omega) hn
      have h6 : v * 2 ^ n ≤ 4294967295 * 256 := Nat.mul_le_mul (by omega) (by omega)
      have h7 := num_lt s b n
      have w1 : IntKind.wrap .u64 (n : Int) = (n : Int) := wu _ (by omega)
      have w2 := shl64 v n (by omega) (by omega)
      have w3 : IntKind.wrap .u64 (((v * 2 ^ n : Nat) : Int) + ((num s b n : Nat) : Int)) = ((v * 2 ^ n + num s b n : Nat) : Int) := by rw [wu _ (by omega)]; omega
      exact ⟨S2, by simp only [zB, decide_true, decide_false, Bool.false_eq_true, if_false, if_true, List.getElem?_cons_zero, List.getElem?_cons_succ, beq_self_eq_true, bne_self_eq_false, Int.reduceBNe, Int.reduceBEq, Int.reduceLT, Int.reduceGT, Int.reduceLE, Int.reduceGE, Nat.reduceAdd, Nat.reduceMul, Nat.reduceLeDiff, c1, c2, h.blk, e1, encU, e2, w1, aShl, w2, w3], h2, f1.trans f2 (fun j hj => .inl hj)⟩
theorem number_c {c : Nat} (hc : c < 5) : ∃ S', Cn B (k + 6) f_spindleref18_number 0 [.ptr p 0, .int .i64 (c : Int)] S = some (encU (numR s c a), S') ∧ Rdr S' p s ((numR s c a).pos a) ∧ Fr S S' [p] := by
  rw [c_spindleref18_number _ _ _ _ _ (hB.no _ _ _ _ (kn_no (by decide))), T_spindleref18_number]
  unfold numR
  by_cases h3 : c = 3
  · subst h3
    obtain ⟨S', e, h1, f1⟩ := u1_c hB (k + 3) h 6 (by omega)
    have c1 : (((3 : Nat) : Int) == 3) = true := rfl
    rw [if_pos rfl]
    rw [show (((6 : Nat)) : Int) = 6 from rfl] at e
    refine ⟨S', ?_, h1, f1⟩
    cases hr : rU s 6 a with
    | error e' => rw [hr] at e; simp only [zB, decide_true, decide_false, Bool.false_eq_true, if_false, if_true, List.getElem?_cons_zero, List.getElem?_cons_succ, beq_self_eq_true, bne_self_eq_false, Int.reduceBNe, Int.reduceBEq, Int.reduceLT, Int.reduceGT, Int.reduceLE, Int.reduceGE, Nat.reduceAdd, Nat.reduceMul, Nat.reduceLeDiff, c1, e, encU]
    | ok x => obtain ⟨v, b⟩ := x; rw [hr] at e; simp only [zB, decide_true, decide_false, Bool.false_eq_true, if_false, if_true, List.getElem?_cons_zero, List.getElem?_cons_succ, beq_self_eq_true, bne_self_eq_false, Int.reduceBNe, Int.reduceBEq, Int.reduceLT, Int.reduceGT, Int.reduceLE, Int.reduceGE, Nat.reduceAdd, Nat.reduceMul, Nat.reduceLeDiff, c1, e, encU]
  · have c1 : ((c : Int) == 3) = false := by simp; omega
    rw [if_neg h3]
    obtain ⟨S', e, h1, f1⟩ := uk1r_c hB k h (n := c % 4) (by omega)
    have w1 : Int.tmod (c : Int) 4 = ((c % 4 : Nat) : Int) := rfl
    refine ⟨S', ?_, h1, f1⟩
    cases hr : rUk s (c % 4) a with
    | error e' => rw [hr] at e; simp only [zB, decide_true, decide_false, Bool.false_eq_true, if_false, if_true, List.getElem?_cons_zero, List.getElem?_cons_succ, beq_self_eq_true, bne_self_eq_false, Int.reduceBNe, Int.reduceBEq, Int.reduceLT, Int.reduceGT, Int.reduceLE, Int.reduceGE, Nat.reduceAdd, Nat.reduceMul, Nat.reduceLeDiff, c1, w1, e, encU]
    | ok x => obtain ⟨v, b⟩ := x; rw [hr] at e; simp only [zB, decide_true, decide_false, Bool.false_eq_true, if_false, if_true, List.getElem?_cons_zero, List.getElem?_cons_succ, beq_self_eq_true, bne_self_eq_false, Int.reduceBNe, Int.reduceBEq, Int.reduceLT, Int.reduceGT, Int.reduceLE, Int.reduceGE, Nat.reduceAdd, Nat.reduceMul, Nat.reduceLeDiff, c1, w1, e, encU]
end
/-- The pairs, as a row. -/
def pairsA : AV := .is 62 (pairL.flatMap fun p => [.int .i64 (p.1 : Int), .int .i64 (p.2 : Int)])
theorem pairs_chk : chk f_spindleref18_pairs [] pairsA = true := by kernel_rfl
theorem pair1_all : ((List.range 62).all fun n => chk f_spindleref18_Pair [.int .i64 (n : Int)] (.tup [.int .i64 ((pairL.getD n (0, 0)).1 : Int), .int .i64 ((pairL.getD n (0, 0)).2 : Int), .int .i64 0])) = true := by kernel_rfl
theorem cut1_all : ((List.range 16).all fun n => chk f_spindleref18_cut [.int .i64 (n : Int)] (.tup [.int .i64 (cutB n : Int), .int .i64 (cutD n : Int)])) = true := by kernel_rfl
theorem sym1_all : ((List.range 17).all fun t => (List.range 4).all fun o => chk f_spindleref18_Symbol [.int .i64 (t : Int), .int .i64 (o : Int)] (.tup [.int .i64 (symR t o).1, .int .i64 (symR t o).2])) = true := by kernel_rfl
theorem kn_pair1 {n : Int} (h : ¬ (0 ≤ n ∧ n ≤ 61)) : kn f_spindleref18_Pair [.int .i64 n] = false := by
  have h1 : decide (f_spindleref18_Pair ∈ [f_vlc_cut, f_spindleref18_cut]) = false := by decide
  have h2 : (decide (0 ≤ n) && decide (n ≤ 61)) = false := by simp; omega
  simp only [kn, knA, h1, Bool.false_and, Bool.and_assoc, h2, Bool.and_false, Bool.or_self]
theorem kn_sym {t o : Int} (h : ¬ (0 ≤ t ∧ t ≤ 16 ∧ 0 ≤ o ∧ o ≤ 3)) : kn f_spindleref18_Symbol [.int .i64 t, .int .i64 o] = false := by
  have h2 : (decide (0 ≤ t) && (decide (t ≤ 16) && (decide (0 ≤ o) && decide (o ≤ 3)))) = false := by simp; omega
  simp only [kn, knA, Bool.and_assoc, h2, Bool.and_false]
theorem pairL_in : ∀ i : Fin 62, (pairL.getD i.val (0, 0)).1 ≤ 16 ∧ (pairL.getD i.val (0, 0)).2 ≤ 3 ∧ (pairsA = .is 62 (pairL.flatMap fun p => [.int .i64 (p.1 : Int), .int .i64 (p.2 : Int)])) := by
  intro i
  have : ∀ i : Fin 62, (pairL.getD i.val (0, 0)).1 ≤ 16 ∧ (pairL.getD i.val (0, 0)).2 ≤ 3 := by decide
  exact ⟨(this i).1, (this i).2, rfl⟩
theorem flat2_at : ∀ (l : List (Nat × Nat)) (i : Nat), i < l.length → List.take 2 (List.drop (i * 2) (l.flatMap fun p => [AV.int .i64 (p.1 : Int), AV.int .i64 (p.2 : Int)])) = [.int .i64 ((l.getD i (0, 0)).1 : Int), .int .i64 ((l.getD i (0, 0)).2 : Int)] ∧ i * 2 + 2 ≤ (l.flatMap fun p => [AV.int .i64 (p.1 : Int), AV.int .i64 (p.2 : Int)]).length
  | [], i, h => by simp at h
  | p :: l, 0, h => by simp
  | p :: l, i + 1, h => by
    obtain ⟨h1, h2⟩ := flat2_at l i (by simpa using h)
    rw [show (i + 1) * 2 = i * 2 + 1 + 1 by omega]
    simp only [List.flatMap_cons, List.cons_append, List.nil_append, List.drop_succ_cons, List.getD_cons_succ, List.length_cons]
    exact ⟨h1, by omega⟩
section
variable {B : CallF} (hB : Silent B) (k : Nat) {S : Heap}
include hB
theorem pairs_c : Cn B k f_spindleref18_pairs 0 [] S = some (pairsA, S) := chk_c hB pairs_chk _ _
theorem sized1_c (n : Int) : Cn B (k + 1) f_spindleref18_Sized 0 [.int .i64 n] S = some (.bool (sizedI n), S) := by
  rw [c_spindleref18_Sized _ _ _ _ (hB.no _ _ _ _ (kn_no (by decide))), T_spindleref18_Sized]
  cases h1 : (n == 4)
  · cases h2 : (n == 15)
    · simp only [zB, decide_true, decide_false, Bool.false_eq_true, if_false, if_true, List.getElem?_cons_zero, List.getElem?_cons_succ, beq_self_eq_true, bne_self_eq_false, Int.reduceBNe, Int.reduceBEq, Int.reduceLT, Int.reduceGT, Int.reduceLE, Int.reduceGE, Nat.reduceAdd, Nat.reduceMul, Nat.reduceLeDiff, h1, h2, sizedI, Bool.false_or]
    · simp only [zB, decide_true, decide_false, Bool.false_eq_true, if_false, if_true, List.getElem?_cons_zero, List.getElem?_cons_succ, beq_self_eq_true, bne_self_eq_false, Int.reduceBNe, Int.reduceBEq, Int.reduceLT, Int.reduceGT, Int.reduceLE, Int.reduceGE, Nat.reduceAdd, Nat.reduceMul, Nat.reduceLeDiff, h1, h2, sizedI, Bool.false_or, Bool.true_or]
  · simp only [zB, decide_true, decide_false, Bool.false_eq_true, if_false, if_true, List.getElem?_cons_zero, List.getElem?_cons_succ, beq_self_eq_true, bne_self_eq_false, Int.reduceBNe, Int.reduceBEq, Int.reduceLT, Int.reduceGT, Int.reduceLE, Int.reduceGE, Nat.reduceAdd, Nat.reduceMul, Nat.reduceLeDiff, h1, sizedI, Bool.true_or]
theorem cut1_c (m : Nat) (hm : m ≤ 15) : Cn B k f_spindleref18_cut 0 [.int .i64 (m : Int)] S = some (.tup [.int .i64 (cutB m : Int), .int .i64 (cutD m : Int)], S) :=
  chk_c hB (List.all_eq_true.1 cut1_all m (List.mem_range.2 (by omega))) _ _
theorem pair1_c (n : Int) : Cn B (k + 1) f_spindleref18_Pair 0 [.int .i64 n] S = some (.tup [.int .i64 (pairR n).1, .int .i64 (pairR n).2.1, .int .i64 (pairR n).2.2], S) := by
  unfold pairR
  have e1 := pairs_c hB k (S := S)
  have hl : aLen Try.prog 100 pairsA = some (.int .i64 62) := len_is100 62 _
  by_cases h1 : n < 0
  · rw [c_spindleref18_Pair _ _ _ _ (hB.no _ _ _ _ (kn_pair1 (by omega))), T_spindleref18_Pair, if_pos (.inl h1)]
    simp only [zB, decide_true, decide_false, Bool.false_eq_true, if_false, if_true, List.getElem?_cons_zero, List.getElem?_cons_succ, beq_self_eq_true, bne_self_eq_false, Int.reduceBNe, Int.reduceBEq, Int.reduceLT, Int.reduceGT, Int.reduceLE, Int.reduceGE, Nat.reduceAdd, Nat.reduceMul, Nat.reduceLeDiff, e1, h1]
  by_cases h2 : n ≥ 62
  · rw [c_spindleref18_Pair _ _ _ _ (hB.no _ _ _ _ (kn_pair1 (by omega))), T_spindleref18_Pair, if_pos (.inr h2)]
    simp only [zB, decide_true, decide_false, Bool.false_eq_true, if_false, if_true, List.getElem?_cons_zero, List.getElem?_cons_succ, beq_self_eq_true, bne_self_eq_false, Int.reduceBNe, Int.reduceBEq, Int.reduceLT, Int.reduceGT, Int.reduceLE, Int.reduceGE, Nat.reduceAdd, Nat.reduceMul, Nat.reduceLeDiff, e1, h1, hl, h2]
  rw [if_neg (by simp only [not_or]; exact ⟨h1, h2⟩)]
  obtain ⟨i, rfl⟩ := Int.eq_ofNat_of_zero_le (show 0 ≤ n by omega)
  exact chk_c hB (List.all_eq_true.1 pair1_all i (List.mem_range.2 (by omega))) _ _
theorem symbol1_c (t o : Int) : Cn B (k + 1) f_spindleref18_Symbol 0 [.int .i64 t, .int .i64 o] S = some (.tup [.int .i64 (symR t o).1, .int .i64 (symR t o).2], S) := by
  by_cases hin : 0 ≤ t ∧ t ≤ 16 ∧ 0 ≤ o ∧ o ≤ 3
  · obtain ⟨i, rfl⟩ := Int.eq_ofNat_of_zero_le hin.1
    obtain ⟨j, rfl⟩ := Int.eq_ofNat_of_zero_le hin.2.2.1
    exact chk_c hB (List.all_eq_true.1 (List.all_eq_true.1 sym1_all i (List.mem_range.2 (by omega))) j (List.mem_range.2 (by omega))) _ _
  rw [c_spindleref18_Symbol _ _ _ _ _ (hB.no _ _ _ _ (kn_sym hin)), T_spindleref18_Symbol]
  have e1 := pairs_c hB k (S := S)
  have hl : aLen Try.prog 100 pairsA = some (.int .i64 62) := len_is100 62 _
  have hs : symR t o = (0, 3) := by
    unfold symR m3
    rw [if_pos]
    split <;> omega
  rw [hs]
  simp only [zB, decide_true, decide_false, Bool.false_eq_true, if_false, if_true, List.getElem?_cons_zero, List.getElem?_cons_succ, beq_self_eq_true, bne_self_eq_false, Int.reduceBNe, Int.reduceBEq, Int.reduceLT, Int.reduceGT, Int.reduceLE, Int.reduceGE, Nat.reduceAdd, Nat.reduceMul, Nat.reduceLeDiff, e1]
  refine loop_meas (fun r => r = some (AV.tup [.int .i64 0, .int .i64 3], S)) (fun m st => ∃ i, i + m = 62 ∧ st = ([.int .i64 t, .int .i64 o, pairsA, .int .i64 (i : Int)], S)) 62 ⟨0, rfl, rfl⟩ ?_
  rintro m st ⟨i, him, rfl⟩
  cases m with
  | zero =>
    have c1 : ¬ ((i : Int) < 62) := by omega
    exact .inl ⟨(0, [], S), by simp only [zB, decide_true, decide_false, Bool.false_eq_true, if_false, if_true, List.getElem?_cons_zero, List.getElem?_cons_succ, beq_self_eq_true, bne_self_eq_false, Int.reduceBNe, Int.reduceBEq, Int.reduceLT, Int.reduceGT, Int.reduceLE, Int.reduceGE, Nat.reduceAdd, Nat.reduceMul, Nat.reduceLeDiff, hl, c1], by simp only [zB, decide_true, decide_false, Bool.false_eq_true, if_false, if_true, List.getElem?_cons_zero, List.getElem?_cons_succ, beq_self_eq_true, bne_self_eq_false, Int.reduceBNe, Int.reduceBEq, Int.reduceLT, Int.reduceGT, Int.reduceLE, Int.reduceGE, Nat.reduceAdd, Nat.reduceMul, Nat.reduceLeDiff, sel]⟩
  | succ m =>
    have c1 : (i : Int) < 62 := by omega
    have hi : i < 62 := by omega
    obtain ⟨l1, l2, _⟩ := pairL_in ⟨i, hi⟩
    simp only at l1 l2
    obtain ⟨t1, t2⟩ := flat2_at pairL i (by show i < 62; exact hi)
    have hix : aIdx 2 pairsA (i : Int) = some (.iptr ((pairL.flatMap fun p => [AV.int .i64 (p.1 : Int), AV.int .i64 (p.2 : Int)]).drop (i * 2))) := by simp [aIdx, pairsA, hi, c1]
    have hlen : 2 ≤ ((pairL.flatMap fun p => [AV.int .i64 (p.1 : Int), AV.int .i64 (p.2 : Int)]).drop (i * 2)).length := by rw [List.length_drop]; omega
    have hne : ([((pairL.getD i (0, 0)).1 : Int), ((pairL.getD i (0, 0)).2 : Int)] == [t, o]) = false := by
      cases hq : ([((pairL.getD i (0, 0)).1 : Int), ((pairL.getD i (0, 0)).2 : Int)] == [t, o]) with
      | false => rfl
      | true =>
        have := eq_of_beq hq
        simp only [List.cons.injEq, and_true] at this
        omega
    have w1 : IntKind.wrap .i64 ((i : Int) + 1) = ((i + 1 : Nat) : Int) := by rw [wr _ (by omega)]; omega
    exact .inr ⟨m, ([.int .i64 t, .int .i64 o, pairsA, .int .i64 ((i + 1 : Nat) : Int)], S), by omega, by simp only [zB, decide_true, decide_false, Bool.false_eq_true, if_false, if_true, List.getElem?_cons_zero, List.getElem?_cons_succ, beq_self_eq_true, bne_self_eq_false, Int.reduceBNe, Int.reduceBEq, Int.reduceLT, Int.reduceGT, Int.reduceLE, Int.reduceGE, Nat.reduceAdd, Nat.reduceMul, Nat.reduceLeDiff, hl, c1, hix, hlen, List.drop_zero, t1, eql_pair, hne, w1], i + 1, by omega, rfl⟩
omit hB in
theorem tok_same : ∀ v : Fin 62, (v.val ≥ bef 5 ↔ ¬ (pairL.getD v.val (0, 0)).1 ≤ 4) ∧ (v.val ≥ bef 16 ↔ ¬ (pairL.getD v.val (0, 0)).1 ≤ 15) ∧ (v.val ≥ bef 17 ↔ ¬ (pairL.getD v.val (0, 0)).1 ≤ 16) := by decide
theorem token1_c {p : Nat} {s : ByteArray} {a : Nat} (h : Rdr S p s a) (class' size : Int) :
    ∃ S', Cn B (k + 7) f_spindleref18_Token 0 [.ptr p 0, .int .i64 class', .int .i64 size] S = some (.tup [.int .i64 (tokR s a class' size).1, .int .i64 (tokR s a class' size).2.1, .int .i64 (tokR s a class' size).2.2.1], S') ∧ Rdr S' p s (tokR s a class' size).2.2.2 ∧ Fr S S' [p] := by
  rw [c_spindleref18_Token _ _ _ _ _ _ (hB.no _ _ _ _ (kn_no (by decide))), T_spindleref18_Token]
  unfold tokR
  by_cases g1 : class' < 0
  · rw [if_pos (.inl g1)]; exact ⟨S, by simp only [zB, decide_true, decide_false, Bool.false_eq_true, if_false, if_true, List.getElem?_cons_zero, List.getElem?_cons_succ, beq_self_eq_true, bne_self_eq_false, Int.reduceBNe, Int.reduceBEq, Int.reduceLT, Int.reduceGT, Int.reduceLE, Int.reduceGE, Nat.reduceAdd, Nat.reduceMul, Nat.reduceLeDiff, g1], h, Fr.refl _ _⟩
  by_cases g2 : class' > 4
  · rw [if_pos (.inr (.inl g2))]; exact ⟨S, by simp only [zB, decide_true, decide_false, Bool.false_eq_true, if_false, if_true, List.getElem?_cons_zero, List.getElem?_cons_succ, beq_self_eq_true, bne_self_eq_false, Int.reduceBNe, Int.reduceBEq, Int.reduceLT, Int.reduceGT, Int.reduceLE, Int.reduceGE, Nat.reduceAdd, Nat.reduceMul, Nat.reduceLeDiff, g1, g2], h, Fr.refl _ _⟩
  have e1 := sized1_c hB (k + 5) (S := S) size
  cases g3 : sizedI size with
  | false =>
    rw [if_pos (.inr (.inr rfl))]; rw [g3] at e1
    exact ⟨S, by simp only [zB, decide_true, decide_false, Bool.false_eq_true, if_false, if_true, List.getElem?_cons_zero, List.getElem?_cons_succ, beq_self_eq_true, bne_self_eq_false, Int.reduceBNe, Int.reduceBEq, Int.reduceLT, Int.reduceGT, Int.reduceLE, Int.reduceGE, Nat.reduceAdd, Nat.reduceMul, Nat.reduceLeDiff, g1, g2, e1], h, Fr.refl _ _⟩
  | true =>
    rw [if_neg (by simp only [not_or]; exact ⟨g1, g2, by simp⟩)]
    rw [g3] at e1
    obtain ⟨c, rfl⟩ := Int.eq_ofNat_of_zero_le (show 0 ≤ class' by omega)
    obtain ⟨S1, e2, h1, f1⟩ := number_c hB k h (c := c) (by omega)
    have hle := h.le
    simp only [Int.toNat_natCast]
    cases hr : numR s c a with
    | error e =>
      have c3 : (e != 0) = true := by rcases numR_err hr with rfl | rfl <;> rfl
      rw [hr] at e2 h1
      exact ⟨S1, by simp only [zB, decide_true, decide_false, Bool.false_eq_true, if_false, if_true, List.getElem?_cons_zero, List.getElem?_cons_succ, beq_self_eq_true, bne_self_eq_false, Int.reduceBNe, Int.reduceBEq, Int.reduceLT, Int.reduceGT, Int.reduceLE, Int.reduceGE, Nat.reduceAdd, Nat.reduceMul, Nat.reduceLeDiff, g1, g2, e1, h.blk, e2, encU, c3], h1, f1⟩
    | ok x =>
      obtain ⟨v, b⟩ := x
      rw [hr] at e2 h1
      simp only [Rn.pos] at h1
      obtain ⟨r1, r2, r3⟩ := numR_ok hr
      have hs := (sizedI_iff size).1 g3
      simp only
      have e3 := h1.put (a : Int)
      have f3 : Fr S (S1.set p (some [.str s, .int .i64 (a : Int)])) [p] := f1.set (.inl (by simp)) _
      by_cases g4 : v < 62
      · have c4 : (v : Int) < 62 := by omega
        have w1 : IntKind.wrap .i64 (v : Int) = (v : Int) := wr _ (by omega)
        have e4 := pair1_c hB (k + 5) (S := S1) (v : Int)
        have hp : pairR (v : Int) = (((pairL.getD v (0, 0)).1 : Int), ((pairL.getD v (0, 0)).2 : Int), 0) := by unfold pairR; rw [if_neg (by omega)]; rfl
        rw [hp] at e4 ⊢
        have hts := tok_same ⟨v, g4⟩
        simp only at hts e4 ⊢
        have hiff : v ≥ bef (size.toNat + 1) ↔ ¬ ((pairL.getD v (0, 0)).1 : Int) ≤ size := by
          rcases hs with rfl | rfl | rfl
          · exact hts.1.trans (by omega)
          · exact hts.2.1.trans (by omega)
          · exact hts.2.2.trans (by omega)
        by_cases g5 : v ≥ bef (size.toNat + 1)
        · rw [if_pos g5]
          have c5 := hiff.1 g5
          exact ⟨_, by simp only [zB, decide_true, decide_false, Bool.false_eq_true, if_false, if_true, List.getElem?_cons_zero, List.getElem?_cons_succ, beq_self_eq_true, bne_self_eq_false, Int.reduceBNe, Int.reduceBEq, Int.reduceLT, Int.reduceGT, Int.reduceLE, Int.reduceGE, Nat.reduceAdd, Nat.reduceMul, Nat.reduceLeDiff, g1, g2, e1, h.blk, e2, encU, c4, w1, e4, c5, e3] <;> rfl, h1.set hle, f3⟩
        · rw [if_neg g5]
          have c5 : ((pairL.getD v (0, 0)).1 : Int) ≤ size := by
            by_cases h : ((pairL.getD v (0, 0)).1 : Int) ≤ size
            · exact h
            · exact absurd (hiff.2 h) g5
          exact ⟨S1, by simp only [zB, decide_true, decide_false, Bool.false_eq_true, if_false, if_true, List.getElem?_cons_zero, List.getElem?_cons_succ, beq_self_eq_true, bne_self_eq_false, Int.reduceBNe, Int.reduceBEq, Int.reduceLT, Int.reduceGT, Int.reduceLE, Int.reduceGE, Nat.reduceAdd, Nat.reduceMul, Nat.reduceLeDiff, g1, g2, e1, h.blk, e2, encU, c4, w1, e4, c5], h1, f1⟩
      · have c4 : ¬ (v : Int) < 62 := by omega
        obtain ⟨b1, b2⟩ := bef_le size g3
        rw [if_pos (by omega)]
        exact ⟨_, by simp only [zB, decide_true, decide_false, Bool.false_eq_true, if_false, if_true, List.getElem?_cons_zero, List.getElem?_cons_succ, beq_self_eq_true, bne_self_eq_false, Int.reduceBNe, Int.reduceBEq, Int.reduceLT, Int.reduceGT, Int.reduceLE, Int.reduceGE, Nat.reduceAdd, Nat.reduceMul, Nat.reduceLeDiff, g1, g2, e1, h.blk, e2, encU, c4, e3] <;> rfl, h1.set hle, f3⟩
theorem zeros1_c {p : Nat} {s : ByteArray} {a : Nat} (h : Rdr S p s a) (size total : Int) :
    ∃ S', Cn B (k + 3) f_spindleref18_Zeros 0 [.ptr p 0, .int .i64 size, .int .i64 total] S = some (.tup [.int .i64 (zerR s a size total).1, .int .i64 (zerR s a size total).2.1], S') ∧ Rdr S' p s (zerR s a size total).2.2 ∧ Fr S S' [p] := by
  rw [c_spindleref18_Zeros _ _ _ _ _ _ (hB.no _ _ _ _ (kn_no (by decide))), T_spindleref18_Zeros]
  have e1 := sized1_c hB (k + 1) (S := S) size
  unfold zerR
  cases g1 : sizedI size with
  | false =>
    rw [if_pos (.inl rfl)]; rw [g1] at e1
    exact ⟨S, by simp only [zB, decide_true, decide_false, Bool.false_eq_true, if_false, if_true, List.getElem?_cons_zero, List.getElem?_cons_succ, beq_self_eq_true, bne_self_eq_false, Int.reduceBNe, Int.reduceBEq, Int.reduceLT, Int.reduceGT, Int.reduceLE, Int.reduceGE, Nat.reduceAdd, Nat.reduceMul, Nat.reduceLeDiff, e1], h, Fr.refl _ _⟩
  | true =>
    rw [g1] at e1
    by_cases g2 : total < 1
    · rw [if_pos (.inr (.inl g2))]; exact ⟨S, by simp only [zB, decide_true, decide_false, Bool.false_eq_true, if_false, if_true, List.getElem?_cons_zero, List.getElem?_cons_succ, beq_self_eq_true, bne_self_eq_false, Int.reduceBNe, Int.reduceBEq, Int.reduceLT, Int.reduceGT, Int.reduceLE, Int.reduceGE, Nat.reduceAdd, Nat.reduceMul, Nat.reduceLeDiff, e1, g2], h, Fr.refl _ _⟩
    by_cases g3 : total > size
    · rw [if_pos (.inr (.inr g3))]; exact ⟨S, by simp only [zB, decide_true, decide_false, Bool.false_eq_true, if_false, if_true, List.getElem?_cons_zero, List.getElem?_cons_succ, beq_self_eq_true, bne_self_eq_false, Int.reduceBNe, Int.reduceBEq, Int.reduceLT, Int.reduceGT, Int.reduceLE, Int.reduceGE, Nat.reduceAdd, Nat.reduceMul, Nat.reduceLeDiff, e1, g2, g3], h, Fr.refl _ _⟩
    rw [if_neg (by simp only [not_or]; exact ⟨by simp, g2, g3⟩)]
    have hs := (sizedI_iff size).1 g1
    have hle := h.le
    obtain ⟨m, hm⟩ : ∃ m, m = (size - total).toNat := ⟨_, rfl⟩
    rw [← hm]
    have hm15 : m ≤ 15 := by omega
    have w1 : IntKind.wrap .i64 (size - total) = (m : Int) := by rw [wr _ (by omega)]; omega
    have e2 := cut1_c hB (k + 2) (S := S) m hm15
    obtain ⟨f1, f2, f3, f4, f5, f6⟩ := cut_facts ⟨m, by omega⟩
    simp only at f1 f2 f3 f4 f5 f6
    by_cases g5 : 8 * s.size < a + cutB m
    · rw [if_pos g5]
      have e4 := u1_short hB k h (cutB m) (by omega) g5
      exact ⟨S, by simp only [zB, decide_true, decide_false, Bool.false_eq_true, if_false, if_true, List.getElem?_cons_zero, List.getElem?_cons_succ, beq_self_eq_true, bne_self_eq_false, Int.reduceBNe, Int.reduceBEq, Int.reduceLT, Int.reduceGT, Int.reduceLE, Int.reduceGE, Nat.reduceAdd, Nat.reduceMul, Nat.reduceLeDiff, e1, g2, g3, w1, e2, h.blk, e4], h, Fr.refl _ _⟩
    · rw [if_neg g5]
      obtain ⟨S2, e4, h2, r2⟩ := u1_ok hB k h (cutB m) (by omega) (by omega)
      have hlt := num_lt s a (cutB m)
      have hp16 : 2 ^ cutB m ≤ 2 ^ 4 := Nat.pow_le_pow_right (by omega) f3
      have w2 : IntKind.wrap .i64 ((num s a (cutB m) : Nat) : Int) = ((num s a (cutB m) : Nat) : Int) := wr _ (by omega)
      by_cases g6 : num s a (cutB m) < cutD m
      · rw [if_pos g6]
        have c2 : ((num s a (cutB m) : Nat) : Int) < ((cutD m : Nat) : Int) := by omega
        exact ⟨S2, by simp only [zB, decide_true, decide_false, Bool.false_eq_true, if_false, if_true, List.getElem?_cons_zero, List.getElem?_cons_succ, beq_self_eq_true, bne_self_eq_false, Int.reduceBNe, Int.reduceBEq, Int.reduceLT, Int.reduceGT, Int.reduceLE, Int.reduceGE, Nat.reduceAdd, Nat.reduceMul, Nat.reduceLeDiff, e1, g2, g3, w1, e2, h.blk, e4, w2, c2], h2, r2⟩
      · rw [if_neg g6]
        have c2 : ¬ ((num s a (cutB m) : Nat) : Int) < ((cutD m : Nat) : Int) := by omega
        by_cases g7 : 8 * s.size < a + cutB m + 1
        · rw [if_pos g7]
          have e5 := u1_short hB k h2 1 (by omega) (by omega)
          rw [show (((1 : Nat)) : Int) = 1 from rfl] at e5
          have e6 := h2.put (a : Int)
          exact ⟨_, by simp only [zB, decide_true, decide_false, Bool.false_eq_true, if_false, if_true, List.getElem?_cons_zero, List.getElem?_cons_succ, beq_self_eq_true, bne_self_eq_false, Int.reduceBNe, Int.reduceBEq, Int.reduceLT, Int.reduceGT, Int.reduceLE, Int.reduceGE, Nat.reduceAdd, Nat.reduceMul, Nat.reduceLeDiff, e1, g2, g3, w1, e2, h.blk, e4, w2, c2, e5, e6] <;> rfl, h2.set hle, r2.set (.inl (by simp)) _⟩
        · rw [if_neg g7]
          obtain ⟨S3, e5, h3, r3⟩ := u1_ok hB k h2 1 (by omega) (by omega)
          rw [show (((1 : Nat)) : Int) = 1 from rfl] at e5
          have hlt2 := num_lt s a (cutB m + 1)
          have hp32 : 2 ^ (cutB m + 1) ≤ 2 ^ 5 := Nat.pow_le_pow_right (by omega) (by omega)
          have hn1 : num s (a + cutB m) 1 = sb s (a + cutB m) := by simp [num]
          have hns : num s a (cutB m + 1) = 2 * num s a (cutB m) + sb s (a + cutB m) := rfl
          rw [hn1] at e5
          have w3 : IntKind.wrap .u64 (IntKind.wrap .u64 (2 * ((num s a (cutB m) : Nat) : Int)) + ((sb s (a + cutB m) : Nat) : Int)) = ((num s a (cutB m + 1) : Nat) : Int) := by
            rw [wu (2 * _) (by omega), wu _ (by omega), hns]; omega
          have w4 : IntKind.wrap .i64 ((num s a (cutB m + 1) : Nat) : Int) = ((num s a (cutB m + 1) : Nat) : Int) := wr _ (by omega)
          have w5 : IntKind.wrap .i64 (((num s a (cutB m + 1) : Nat) : Int) - ((cutD m : Nat) : Int)) = ((num s a (cutB m + 1) : Nat) : Int) - ((cutD m : Nat) : Int) := wr _ (by omega)
          exact ⟨S3, by simp only [zB, decide_true, decide_false, Bool.false_eq_true, if_false, if_true, List.getElem?_cons_zero, List.getElem?_cons_succ, beq_self_eq_true, bne_self_eq_false, Int.reduceBNe, Int.reduceBEq, Int.reduceLT, Int.reduceGT, Int.reduceLE, Int.reduceGE, Nat.reduceAdd, Nat.reduceMul, Nat.reduceLeDiff, e1, g2, g3, w1, e2, h.blk, e4, w2, c2, e5, w3, w4, w5], h3, r2.trans r3 (fun j hj => .inl hj)⟩
theorem run1_c {p : Nat} {s : ByteArray} {a : Nat} (h : Rdr S p s a) (left : Int) :
    ∃ S', Cn B (k + 4) f_spindleref18_Run 0 [.ptr p 0, .int .i64 left] S = some (.tup [.int .i64 (runR s a left).1, .int .i64 (runR s a left).2.1], S') ∧ Rdr S' p s (runR s a left).2.2 ∧ Fr S S' [p] := by
  rw [c_spindleref18_Run _ _ _ _ _ (hB.no _ _ _ _ (kn_no (by decide))), T_spindleref18_Run]
  unfold runR
  by_cases g1 : left < 0
  · rw [if_pos (.inl g1)]; exact ⟨S, by simp only [zB, decide_true, decide_false, Bool.false_eq_true, if_false, if_true, List.getElem?_cons_zero, List.getElem?_cons_succ, beq_self_eq_true, bne_self_eq_false, Int.reduceBNe, Int.reduceBEq, Int.reduceLT, Int.reduceGT, Int.reduceLE, Int.reduceGE, Nat.reduceAdd, Nat.reduceMul, Nat.reduceLeDiff, g1], h, Fr.refl _ _⟩
  by_cases g2 : left > 15
  · rw [if_pos (.inr g2)]; exact ⟨S, by simp only [zB, decide_true, decide_false, Bool.false_eq_true, if_false, if_true, List.getElem?_cons_zero, List.getElem?_cons_succ, beq_self_eq_true, bne_self_eq_false, Int.reduceBNe, Int.reduceBEq, Int.reduceLT, Int.reduceGT, Int.reduceLE, Int.reduceGE, Nat.reduceAdd, Nat.reduceMul, Nat.reduceLeDiff, g1, g2], h, Fr.refl _ _⟩
  rw [if_neg (by simp only [not_or]; exact ⟨g1, g2⟩)]
  obtain ⟨l, rfl⟩ := Int.eq_ofNat_of_zero_le (show 0 ≤ left by omega)
  simp only [Int.toNat_natCast]
  have hle := h.le
  simp only [zB, decide_true, decide_false, Bool.false_eq_true, if_false, if_true, List.getElem?_cons_zero, List.getElem?_cons_succ, beq_self_eq_true, bne_self_eq_false, Int.reduceBNe, Int.reduceBEq, Int.reduceLT, Int.reduceGT, Int.reduceLE, Int.reduceGE, Nat.reduceAdd, Nat.reduceMul, Nat.reduceLeDiff, g1, g2, h.blk]
  refine loop_meas (fun o => ∃ S', o = some (AV.tup [.int .i64 (match runN s l a with | none => ((0 : Int), (5 : Int), a) | some n => ((n : Int), 0, a + min (n + 1) l)).1, .int .i64 (match runN s l a with | none => ((0 : Int), (5 : Int), a) | some n => ((n : Int), 0, a + min (n + 1) l)).2.1], S') ∧
      Rdr S' p s (match runN s l a with | none => ((0 : Int), (5 : Int), a) | some n => ((n : Int), 0, a + min (n + 1) l)).2.2 ∧ Fr S S' [p])
    (fun m st => ∃ i T, i + m = l ∧ st = ([.ptr p 0, .int .i64 (l : Int), .int .i64 (a : Int), .int .i64 (i : Int)], T) ∧ Rdr T p s (a + i) ∧ Fr S T [p] ∧ runN s l a = (runN s m (a + i)).map (· + i)) l ⟨0, S, by omega, rfl, h, Fr.refl _ _, by cases runN s l (a + 0) <;> rfl⟩ ?_
  rintro m st ⟨i, T, hi, rfl, hT, hF, hl⟩
  cases m with
  | zero =>
    have hil : i = l := by omega
    have c1 : ¬ ((i : Int) < (l : Int)) := by omega
    have hr : runN s l a = some i := by rw [hl, runN_zero]; simp
    refine .inl ⟨(0, [.int .i64 (i : Int)], T), by simp only [zB, decide_true, decide_false, Bool.false_eq_true, if_false, if_true, List.getElem?_cons_zero, List.getElem?_cons_succ, beq_self_eq_true, bne_self_eq_false, Int.reduceBNe, Int.reduceBEq, Int.reduceLT, Int.reduceGT, Int.reduceLE, Int.reduceGE, Nat.reduceAdd, Nat.reduceMul, Nat.reduceLeDiff, c1], T, ?_⟩
    rw [hr]
    refine ⟨by simp only [zB, decide_true, decide_false, Bool.false_eq_true, if_false, if_true, List.getElem?_cons_zero, List.getElem?_cons_succ, beq_self_eq_true, bne_self_eq_false, Int.reduceBNe, Int.reduceBEq, Int.reduceLT, Int.reduceGT, Int.reduceLE, Int.reduceGE, Nat.reduceAdd, Nat.reduceMul, Nat.reduceLeDiff, sel], ?_, hF⟩
    show Rdr T p s (a + min (i + 1) l)
    rw [show min (i + 1) l = i by omega]; exact hT
  | succ m =>
    have c1 : (i : Int) < (l : Int) := by omega
    rw [runN_succ s m (a + i)] at hl
    have hle2 := hT.le
    by_cases hs : 8 * s.size ≤ a + i
    · rw [if_pos hs] at hl
      have e2 := bit1_short hB k hT (by omega)
      have hr : runN s l a = none := hl
      have e3 := hT.put (a : Int)
      refine .inl ⟨(1, [.int .i64 0, .int .i64 5], T.set p (some [.str s, .int .i64 (a : Int)])), by simp only [zB, decide_true, decide_false, Bool.false_eq_true, if_false, if_true, List.getElem?_cons_zero, List.getElem?_cons_succ, beq_self_eq_true, bne_self_eq_false, Int.reduceBNe, Int.reduceBEq, Int.reduceLT, Int.reduceGT, Int.reduceLE, Int.reduceGE, Nat.reduceAdd, Nat.reduceMul, Nat.reduceLeDiff, c1, e2, e3], T.set p (some [.str s, .int .i64 (a : Int)]), ?_⟩
      rw [hr]
      exact ⟨by simp only [zB, decide_true, decide_false, Bool.false_eq_true, if_false, if_true, List.getElem?_cons_zero, List.getElem?_cons_succ, beq_self_eq_true, bne_self_eq_false, Int.reduceBNe, Int.reduceBEq, Int.reduceLT, Int.reduceGT, Int.reduceLE, Int.reduceGE, Nat.reduceAdd, Nat.reduceMul, Nat.reduceLeDiff, sel], hT.set hle, hF.set (.inl (by simp)) _⟩
    · rw [if_neg hs] at hl
      obtain ⟨T', e2, h2, f2⟩ := bit1_ok hB k hT (by omega)
      have hF' := hF.trans f2 (fun j hj => .inl hj)
      by_cases hb : sb s (a + i) = 1
      · rw [if_pos hb] at hl
        have hr : runN s l a = some i := by rw [hl]; simp
        refine .inl ⟨(0, [.int .i64 (i : Int)], T'), by simp only [zB, decide_true, decide_false, Bool.false_eq_true, if_false, if_true, List.getElem?_cons_zero, List.getElem?_cons_succ, beq_self_eq_true, bne_self_eq_false, Int.reduceBNe, Int.reduceBEq, Int.reduceLT, Int.reduceGT, Int.reduceLE, Int.reduceGE, Nat.reduceAdd, Nat.reduceMul, Nat.reduceLeDiff, c1, e2, hb, Int.natCast_one], T', ?_⟩
        rw [hr]
        refine ⟨by simp only [zB, decide_true, decide_false, Bool.false_eq_true, if_false, if_true, List.getElem?_cons_zero, List.getElem?_cons_succ, beq_self_eq_true, bne_self_eq_false, Int.reduceBNe, Int.reduceBEq, Int.reduceLT, Int.reduceGT, Int.reduceLE, Int.reduceGE, Nat.reduceAdd, Nat.reduceMul, Nat.reduceLeDiff, sel], ?_, hF'⟩
        show Rdr T' p s (a + min (i + 1) l)
        rw [show min (i + 1) l = i + 1 by omega, ← Nat.add_assoc]; exact h2
      · rw [if_neg hb, omap_map] at hl
        have hb0 : sb s (a + i) = 0 := by have := sb_lt s (a + i); omega
        have w1 : IntKind.wrap .i64 ((i : Int) + 1) = ((i + 1 : Nat) : Int) := by rw [wr _ (by omega)]; omega
        exact .inr ⟨m, ([.ptr p 0, .int .i64 (l : Int), .int .i64 (a : Int), .int .i64 ((i + 1 : Nat) : Int)], T'), by omega, by simp only [zB, decide_true, decide_false, Bool.false_eq_true, if_false, if_true, List.getElem?_cons_zero, List.getElem?_cons_succ, beq_self_eq_true, bne_self_eq_false, Int.reduceBNe, Int.reduceBEq, Int.reduceLT, Int.reduceGT, Int.reduceLE, Int.reduceGE, Nat.reduceAdd, Nat.reduceMul, Nat.reduceLeDiff, c1, e2, hb0, w1, Int.natCast_zero], i + 1, T', by omega, rfl, h2, hF', hl⟩
end
end Go.Ab.tV
