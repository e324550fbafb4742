/- Part 1 of what the statement needs; no condition beyond what each theorem says. -/
import Derived.Test.YtfkmmiinlipcpaaRLB
set_option maxRecDepth 100000
set_option linter.unusedSimpArgs false
set_option linter.unusedVariables false
set_option linter.unusedSectionVars false
namespace Go.Ab.tV
open Go Go.Proofs
theorem bloop {step : LSt → Option (LSt ⊕ (Nat × LSt))} {s : LSt} {α : Type} {f : Nat × LSt → Option α} :
    bO (ctlV.loop step s) f = (match step s with | some (.inl s') => bO (ctlV.loop step s') f | some (.inr x) => f x | none => none) := by
  show bO (loopW step s) f = _
  cases h : step s with
  | none =>
    have : loopW step s = none := by
      unfold loopW
      rw [dif_neg]
      rintro ⟨x, hx⟩
      cases hx with
      | done k => rw [h] at k; cases k
      | cont k _ => rw [h] at k; cases k
    rw [this]; rfl
  | some y =>
    cases y with
    | inl s' => simp only; rw [loopW_cont h]; rfl
    | inr x => simp only; rw [loopW_done h]; rfl
theorem loop_meas {step : LSt → Option (LSt ⊕ (Nat × LSt))} {α : Type} {f : Nat × LSt → Option α} {s0 : LSt} (W : Option α → Prop) (P : Nat → LSt → Prop) (m0 : Nat) (h0 : P m0 s0)
    (hs : ∀ m s, P m s → (∃ x, step s = some (.inr x) ∧ W (f x)) ∨ (∃ m' s', m' < m ∧ step s = some (.inl s') ∧ P m' s')) : W (bO (ctlV.loop step s0) f) := by
  induction m0 using Nat.strongRecOn generalizing s0 with
  | ind m ih =>
    rcases hs m s0 h0 with ⟨x, h1, h2⟩ | ⟨m', s', h1, h2, h3⟩
    · rw [bloop, h1]; exact h2
    · rw [bloop, h2]; exact ih m' h1 h3
def Fr (S S' : Heap) (l : List Nat) : Prop := S.next ≤ S'.next ∧ S'.cx = S.cx ∧ ∀ j, j < S.next → j ∉ l → S'.blk j = S.blk j
theorem Fr.refl (S : Heap) (l : List Nat) : Fr S S l := ⟨Nat.le_refl _, rfl, fun _ _ _ => rfl⟩
theorem Fr.trans {S T U : Heap} {l l' : List Nat} (h1 : Fr S T l) (h2 : Fr T U l') (h : ∀ j ∈ l', j ∈ l ∨ S.next ≤ j) : Fr S U l :=
  ⟨Nat.le_trans h1.1 h2.1, h2.2.1.trans h1.2.1, fun j hj hn => (h2.2.2 j (Nat.lt_of_lt_of_le hj h1.1) fun hm => by rcases h j hm with h | h; exact hn h; omega).trans (h1.2.2 j hj hn)⟩
theorem Fr.weak {S T : Heap} {l l' : List Nat} (h : Fr S T l) (hl : ∀ j ∈ l, j ∈ l' ∨ S.next ≤ j) : Fr S T l' := (Fr.refl S l').trans h hl
theorem Fr.nil {S T : Heap} {l : List Nat} (h : Fr S T []) : Fr S T l := h.weak fun j hj => by simp at hj
theorem Fr.alloc (S : Heap) (c : List AV) (l : List Nat) : Fr S (S.alloc c) l := ⟨Nat.le_succ _, rfl, fun j hj _ => by simp only [Heap.alloc]; rw [if_neg (by omega)]⟩
theorem Fr.set {S T : Heap} {l : List Nat} (h : Fr S T l) {i : Nat} (hi : i ∈ l ∨ S.next ≤ i) (c : Option (List AV)) : Fr S (T.set i c) l :=
  ⟨h.1, h.2.1, fun j hj hn => by
    have : ¬ j = i := fun e => by subst e; rcases hi with h | h; exact hn h; omega
    simp only [Heap.set]; rw [if_neg this]; exact h.2.2 j hj hn⟩
theorem Fr.alloc' {S T : Heap} {l : List Nat} (h : Fr S T l) (c : List AV) : Fr S (T.alloc c) l := h.trans (Fr.alloc T c []) (fun j hj => by simp at hj)
theorem Fr.get {S T : Heap} {l : List Nat} (h : Fr S T l) {j : Nat} (hj : j < S.next) (hn : j ∉ l) : T.blk j = S.blk j := h.2.2 j hj hn
theorem set_next (S : Heap) (i : Nat) (c : Option (List AV)) : (S.set i c).next = S.next := (rfl)
theorem alloc_next (S : Heap) (c : List AV) : (S.alloc c).next = S.next + 1 := (rfl)
theorem alloc_blk (S : Heap) (c : List AV) : (S.alloc c).blk S.next = some c := by simp [Heap.alloc]
theorem set_blk (S : Heap) (i : Nat) (c : Option (List AV)) : (S.set i c).blk i = c := by simp [Heap.set]
theorem set_other (S : Heap) {i j : Nat} (c : Option (List AV)) (h : j ≠ i) : (S.set i c).blk j = S.blk j := by simp [Heap.set, h]
theorem alloc_other (S : Heap) {j : Nat} (c : List AV) (h : j ≠ S.next) : (S.alloc c).blk j = S.blk j := by simp [Heap.alloc, h]
theorem putV_p {i o : Nat} {vs cs : List AV} {S : Heap} (h : S.blk i = some cs) (hl : o + vs.length ≤ cs.length) : putV (.ptr i o) vs S = some (S.set i (some (setCells cs o vs))) := by
  simp only [putV, h, if_pos hl]
theorem aShl (k : IntKind) (x : Int) (y : Nat) : aShift .shl k x (y : Int) = some (.int k (shlI k x y)) := by
  unfold aShift; rw [if_neg (by omega)]
theorem aShr (k : IntKind) (x : Int) (y : Nat) : aShift .shr k x (y : Int) = some (.int k (shrI k x y)) := by
  unfold aShift; rw [if_neg (by omega)]
theorem ba_get (s : ByteArray) (i : Nat) : s[i]? = s.data[i]? := by
  by_cases h : i < s.size
  · rw [getElem?_pos s i h, getElem?_pos s.data i h]; rfl
  · rw [getElem?_neg s i h, getElem?_neg s.data i h]
/-- The functions of which something is known beforehand, computed by the kernel, and for which arguments. -/
def knownF : List Nat := [f_spindlelaw18_known, f_spindlelaw20_known, f_spindlelaw34_awake, f_spindleref18_pairs, f_vlc_cut, f_spindleref18_cut, f_vlc_Pair, f_spindleref18_Pair, f_spindleref18_Symbol]
def knA (f : Nat) (args : List AV) : Bool := match args with
  | [] => decide (f ∈ [f_spindlelaw18_known, f_spindlelaw20_known, f_spindlelaw34_awake, f_spindleref18_pairs])
  | [.int .i64 n] => (decide (f ∈ [f_vlc_cut, f_spindleref18_cut]) && decide (0 ≤ n) && decide (n ≤ 15)) || (decide (f ∈ [f_vlc_Pair, f_spindleref18_Pair]) && decide (0 ≤ n) && decide (n ≤ 61))
  | [.int .i64 a, .int .i64 b] => decide (f ∈ [f_spindleref18_Symbol]) && decide (0 ≤ a) && decide (a ≤ 16) && decide (0 ≤ b) && decide (b ≤ 3)
  | _ => false
def kn (f : Nat) (args : List AV) : Bool := decide (f ∈ knownF) && knA f args
theorem kn_no {f : Nat} {args : List AV} (h : f ∉ knownF) : kn f args = false := by simp [kn, h]
/-- What is known beforehand: of the known calls what the kernel computes, of others nothing. -/
structure Silent (B : CallF) : Prop where
  no : ∀ f way args S, kn f args = false → B f way args S = none
  yes : ∀ f args S, kn f args = true → B f 0 args S = locC (tabN (rows (ctlF 1000)) 60) f 0 args S
noncomputable def chk (f : Nat) (args : List AV) (v : AV) : Bool := (match tabN (rows (ctlF 1000)) 60 f 0 args S0 with | some r => r.1.beq v | none => false) && noId v && noIdL args && kn f args
theorem chk_c {B : CallF} (hB : Silent B) {f : Nat} {args : List AV} {v : AV} (h : chk f args v = true) (k : Nat) (S : Heap) : Cn B k f 0 args S = some (v, S) := by
  simp only [chk, Bool.and_eq_true] at h
  obtain ⟨⟨⟨h1, h2⟩, h3⟩, h4⟩ := h
  have hb : B f 0 args S = some (v, S) := by
    rw [hB.yes _ _ _ h4]
    unfold locC
    rw [if_pos h3]
    split at h1
    · rename_i r hr
      rw [hr]
      have := AV.beq_eq _ _ h1
      simp only [this, h2, if_true]
    · cases h1
  cases k with
  | zero => exact hb
  | succ k => simp only [Cn, callN, hb]
structure Rdr (S : Heap) (p : Nat) (s : ByteArray) (a : Nat) : Prop where
  blk : S.blk p = some [.str s, .int .i64 (a : Int)]
  lt : p < S.next
  sz : s.size ≤ 1099511627776
  le : a ≤ 8 * s.size
theorem Rdr.fr {S T : Heap} {p : Nat} {s : ByteArray} {a : Nat} {l : List Nat} (h : Rdr S p s a) (f : Fr S T l) (hp : p ∉ l) : Rdr T p s a :=
  ⟨(f.get h.lt hp).trans h.blk, Nat.lt_of_lt_of_le h.lt f.1, h.sz, h.le⟩
theorem Rdr.put {S : Heap} {p : Nat} {s : ByteArray} {a : Nat} (h : Rdr S p s a) (x : Int) : putV (.ptr p 1) [.int .i64 x] S = some (S.set p (some [.str s, .int .i64 x])) := by
  rw [putV_p h.blk (by simp)]; rfl
theorem Rdr.set {S : Heap} {p : Nat} {s : ByteArray} {a : Nat} (h : Rdr S p s a) {a' : Nat} (ha : a' ≤ 8 * s.size) : Rdr (S.set p (some [.str s, .int .i64 (a' : Int)])) p s a' :=
  ⟨set_blk _ _ _, h.lt, h.sz, ha⟩
section
variable {B : CallF} (hB : Silent B) (k : Nat) {S : Heap} {p : Nat} {s : ByteArray} {a : Nat} (h : Rdr S p s a)
include hB h
theorem left_c : Cn B (k + 1) f_bits_Reader_Left 0 [.ptr p 0] S = some (.int .i64 ((8 * s.size - a : Nat) : Int), S) := by
  rw [c_bits_Reader_Left _ _ _ _ (hB.no _ _ _ _ (kn_no (by decide))), T_bits_Reader_Left]
  have := h.sz
  have := h.le
  have w1 : IntKind.wrap .i64 (8 * (s.size : Int)) = 8 * s.size := wr _ (by omega)
  have w2 : IntKind.wrap .i64 (8 * (s.size : Int) - a) = ((8 * s.size - a : Nat) : Int) := by rw [wr _ (by omega)]; omega
  simp only [zB, decide_true, decide_false, Bool.false_eq_true, if_false, if_true, List.getElem?_cons_zero, List.getElem?_cons_succ, beq_self_eq_true, bne_self_eq_false, Int.reduceBNe, Int.reduceBEq, Int.reduceLT, Int.reduceGT, Int.reduceLE, Int.reduceGE, Nat.reduceAdd, Nat.reduceMul, Nat.reduceLeDiff, h.blk, w1, w2]
theorem pos_c : Cn B (k + 1) f_bits_Reader_Pos 0 [.ptr p 0] S = some (.int .i64 (a : Int), S) := by
  rw [c_bits_Reader_Pos _ _ _ _ (hB.no _ _ _ _ (kn_no (by decide))), T_bits_Reader_Pos]
  simp only [zB, decide_true, decide_false, Bool.false_eq_true, if_false, if_true, List.getElem?_cons_zero, List.getElem?_cons_succ, beq_self_eq_true, bne_self_eq_false, Int.reduceBNe, Int.reduceBEq, Int.reduceLT, Int.reduceGT, Int.reduceLE, Int.reduceGE, Nat.reduceAdd, Nat.reduceMul, Nat.reduceLeDiff, h.blk]
theorem u_ok (n : Nat) (hn : n ≤ 64) (hL : a + n ≤ 8 * s.size) :
    ∃ S', Cn B (k + 2) f_bits_Reader_U 0 [.ptr p 0, .int .i64 (n : Int)] S = some (.tup [.int .u64 ((num s a n : Nat) : Int), .int .i64 0], S') ∧ Rdr S' p s (a + n) ∧ Fr S S' [p] := by
  rw [c_bits_Reader_U _ _ _ _ _ (hB.no _ _ _ _ (kn_no (by decide))), T_bits_Reader_U]
  have e1 := left_c hB k h
  have c1 : ¬ ((n : Int) < 0) := by omega
  have c2 : ¬ ((n : Int) > 64) := by omega
  have c3 : ¬ ((n : Int) > ((8 * s.size - a : Nat) : Int)) := by omega
  simp only [zB, decide_true, decide_false, Bool.false_eq_true, if_false, if_true, List.getElem?_cons_zero, List.getElem?_cons_succ, beq_self_eq_true, bne_self_eq_false, Int.reduceBNe, Int.reduceBEq, Int.reduceLT, Int.reduceGT, Int.reduceLE, Int.reduceGE, Nat.reduceAdd, Nat.reduceMul, Nat.reduceLeDiff, c1, c2, e1, c3]
  refine loop_meas (fun o => ∃ S', o = some (AV.tup [.int .u64 ((num s a n : Nat) : Int), .int .i64 0], S') ∧ Rdr S' p s (a + n) ∧ Fr S S' [p])
    (fun m st => ∃ d T, d + m = n ∧ st = ([.ptr p 0, .int .i64 (m : Int), .int .u64 ((num s a d : Nat) : Int)], T) ∧ Rdr T p s (a + d) ∧ Fr S T [p]) n ⟨0, S, by omega, by simp [num], h, Fr.refl S _⟩ ?_
  rintro m st ⟨d, T, hd, rfl, hT, hF⟩
  by_cases hm : m = 0
  · subst hm
    have : d = n := by omega
    subst this
    have c4 : ¬ (((0 : Nat) : Int) > 0) := by omega
    refine .inl ⟨(0, [.int .u64 ((num s a d : Nat) : Int)], T), by simp only [zB, decide_true, decide_false, Bool.false_eq_true, if_false, if_true, List.getElem?_cons_zero, List.getElem?_cons_succ, beq_self_eq_true, bne_self_eq_false, Int.reduceBNe, Int.reduceBEq, Int.reduceLT, Int.reduceGT, Int.reduceLE, Int.reduceGE, Nat.reduceAdd, Nat.reduceMul, Nat.reduceLeDiff, c4], T, by simp only [zB, decide_true, decide_false, Bool.false_eq_true, if_false, if_true, List.getElem?_cons_zero, List.getElem?_cons_succ, beq_self_eq_true, bne_self_eq_false, Int.reduceBNe, Int.reduceBEq, Int.reduceLT, Int.reduceGT, Int.reduceLE, Int.reduceGE, Nat.reduceAdd, Nat.reduceMul, Nat.reduceLeDiff, sel], hT, hF⟩
  · have hsz := h.sz
    have hle := hT.le
    have c4 : (m : Int) > 0 := by omega
    obtain ⟨b, hb⟩ : ∃ b, s.data[(a + d) / 8]? = some b := by
      have : (a + d) / 8 < s.data.size := by have : s.size = s.data.size := rfl; omega
      exact ⟨_, Array.getElem?_eq_getElem this⟩
    obtain ⟨r, hr⟩ : ∃ r, r = (a + d) % 8 := ⟨_, rfl⟩
    obtain ⟨kk, hk⟩ : ∃ kk, kk = min (8 - r) m := ⟨_, rfl⟩
    have w3 : IntKind.wrap .i64 (8 - Int.tmod ((a + d : Nat) : Int) 8) = ((8 - r : Nat) : Int) := by rw [tmodL, ← hr, wr _ (by omega)]; omega
    have w4 : (if ((8 - r : Nat) : Int) < (m : Int) then ((8 - r : Nat) : Int) else (m : Int)) = (kk : Int) := by split <;> omega
    have w5 : IntKind.wrap .i64 (8 - ((8 - r : Nat) : Int)) = (r : Int) := by rw [wr _ (by omega)]; omega
    have w6 : IntKind.wrap .i64 (8 - (kk : Int)) = ((8 - kk : Nat) : Int) := by rw [wr _ (by omega)]; omega
    have w7 : IntKind.wrap .i64 (Int.tdiv ((a + d : Nat) : Int) 8) = (((a + d) / 8 : Nat) : Int) := by rw [tdivL, wr _ (by omega)]
    have w8 : (0 : Int) ≤ (((a + d) / 8 : Nat) : Int) := by omega
    have w9 : IntKind.wrap .i64 (((a + d : Nat) : Int) + (kk : Int)) = ((a + (d + kk) : Nat) : Int) := by rw [wr _ (by omega)]; omega
    have w10 : IntKind.wrap .i64 ((m : Int) - (kk : Int)) = ((m - kk : Nat) : Int) := by rw [wr _ (by omega)]; omega
    have hnum := num_lt s a d
    have hbyte := num_lt s (a + d) kk
    have hp1 : num s a d * 2 ^ kk + num s (a + d) kk < 18446744073709551616 := by
      have h1 := num_add s a d kk
      have h2 := num_lt s a (d + kk)
      have h3 : 2 ^ (d + kk) ≤ 2 ^ 64 := Nat.pow_le_pow_right (by omega) (by omega)
      omega
    have hv : orI .u64 (shlI .u64 ((num s a d : Nat) : Int) (kk : Int)) (IntKind.wrap .u64 (shrI .u8 (shlI .u8 ((UInt8.toNat b : Nat) : Int) (r : Int)) ((8 - kk : Nat) : Int))) = ((num s a (d + kk) : Nat) : Int) := by
      have hb2 := num_byte hb kk (by omega)
      rw [← hr] at hb2
      have hlt : num s (a + d) kk < 256 := by
        rw [hb2]; exact Nat.lt_of_le_of_lt (Nat.div_le_self _ _) (Nat.mod_lt _ (by omega))
      rw [shl8 _ _ (by omega), shr8 _ _ (by omega), ← hb2, wu _ (by omega), shl64 _ _ (by omega) (by omega), or64 _ _ (by omega) (by omega), or_mul _ _ _ hbyte, num_add]
    refine .inr ⟨m - kk, _, by omega, by simp only [zB, decide_true, decide_false, Bool.false_eq_true, if_false, if_true, List.getElem?_cons_zero, List.getElem?_cons_succ, beq_self_eq_true, bne_self_eq_false, Int.reduceBNe, Int.reduceBEq, Int.reduceLT, Int.reduceGT, Int.reduceLE, Int.reduceGE, Nat.reduceAdd, Nat.reduceMul, Nat.reduceLeDiff, c4, hT.blk, w3, w4, w5, w6, w7, w8, w9, w10, ba_get, Int.toNat_natCast, hb, aShl, aShr, hT.put, hv], d + kk, T.set p (some [.str s, .int .i64 ((a + (d + kk) : Nat) : Int)]), by omega, rfl, hT.set (by omega), hF.set (.inl (by simp)) _⟩
theorem u_short (n : Nat) (hn : n ≤ 64) (hL : 8 * s.size < a + n) : Cn B (k + 2) f_bits_Reader_U 0 [.ptr p 0, .int .i64 (n : Int)] S = some (.tup [.int .u64 0, .int .i64 5], S) := by
  rw [c_bits_Reader_U _ _ _ _ _ (hB.no _ _ _ _ (kn_no (by decide))), T_bits_Reader_U]
  have e1 := left_c hB k h
  have := h.le
  have c1 : ¬ ((n : Int) < 0) := by omega
  have c2 : ¬ ((n : Int) > 64) := by omega
  have c3 : ((n : Int) > ((8 * s.size - a : Nat) : Int)) := by omega
  simp only [zB, decide_true, decide_false, Bool.false_eq_true, if_false, if_true, List.getElem?_cons_zero, List.getElem?_cons_succ, beq_self_eq_true, bne_self_eq_false, Int.reduceBNe, Int.reduceBEq, Int.reduceLT, Int.reduceGT, Int.reduceLE, Int.reduceGE, Nat.reduceAdd, Nat.reduceMul, Nat.reduceLeDiff, c1, c2, e1, c3]
theorem bit_ok (hL : a < 8 * s.size) : ∃ S', Cn B (k + 3) f_bits_Reader_Bit 0 [.ptr p 0] S = some (.tup [.int .u8 ((sb s a : Nat) : Int), .int .i64 0], S') ∧ Rdr S' p s (a + 1) ∧ Fr S S' [p] := by
  rw [c_bits_Reader_Bit _ _ _ _ (hB.no _ _ _ _ (kn_no (by decide))), T_bits_Reader_Bit]
  obtain ⟨S', e, h1, h2⟩ := u_ok hB k h 1 (by omega) (by omega)
  have hs := sb_lt s a
  have w1 : IntKind.wrap .u8 ((num s a 1 : Nat) : Int) = ((sb s a : Nat) : Int) := by
    simp only [num, Nat.mul_zero, Nat.zero_add, Nat.add_zero]; exact wb _ (by omega)
  rw [show (((1 : Nat)) : Int) = 1 from rfl] at e
  exact ⟨S', by simp only [zB, decide_true, decide_false, Bool.false_eq_true, if_false, if_true, List.getElem?_cons_zero, List.getElem?_cons_succ, beq_self_eq_true, bne_self_eq_false, Int.reduceBNe, Int.reduceBEq, Int.reduceLT, Int.reduceGT, Int.reduceLE, Int.reduceGE, Nat.reduceAdd, Nat.reduceMul, Nat.reduceLeDiff, e, w1], h1, h2⟩
theorem bit_short (hL : a = 8 * s.size) : Cn B (k + 3) f_bits_Reader_Bit 0 [.ptr p 0] S = some (.tup [.int .u8 0, .int .i64 5], S) := by
  rw [c_bits_Reader_Bit _ _ _ _ (hB.no _ _ _ _ (kn_no (by decide))), T_bits_Reader_Bit]
  have e := u_short hB k h 1 (by omega) (by omega)
  rw [show (((1 : Nat)) : Int) = 1 from rfl] at e
  have w1 : IntKind.wrap .u8 0 = 0 := wb _ (by omega)
  simp only [zB, decide_true, decide_false, Bool.false_eq_true, if_false, if_true, List.getElem?_cons_zero, List.getElem?_cons_succ, beq_self_eq_true, bne_self_eq_false, Int.reduceBNe, Int.reduceBEq, Int.reduceLT, Int.reduceGT, Int.reduceLE, Int.reduceGE, Nat.reduceAdd, Nat.reduceMul, Nat.reduceLeDiff, e, w1]
theorem rcopy_c : ∃ S', Cn B (k + 1) f_bits_Reader_Copy 0 [.ptr p 0] S = some (.ptr S.next 0, S') ∧ Rdr S' S.next s a ∧ Fr S S' [] := by
  rw [c_bits_Reader_Copy _ _ _ _ (hB.no _ _ _ _ (kn_no (by decide))), T_bits_Reader_Copy]
  have t2 : ∀ x y : AV, List.take 2 (List.drop 0 [x, y]) = [x, y] := fun _ _ => rfl
  have hp : ∀ c : List AV, c.length = 2 → ∀ x y : AV, putV (.ptr S.next 0) [x, y] (S.alloc c) = some ((S.alloc c).set S.next (some [x, y])) := fun c hc x y => by
    rw [putV_p (alloc_blk S c) (by simp [hc])]
    match c, hc with
    | [_, _], _ => rfl
  refine ⟨(S.alloc [.str ByteArray.empty, .int .i64 0]).set S.next (some [.str s, .int .i64 (a : Int)]), ?_, ⟨set_blk _ _ _, by rw [set_next, alloc_next]; omega, h.sz, h.le⟩, (Fr.alloc S _ _).set (.inr (Nat.le_refl _)) _⟩
  simp only [zB, decide_true, decide_false, Bool.false_eq_true, if_false, if_true, List.getElem?_cons_zero, List.getElem?_cons_succ, beq_self_eq_true, bne_self_eq_false, Int.reduceBNe, Int.reduceBEq, Int.reduceLT, Int.reduceGT, Int.reduceLE, Int.reduceGE, Nat.reduceAdd, Nat.reduceMul, Nat.reduceLeDiff, h.blk, t2, hp [.str ByteArray.empty, .int .i64 0] rfl, List.length_cons, List.length_nil, List.all_cons, List.all_nil, cell, Bool.and_true, Bool.and_self]
end
def lead (s : ByteArray) : Nat → Nat → Except Int Nat
  | 0, _ => .error 4
  | f + 1, a => if 8 * s.size ≤ a then .error 5 else if sb s a = 1 then .ok 0 else (lead s f (a + 1)).map (· + 1)
theorem lead_succ (s : ByteArray) (f a : Nat) : lead s (f + 1) a = if 8 * s.size ≤ a then .error 5 else if sb s a = 1 then .ok 0 else (lead s f (a + 1)).map (· + 1) := rfl
theorem map_map' (x : Except Int Nat) (i : Nat) : (x.map (· + 1)).map (· + i) = x.map (· + (i + 1)) := by
  cases x with
  | error e => rfl
  | ok v => simp only [Except.map]; congr 1; omega
theorem lead_ok {s : ByteArray} : ∀ {f a z : Nat}, lead s f a = .ok z → z < f ∧ a + z + 1 ≤ 8 * s.size ∧ num s a (z + 1) = 1
  | 0, a, z, h => by cases h
  | f + 1, a, z, h => by
    unfold lead at h
    split at h
    · cases h
    · split at h
      · rename_i h1 h2
        cases h
        exact ⟨by omega, by omega, by simp [num, h2]⟩
      · rename_i h1 h2
        cases hl : lead s f (a + 1) with
        | error e => rw [hl] at h; cases h
        | ok w =>
          rw [hl] at h
          simp only [Except.map, Except.ok.injEq] at h
          subst h
          obtain ⟨h3, h4, h5⟩ := lead_ok hl
          have := sb_lt s a
          have h6 : sb s a = 0 := by omega
          exact ⟨by omega, by omega, by rw [num_succ, h6, h5]; omega⟩
def encLen : Except Int Nat → AV
  | .ok z => .tup [.int .i64 ((2 * z + 1 : Nat) : Int), .int .i64 0]
  | .error e => .tup [.int .i64 0, .int .i64 e]
section
variable {B : CallF} (hB : Silent B) (k : Nat) {S : Heap} {p : Nat} {s : ByteArray} {a : Nat} (h : Rdr S p s a)
include hB h
theorem length_c : ∃ S', Cn B (k + 4) f_golomb_length 0 [.ptr p 0] S = some (encLen (lead s 32 a), S') ∧ Fr S S' [] := by
  rw [c_golomb_length _ _ _ _ (hB.no _ _ _ _ (kn_no (by decide))), T_golomb_length]
  obtain ⟨S1, e1, h1, f1⟩ := rcopy_c hB (k + 2) h
  simp only [zB, decide_true, decide_false, Bool.false_eq_true, if_false, if_true, List.getElem?_cons_zero, List.getElem?_cons_succ, beq_self_eq_true, bne_self_eq_false, Int.reduceBNe, Int.reduceBEq, Int.reduceLT, Int.reduceGT, Int.reduceLE, Int.reduceGE, Nat.reduceAdd, Nat.reduceMul, Nat.reduceLeDiff, e1]
  refine loop_meas (fun o => ∃ S', o = some (encLen (lead s 32 a), S') ∧ Fr S S' [])
    (fun m st => ∃ i T, i + m = 32 ∧ i ≤ 31 ∧ st = ([.ptr S.next 0, .int .i64 (i : Int)], T) ∧ Rdr T S.next s (a + i) ∧ Fr S T [] ∧ lead s 32 a = (lead s m (a + i)).map (· + i)) 32 ⟨0, S1, by omega, by omega, rfl, h1, f1, ?_⟩ ?_
  · cases lead s 32 (a + 0) <;> rfl
  rintro m st ⟨i, T, hi, hi', rfl, hT, hF, hl⟩
  obtain ⟨m, rfl⟩ : ∃ m', m = m' + 1 := ⟨m - 1, by omega⟩
  rw [lead_succ s m (a + i)] at hl
  have hle := hT.le
  by_cases hs : 8 * s.size ≤ a + i
  · rw [if_pos hs] at hl
    have e2 := bit_short hB k hT (by omega)
    refine .inl ⟨(1, [.int .i64 0, .int .i64 5], T), by simp only [zB, decide_true, decide_false, Bool.false_eq_true, if_false, if_true, List.getElem?_cons_zero, List.getElem?_cons_succ, beq_self_eq_true, bne_self_eq_false, Int.reduceBNe, Int.reduceBEq, Int.reduceLT, Int.reduceGT, Int.reduceLE, Int.reduceGE, Nat.reduceAdd, Nat.reduceMul, Nat.reduceLeDiff, e2], T, by simp only [zB, decide_true, decide_false, Bool.false_eq_true, if_false, if_true, List.getElem?_cons_zero, List.getElem?_cons_succ, beq_self_eq_true, bne_self_eq_false, Int.reduceBNe, Int.reduceBEq, Int.reduceLT, Int.reduceGT, Int.reduceLE, Int.reduceGE, Nat.reduceAdd, Nat.reduceMul, Nat.reduceLeDiff, sel, hl, Except.map, encLen], hF⟩
  · rw [if_neg hs] at hl
    obtain ⟨T', e2, h2, f2⟩ := bit_ok hB k hT (by omega)
    have hF' := hF.trans f2 (fun j hj => by simp at hj; omega)
    by_cases hb : sb s (a + i) = 1
    · rw [if_pos hb] at hl
      have w1 : IntKind.wrap .i64 (2 * (i : Int)) = 2 * i := wr _ (by omega)
      have w2 : IntKind.wrap .i64 (2 * (i : Int) + 1) = ((2 * i + 1 : Nat) : Int) := by rw [wr _ (by omega)]; omega
      refine .inl ⟨(0, [.int .i64 (i : Int)], T'), by simp only [zB, decide_true, decide_false, Bool.false_eq_true, if_false, if_true, List.getElem?_cons_zero, List.getElem?_cons_succ, beq_self_eq_true, bne_self_eq_false, Int.reduceBNe, Int.reduceBEq, Int.reduceLT, Int.reduceGT, Int.reduceLE, Int.reduceGE, Nat.reduceAdd, Nat.reduceMul, Nat.reduceLeDiff, e2, hb, Int.natCast_one], T', by simp only [zB, decide_true, decide_false, Bool.false_eq_true, if_false, if_true, List.getElem?_cons_zero, List.getElem?_cons_succ, beq_self_eq_true, bne_self_eq_false, Int.reduceBNe, Int.reduceBEq, Int.reduceLT, Int.reduceGT, Int.reduceLE, Int.reduceGE, Nat.reduceAdd, Nat.reduceMul, Nat.reduceLeDiff, sel, hl, Except.map, encLen, w1, w2], hF'⟩
    · rw [if_neg hb, map_map'] at hl
      have hb0 : sb s (a + i) = 0 := by have := sb_lt s (a + i); omega
      have w1 : IntKind.wrap .i64 ((i : Int) + 1) = ((i + 1 : Nat) : Int) := by rw [wr _ (by omega)]; omega
      by_cases hm : m = 0
      · subst hm
        have hz : lead s 0 (a + i + 1) = .error 4 := rfl
        have c1 : ((i + 1 : Nat) : Int) > 31 := by omega
        refine .inl ⟨(1, [.int .i64 0, .int .i64 4], T'), by simp only [zB, decide_true, decide_false, Bool.false_eq_true, if_false, if_true, List.getElem?_cons_zero, List.getElem?_cons_succ, beq_self_eq_true, bne_self_eq_false, Int.reduceBNe, Int.reduceBEq, Int.reduceLT, Int.reduceGT, Int.reduceLE, Int.reduceGE, Nat.reduceAdd, Nat.reduceMul, Nat.reduceLeDiff, e2, hb0, w1, c1, Int.natCast_zero], T', by simp only [zB, decide_true, decide_false, Bool.false_eq_true, if_false, if_true, List.getElem?_cons_zero, List.getElem?_cons_succ, beq_self_eq_true, bne_self_eq_false, Int.reduceBNe, Int.reduceBEq, Int.reduceLT, Int.reduceGT, Int.reduceLE, Int.reduceGE, Nat.reduceAdd, Nat.reduceMul, Nat.reduceLeDiff, sel, hl, hz, Except.map, encLen], hF'⟩
      · have c1 : ¬ ((i + 1 : Nat) : Int) > 31 := by omega
        refine .inr ⟨m, ([.ptr S.next 0, .int .i64 ((i + 1 : Nat) : Int)], T'), by omega, by simp only [zB, decide_true, decide_false, Bool.false_eq_true, if_false, if_true, List.getElem?_cons_zero, List.getElem?_cons_succ, beq_self_eq_true, bne_self_eq_false, Int.reduceBNe, Int.reduceBEq, Int.reduceLT, Int.reduceGT, Int.reduceLE, Int.reduceGE, Nat.reduceAdd, Nat.reduceMul, Nat.reduceLeDiff, e2, hb0, w1, c1, Int.natCast_zero], i + 1, T', by omega, by omega, rfl, h2, hF', hl⟩
end
/-- A number read, and where the reader is then; or an error. -/
abbrev Rn := Except Int (Nat × Nat)
def Rn.pos (a : Nat) : Rn → Nat
  | .ok (_, a') => a'
  | .error _ => a
def encU : Rn → AV
  | .ok (v, _) => .tup [.int .u64 (v : Int), .int .i64 0]
  | .error e => .tup [.int .u64 0, .int .i64 e]
/-- What a value is that was read, or not. -/
def resUk (r : Rn) (v : AV) : Prop := match r with
  | .ok (x, _) => v = .tup [.int .u64 (x : Int), .int .i64 0]
  | .error e => ∃ x, v = .tup [.int .u64 x, .int .i64 e]
def rU (s : ByteArray) (n a : Nat) : Rn := if 8 * s.size < a + n then .error 5 else .ok (num s a n, a + n)
def rUe (s : ByteArray) (a : Nat) : Rn := match lead s 32 a with
  | .error e => .error e
  | .ok z => if 8 * s.size < a + z + 1 + z then .error 5 else .ok (2 ^ z + num s (a + z + 1) z - 1, a + z + 1 + z)
def rUk (s : ByteArray) (k a : Nat) : Rn := match rUe s a with
  | .error e => .error e
  | .ok (v, a') => if 8 * s.size < a' + k then .error 5 else .ok (v * 2 ^ k + num s a' k, a' + k)
theorem lead_err {s : ByteArray} : ∀ {f a : Nat} {e : Int}, lead s f a = .error e → e = 4 ∨ e = 5
  | 0, a, e, h => by cases h; exact .inl rfl
  | f + 1, a, e, h => by
    unfold lead at h
    split at h
    · cases h; exact .inr rfl
    · split at h
      · cases h
      · cases hl : lead s f (a + 1) with
        | error e' => rw [hl] at h; cases h; exact lead_err hl
        | ok w => rw [hl] at h; cases h
theorem rUe_ok {s : ByteArray} {a v a' : Nat} (h : rUe s a = .ok (v, a')) : a < a' ∧ a' ≤ 8 * s.size ∧ v < 4294967295 := by
  unfold rUe at h
  split at h
  · cases h
  · rename_i z hz
    obtain ⟨h1, h2, _⟩ := lead_ok hz
    split at h
    · cases h
    · cases h
      have h3 := num_lt s (a + z + 1) z
      have h4 : 2 ^ z ≤ 2 ^ 31 := Nat.pow_le_pow_right (by omega) (by omega)
      exact ⟨by omega, by omega, by omega⟩
theorem rUe_err {s : ByteArray} {a : Nat} {e : Int} (h : rUe s a = .error e) : e = 4 ∨ e = 5 := by
  unfold rUe at h
  split at h
  · rename_i e' he; cases h; exact lead_err he
  · split at h
    · cases h; exact .inr rfl
    · cases h
theorem rUk_ok {s : ByteArray} {k a v a' : Nat} (h : rUk s k a = .ok (v, a')) : a < a' ∧ a' ≤ 8 * s.size ∧ v < 4294967295 * 2 ^ k := by
  unfold rUk at h
  split at h
  · cases h
  · rename_i w b hw
    obtain ⟨h1, h2, h3⟩ := rUe_ok hw
    split at h
    · cases h
    · cases h
      have h4 := num_lt s b k
      refine ⟨by omega, by omega, ?_⟩
      have h5 : (w + 1) * 2 ^ k ≤ 4294967295 * 2 ^ k := Nat.mul_le_mul_right _ (by omega)
      rw [Nat.add_mul, Nat.one_mul] at h5
      omega
theorem rUk_err {s : ByteArray} {k a : Nat} {e : Int} (h : rUk s k a = .error e) : e = 4 ∨ e = 5 := by
  unfold rUk at h
  split at h
  · rename_i e' he; cases h; exact rUe_err he
  · split at h
    · cases h; exact .inr rfl
    · cases h
section
variable {B : CallF} (hB : Silent B) (k : Nat) {S : Heap} {p : Nat} {s : ByteArray} {a : Nat} (h : Rdr S p s a)
include hB h
theorem u_c (n : Nat) (hn : n ≤ 64) : ∃ S', Cn B (k + 2) f_bits_Reader_U 0 [.ptr p 0, .int .i64 (n : Int)] S = some (encU (rU s n a), S') ∧ Rdr S' p s ((rU s n a).pos a) ∧ Fr S S' [p] := by
  unfold rU
  by_cases hL : 8 * s.size < a + n
  · rw [if_pos hL]
    exact ⟨S, u_short hB k h n hn hL, h, Fr.refl S _⟩
  · rw [if_neg hL]
    exact u_ok hB k h n hn (by omega)
theorem ue_c : ∃ S', Cn B (k + 5) f_golomb_Ue 0 [.ptr p 0] S = some (encU (rUe s a), S') ∧ Rdr S' p s ((rUe s a).pos a) ∧ Fr S S' [p] := by
  rw [c_golomb_Ue _ _ _ _ (hB.no _ _ _ _ (kn_no (by decide))), T_golomb_Ue]
  obtain ⟨S1, e1, f1⟩ := length_c hB k h
  have h1 := h.fr f1 (by simp)
  unfold rUe
  cases hl : lead s 32 a with
  | error e =>
    rw [hl] at e1
    have he := lead_err hl
    have c1 : (e != 0) = true := by rcases he with rfl | rfl <;> rfl
    exact ⟨S1, by simp only [zB, decide_true, decide_false, Bool.false_eq_true, if_false, if_true, List.getElem?_cons_zero, List.getElem?_cons_succ, beq_self_eq_true, bne_self_eq_false, Int.reduceBNe, Int.reduceBEq, Int.reduceLT, Int.reduceGT, Int.reduceLE, Int.reduceGE, Nat.reduceAdd, Nat.reduceMul, Nat.reduceLeDiff, e1, encLen, c1, encU], h1, f1.nil⟩
  | ok z =>
    rw [hl] at e1
    obtain ⟨l1, l2, l3⟩ := lead_ok hl
    simp only
    by_cases hL : 8 * s.size < a + z + 1 + z
    · rw [if_pos hL]
      have e2 := u_short hB (k + 2) h1 (2 * z + 1) (by omega) (by omega)
      exact ⟨S1, by simp only [zB, decide_true, decide_false, Bool.false_eq_true, if_false, if_true, List.getElem?_cons_zero, List.getElem?_cons_succ, beq_self_eq_true, bne_self_eq_false, Int.reduceBNe, Int.reduceBEq, Int.reduceLT, Int.reduceGT, Int.reduceLE, Int.reduceGE, Nat.reduceAdd, Nat.reduceMul, Nat.reduceLeDiff, e1, encLen, e2, encU], h1, f1.nil⟩
    · rw [if_neg hL]
      obtain ⟨S2, e2, h2, f2⟩ := u_ok hB (k + 2) h1 (2 * z + 1) (by omega) (by omega)
      have hn : num s a (2 * z + 1) = 2 ^ z + num s (a + z + 1) z := by
        rw [show 2 * z + 1 = z + 1 + z by omega, num_add, l3, show a + (z + 1) = a + z + 1 by omega]; omega
      have h3 := num_lt s (a + z + 1) z
      have h4 : 2 ^ z ≤ 2 ^ 31 := Nat.pow_le_pow_right (by omega) (by omega)
      have h5 : 0 < 2 ^ z := Nat.pow_pos (by omega)
      have w1 : IntKind.wrap .u64 (((2 ^ z + num s (a + z + 1) z : Nat) : Int) - 1) = ((2 ^ z + num s (a + z + 1) z - 1 : Nat) : Int) := by rw [wu _ (by omega)]; omega
      rw [hn] at e2
      refine ⟨S2, by simp only [zB, decide_true, decide_false, Bool.false_eq_true, if_false, if_true, List.getElem?_cons_zero, List.getElem?_cons_succ, beq_self_eq_true, bne_self_eq_false, Int.reduceBNe, Int.reduceBEq, Int.reduceLT, Int.reduceGT, Int.reduceLE, Int.reduceGE, Nat.reduceAdd, Nat.reduceMul, Nat.reduceLeDiff, e1, encLen, e2, encU, w1], ?_, f1.nil.trans f2 (fun j hj => .inl hj)⟩
      rw [show a + (2 * z + 1) = a + z + 1 + z by omega] at h2
      exact h2
theorem uk1_c {q : Nat} {n : Nat} (hn : n ≤ 8) (hq : S.blk q = some [.int .i64 (n : Int)]) (hlt : q < S.next) (hne : q ≠ p) :
    ∃ S' v, Cn B (k + 6) f_golomb_Uk_1 0 [.ptr p 0, .ptr q 0] S = some (v, S') ∧ resUk (rUk s n a) v ∧ (∀ w a', rUk s n a = .ok (w, a') → Rdr S' p s a') ∧ Fr S S' [p] := by
  rw [c_golomb_Uk_1 _ _ _ _ _ (hB.no _ _ _ _ (kn_no (by decide))), T_golomb_Uk_1]
  obtain ⟨S1, e1, h1, f1⟩ := ue_c hB k h
  have hq1 := (f1.get hlt (by simp [hne])).trans hq
  unfold rUk
  cases hl : rUe s a with
  | error e =>
    rw [hl] at e1 h1
    have c1 : (e != 0) = true := by rcases rUe_err hl with rfl | rfl <;> rfl
    exact ⟨S1, .tup [.int .u64 0, .int .i64 e], by simp only [zB, decide_true, decide_false, Bool.false_eq_true, if_false, if_true, List.getElem?_cons_zero, List.getElem?_cons_succ, beq_self_eq_true, bne_self_eq_false, Int.reduceBNe, Int.reduceBEq, Int.reduceLT, Int.reduceGT, Int.reduceLE, Int.reduceGE, Nat.reduceAdd, Nat.reduceMul, Nat.reduceLeDiff, e1, c1, encU], ⟨0, rfl⟩, (fun v a' he => by cases he), f1⟩
  | ok x =>
    obtain ⟨v, b⟩ := x
    rw [hl] at e1 h1
    simp only [Rn.pos] at h1
    obtain ⟨l1, l2, l3⟩ := rUe_ok hl
    have h5 : 2 ^ n ≤ 2 ^ 8 := Nat.pow_le_pow_right (by omega) hn
    have h6 : v * 2 ^ n ≤ 4294967295 * 256 := Nat.mul_le_mul (by omega) (by omega)
    have hsh := shl64 v n (by omega) (by omega)
    simp only
    by_cases hL : 8 * s.size < b + n
    · rw [if_pos hL]
      have e2 := u_short hB (k + 3) h1 n (by omega) hL
      exact ⟨S1, .tup [.int .u64 (orI .u64 ((v * 2 ^ n : Nat) : Int) 0), .int .i64 5], by simp only [zB, decide_true, decide_false, Bool.false_eq_true, if_false, if_true, List.getElem?_cons_zero, List.getElem?_cons_succ, beq_self_eq_true, bne_self_eq_false, Int.reduceBNe, Int.reduceBEq, Int.reduceLT, Int.reduceGT, Int.reduceLE, Int.reduceGE, Nat.reduceAdd, Nat.reduceMul, Nat.reduceLeDiff, e1, encU, hq1, e2, aShl, hsh], ⟨_, rfl⟩, (fun v a' he => by cases he), f1⟩
    · rw [if_neg hL]
      obtain ⟨S2, e2, h2, f2⟩ := u_ok hB (k + 3) h1 n (by omega) (by omega)
      have hq2 := (f2.get (Nat.lt_of_lt_of_le hlt f1.1) (by simp [hne])).trans hq1
      have h3 := num_lt s b n
      have ho : orI .u64 ((v * 2 ^ n : Nat) : Int) ((num s b n : Nat) : Int) = ((v * 2 ^ n + num s b n : Nat) : Int) := by
        rw [or64 _ _ (by omega) (by omega), or_mul _ _ _ h3]
      exact ⟨S2, _, by simp only [zB, decide_true, decide_false, Bool.false_eq_true, if_false, if_true, List.getElem?_cons_zero, List.getElem?_cons_succ, beq_self_eq_true, bne_self_eq_false, Int.reduceBNe, Int.reduceBEq, Int.reduceLT, Int.reduceGT, Int.reduceLE, Int.reduceGE, Nat.reduceAdd, Nat.reduceMul, Nat.reduceLeDiff, e1, encU, hq1, e2, hq2, aShl, hsh, ho], rfl, (fun v' a' he => by cases he; exact h2), f1.trans f2 (fun j hj => .inl hj)⟩
theorem uk_c {n : Nat} (hn : n ≤ 8) : ∃ S', Cn B (k + 7) f_golomb_Uk 0 [.ptr p 0, .int .i64 (n : Int)] S = some (encU (rUk s n a), S') ∧ Rdr S' p s ((rUk s n a).pos a) ∧ Fr S S' [p] := by
  rw [c_golomb_Uk _ _ _ _ _ (hB.no _ _ _ _ (kn_no (by decide))), T_golomb_Uk]
  have lt := h.lt
  have c1 : ¬ ((n : Int) < 0) := by omega
  have c2 : ¬ ((n : Int) > 8) := by omega
  obtain ⟨S2, hS2⟩ : ∃ S2, S2 = S.alloc [.int .i64 (n : Int)] := ⟨_, rfl⟩
  have f2 : Fr S S2 [] := by rw [hS2]; exact Fr.alloc _ _ _
  have n2 : S2.next = S.next + 1 := by rw [hS2]; rfl
  have b2 : S2.blk S.next = some [.int .i64 (n : Int)] := by rw [hS2]; exact alloc_blk _ _
  obtain ⟨S3, e3, h3, f3⟩ := rcopy_c hB (k + 5) (h.fr f2 (by simp))
  have b3 : S3.blk S.next = some [.int .i64 (n : Int)] := (f3.get (by omega) (by simp)).trans b2
  have m3 := f3.1
  obtain ⟨S4, v4, e4, r4, h4, f4⟩ := uk1_c hB k h3 (q := S.next) hn b3 (by omega) (by omega)
  have b4 : S4.blk S.next = some [.int .i64 (n : Int)] := (f4.get (by omega) (by simp; omega)).trans b3
  have m4 := f4.1
  have f24 : Fr S S4 [] := (f2.trans f3 (fun j hj => .inl hj)).trans f4 (fun j hj => by simp at hj; omega)
  have h4' := h.fr f24 (by simp)
  obtain ⟨S5, v5, e5, r5, h5, f5⟩ := uk1_c hB k h4' (q := S.next) hn b4 (by omega) (by omega)
  cases hl : rUk s n a with
  | error e =>
    rw [hl] at r4
    obtain ⟨x, rfl⟩ := r4
    have c3 : (e != 0) = true := by rcases rUk_err hl with rfl | rfl <;> rfl
    exact ⟨S4, by simp only [zB, decide_true, decide_false, Bool.false_eq_true, if_false, if_true, List.getElem?_cons_zero, List.getElem?_cons_succ, beq_self_eq_true, bne_self_eq_false, Int.reduceBNe, Int.reduceBEq, Int.reduceLT, Int.reduceGT, Int.reduceLE, Int.reduceGE, Nat.reduceAdd, Nat.reduceMul, Nat.reduceLeDiff, ← hS2, b2, c1, c2, e3, e4, c3, encU], h4', f24.nil⟩
  | ok x =>
    obtain ⟨w, b⟩ := x
    rw [hl] at r4 r5
    cases r4
    cases r5
    exact ⟨S5, by simp only [zB, decide_true, decide_false, Bool.false_eq_true, if_false, if_true, List.getElem?_cons_zero, List.getElem?_cons_succ, beq_self_eq_true, bne_self_eq_false, Int.reduceBNe, Int.reduceBEq, Int.reduceLT, Int.reduceGT, Int.reduceLE, Int.reduceGE, Nat.reduceAdd, Nat.reduceMul, Nat.reduceLeDiff, ← hS2, b2, c1, c2, e3, e4, encU, e5], h5 _ _ hl, f24.nil.trans f5 (fun j hj => .inl hj)⟩
end
def u8s (W : List Nat) : List AV := W.map fun (x : Nat) => AV.int .u8 (x : Int)
theorem put3_0 {T : Heap} {p : Nat} {x a b c : AV} (h : T.blk p = some [a, b, c]) : putV (.ptr p 0) [x] T = some (T.set p (some [x, b, c])) := by rw [putV_p h (by simp)]; rfl
theorem put3_1 {T : Heap} {p : Nat} {x a b c : AV} (h : T.blk p = some [a, b, c]) : putV (.ptr p 1) [x] T = some (T.set p (some [a, x, c])) := by rw [putV_p h (by simp)]; rfl
theorem put3_2 {T : Heap} {p : Nat} {x a b c : AV} (h : T.blk p = some [a, b, c]) : putV (.ptr p 2) [x] T = some (T.set p (some [a, b, x])) := by rw [putV_p h (by simp)]; rfl
structure WrX (S : Heap) (p q : Nat) (W : List Nat) (part n : Nat) : Prop where
  blk : S.blk p = some [if W = [] then .nils else .hs q 0 W.length 1, .int .u8 (part : Int), .int .i64 (n : Int)]
  row : W ≠ [] → S.blk q = some (u8s W) ∧ q < S.next ∧ q ≠ p
  non : W = [] → q = p
  lt : p < S.next
  n8 : n < 8
  pt : part < 2 ^ n
  b8 : ∀ x ∈ W, x < 256
def bitsW (W : List Nat) (part n : Nat) : List Bool := W.flatMap (bitsN 8) ++ bitsN n part
/-- A writer at p, with its whole bytes at q. -/
def Wr (S : Heap) (p q : Nat) (bs : List Bool) : Prop := ∃ W part n, WrX S p q W part n ∧ bs = bitsW W part n
theorem WrX.fr {S T : Heap} {p q : Nat} {W : List Nat} {part n : Nat} {l : List Nat} (h : WrX S p q W part n) (f : Fr S T l) (hp : p ∉ l) (hq : q ∉ l) : WrX T p q W part n :=
  ⟨(f.get h.lt hp).trans h.blk, fun h0 => ⟨(f.get (h.row h0).2.1 hq).trans (h.row h0).1, Nat.lt_of_lt_of_le (h.row h0).2.1 f.1, (h.row h0).2.2⟩, h.non, Nat.lt_of_lt_of_le h.lt f.1, h.n8, h.pt, h.b8⟩
theorem Wr.fr {S T : Heap} {p q : Nat} {bs : List Bool} {l : List Nat} (h : Wr S p q bs) (f : Fr S T l) (hp : p ∉ l) (hq : q ∉ l) : Wr T p q bs := by
  obtain ⟨W, part, n, h, rfl⟩ := h
  exact ⟨W, part, n, h.fr f hp hq, rfl⟩
theorem Wr.lt {S : Heap} {p q : Nat} {bs : List Bool} (h : Wr S p q bs) : p < S.next ∧ q < S.next := by
  obtain ⟨W, part, n, h, rfl⟩ := h
  refine ⟨h.lt, ?_⟩
  by_cases h0 : W = []
  · rw [h.non h0]; exact h.lt
  · exact (h.row h0).2.1
/-- From one writer to the next: what was written is more by these bits. -/
def Puts (S S' : Heap) (p q q' : Nat) (bs bs' : List Bool) : Prop := Wr S' p q' bs' ∧ Fr S S' [p, q] ∧ (q' = q ∨ S.next ≤ q')
theorem Puts.trans {S T U : Heap} {p q q' q'' : Nat} {a b c : List Bool} (h1 : Puts S T p q q' a b) (h2 : Puts T U p q' q'' b c) : Puts S U p q q'' a c := by
  refine ⟨h2.1, h1.2.1.trans h2.2.1 (fun j hj => ?_), ?_⟩
  · simp only [List.mem_cons, List.not_mem_nil, or_false] at hj ⊢
    rcases hj with rfl | rfl
    · exact .inl (.inl rfl)
    · rcases h1.2.2 with h | h
      · exact .inl (.inr h)
      · exact .inr h
  · have := h1.2.1.1
    rcases h2.2.2 with h | h
    · rw [h]; exact h1.2.2
    · exact .inr (by omega)
theorem Puts.refl {S : Heap} {p q : Nat} {bs : List Bool} (h : Wr S p q bs) : Puts S S p q q bs bs := ⟨h, Fr.refl _ _, .inl rfl⟩
theorem room64 {n : Nat} (h : n ≤ 10000000000) : n ≤ mostRoom := by unfold mostRoom; omega
/-- Bits as characters. -/
def bitC (b : Bool) : Nat := if b then 49 else 48
def L2 (x : Nat) : Nat := if x = 0 then 0 else Nat.log2 x + 1
def sizedI (n : Int) : Bool := n == 4 || n == 15 || n == 16
theorem sizedI_iff (n : Int) : sizedI n = true ↔ n = 4 ∨ n = 15 ∨ n = 16 := by simp [sizedI, or_assoc]
def befL : List Nat := [0, 1, 3, 6, 10, 14, 18, 22, 26, 30, 34, 38, 42, 46, 50, 54, 58, 62]
def bef (t : Nat) : Nat := befL.getD t 0
def m3 (t : Int) : Int := if (3 : Int) < t then 3 else t
/-- The number of a pair, and the error. -/
def symR (t o : Int) : Int × Int := if t < 0 ∨ t > 16 ∨ o < 0 ∨ o > m3 t then (0, 3) else ((bef t.toNat : Int) + m3 t - o, 0)
def pairL : List (Nat × Nat) := (List.range 17).flatMap fun t => (List.range (min t 3 + 1)).map fun j => (t, min t 3 - j)
def pairR (n : Int) : Int × Int × Int := if n < 0 ∨ n ≥ 62 then (0, 0, 3) else (((pairL.getD n.toNat (0, 0)).1 : Int), ((pairL.getD n.toNat (0, 0)).2 : Int), 0)
def cutB (m : Nat) : Nat := L2 (m + 1) - 1
def cutD (m : Nat) : Nat := 2 ^ (cutB m + 1) - (m + 1)
theorem kn_pair {n : Int} (h : ¬ (0 ≤ n ∧ n ≤ 61)) : kn f_vlc_Pair [.int .i64 n] = false := by
  have h1 : decide (f_vlc_Pair ∈ [f_vlc_cut, f_spindleref18_cut]) = false := by decide
  have h2 : (decide (0 ≤ n) && decide (n ≤ 61)) = false := by simp; omega
  simp only [kn, knA, h1, Bool.false_and, Bool.and_assoc, h2, Bool.and_false, Bool.or_self]
theorem pair_all : ((List.range 62).all fun n => chk f_vlc_Pair [.int .i64 (n : Int)] (.tup [.int .i64 ((pairL.getD n (0, 0)).1 : Int), .int .i64 ((pairL.getD n (0, 0)).2 : Int), .int .i64 0])) = true := by kernel_rfl
theorem cut_all : ((List.range 16).all fun n => chk f_vlc_cut [.int .i64 (n : Int)] (.tup [.int .i64 (cutB n : Int), .int .i64 (cutD n : Int)])) = true := by kernel_rfl
theorem callK_fn {β : Type} {C : CallF} {f : Nat} {cap args : List AV} {S : Heap} {K : AV → Heap → Option β} (hf : ¬ yldId ≤ f) : callK C .none (.fn f [] cap) args S K = bO (C f 0 (args ++ cap) S) fun q => K q.1 q.2 := by
  simp only [callK, if_neg hf, OAn.way, OAn.cFrz, List.nil_append, Bool.false_eq_true, if_false]
section
variable {B : CallF} (hB : Silent B) (k : Nat) {S : Heap}
include hB
theorem before_c (t : Nat) (ht : t ≤ 17) : Cn B (k + 1) f_vlc_before 0 [.int .i64 (t : Int)] S = some (.int .i64 (bef t : Int), S) := by
  rw [c_vlc_before _ _ _ _ (hB.no _ _ _ _ (kn_no (by decide))), T_vlc_before]
  have h1 : (0 : Int) ≤ (t : Int) := by omega
  have h2 : (t : Int) < ((18 : Nat) : Int) := by omega
  have h3 : ([.int .i64 0, .int .i64 1, .int .i64 3, .int .i64 6, .int .i64 10, .int .i64 14, .int .i64 18, .int .i64 22, .int .i64 26, .int .i64 30, .int .i64 34, .int .i64 38, .int .i64 42, .int .i64 46, .int .i64 50, .int .i64 54, .int .i64 58, .int .i64 62] : List AV)[t]? = some (.int .i64 (bef t : Int)) := by
    show (befL.map fun (x : Nat) => AV.int .i64 (x : Int))[t]? = _
    have : t < befL.length := by show t < 18; omega
    rw [List.getElem?_map, List.getElem?_eq_getElem this]
    simp [bef, List.getD, List.getElem?_eq_getElem this]
  simp only [zB, decide_true, decide_false, Bool.false_eq_true, if_false, if_true, List.getElem?_cons_zero, List.getElem?_cons_succ, beq_self_eq_true, bne_self_eq_false, Int.reduceBNe, Int.reduceBEq, Int.reduceLT, Int.reduceGT, Int.reduceLE, Int.reduceGE, Nat.reduceAdd, Nat.reduceMul, Nat.reduceLeDiff, h1, h2, Int.toNat_natCast, Nat.mul_one, h3]
theorem sized_c (n : Int) : Cn B (k + 1) f_vlc_sized 0 [.int .i64 n] S = some (.bool (sizedI n), S) := by
  rw [c_vlc_sized _ _ _ _ (hB.no _ _ _ _ (kn_no (by decide))), T_vlc_sized]
  cases h1 : (n == 4)
  · cases h2 : (n == 15)
    · simp only [zB, decide_true, decide_false, Bool.false_eq_true, if_false, if_true, List.getElem?_cons_zero, List.getElem?_cons_succ, beq_self_eq_true, bne_self_eq_false, Int.reduceBNe, Int.reduceBEq, Int.reduceLT, Int.reduceGT, Int.reduceLE, Int.reduceGE, Nat.reduceAdd, Nat.reduceMul, Nat.reduceLeDiff, h1, h2, sizedI, Bool.false_or]
    · simp only [zB, decide_true, decide_false, Bool.false_eq_true, if_false, if_true, List.getElem?_cons_zero, List.getElem?_cons_succ, beq_self_eq_true, bne_self_eq_false, Int.reduceBNe, Int.reduceBEq, Int.reduceLT, Int.reduceGT, Int.reduceLE, Int.reduceGE, Nat.reduceAdd, Nat.reduceMul, Nat.reduceLeDiff, h1, h2, sizedI, Bool.false_or, Bool.true_or]
  · simp only [zB, decide_true, decide_false, Bool.false_eq_true, if_false, if_true, List.getElem?_cons_zero, List.getElem?_cons_succ, beq_self_eq_true, bne_self_eq_false, Int.reduceBNe, Int.reduceBEq, Int.reduceLT, Int.reduceGT, Int.reduceLE, Int.reduceGE, Nat.reduceAdd, Nat.reduceMul, Nat.reduceLeDiff, h1, sizedI, Bool.true_or]
theorem pair_c (n : Int) : Cn B (k + 2) f_vlc_Pair 0 [.int .i64 n] S = some (.tup [.int .i64 (pairR n).1, .int .i64 (pairR n).2.1, .int .i64 (pairR n).2.2], S) := by
  unfold pairR
  by_cases h1 : n < 0
  · rw [c_vlc_Pair _ _ _ _ (hB.no _ _ _ _ (kn_pair (by omega))), T_vlc_Pair, if_pos (.inl h1)]
    simp only [zB, decide_true, decide_false, Bool.false_eq_true, if_false, if_true, List.getElem?_cons_zero, List.getElem?_cons_succ, beq_self_eq_true, bne_self_eq_false, Int.reduceBNe, Int.reduceBEq, Int.reduceLT, Int.reduceGT, Int.reduceLE, Int.reduceGE, Nat.reduceAdd, Nat.reduceMul, Nat.reduceLeDiff, h1]
  by_cases h2 : n ≥ 62
  · rw [c_vlc_Pair _ _ _ _ (hB.no _ _ _ _ (kn_pair (by omega))), T_vlc_Pair, if_pos (.inr h2)]
    simp only [zB, decide_true, decide_false, Bool.false_eq_true, if_false, if_true, List.getElem?_cons_zero, List.getElem?_cons_succ, beq_self_eq_true, bne_self_eq_false, Int.reduceBNe, Int.reduceBEq, Int.reduceLT, Int.reduceGT, Int.reduceLE, Int.reduceGE, Nat.reduceAdd, Nat.reduceMul, Nat.reduceLeDiff, h1, h2]
  rw [if_neg (by simp only [not_or]; exact ⟨h1, h2⟩)]
  obtain ⟨i, rfl⟩ := Int.eq_ofNat_of_zero_le (show 0 ≤ n by omega)
  exact chk_c hB (List.all_eq_true.1 pair_all i (List.mem_range.2 (by omega))) _ _
theorem cut_c (m : Nat) (hm : m ≤ 15) : Cn B k f_vlc_cut 0 [.int .i64 (m : Int)] S = some (.tup [.int .i64 (cutB m : Int), .int .i64 (cutD m : Int)], S) :=
  chk_c hB (List.all_eq_true.1 cut_all m (List.mem_range.2 (by omega))) _ _
theorem order_c (i : Int) : Cn B (k + 1) f_vlc_order 0 [.int .i64 i] S = some (.agg [.fn f_vlc_order_1 [] [.ptr S.next 0], .fn f_vlc_order_2 [] [.ptr S.next 0]], S.alloc [.int .i64 i]) := by
  rw [c_vlc_order _ _ _ _ (hB.no _ _ _ _ (kn_no (by decide))), T_vlc_order]
  simp only [zB, decide_true, decide_false, Bool.false_eq_true, if_false, if_true, List.getElem?_cons_zero, List.getElem?_cons_succ, beq_self_eq_true, bne_self_eq_false, Int.reduceBNe, Int.reduceBEq, Int.reduceLT, Int.reduceGT, Int.reduceLE, Int.reduceGE, Nat.reduceAdd, Nat.reduceMul, Nat.reduceLeDiff]
/-- The functions of the classes. -/
def clsL (q : Nat) : List AV := [.fn f_vlc_order_1 [] [.ptr q 0], .fn f_vlc_order_2 [] [.ptr q 0], .fn f_vlc_order_1 [] [.ptr (q + 1) 0], .fn f_vlc_order_2 [] [.ptr (q + 1) 0], .fn f_vlc_order_1 [] [.ptr (q + 2) 0], .fn f_vlc_order_2 [] [.ptr (q + 2) 0], .fn f_vlc_classes_1 [] [], .fn f_vlc_classes_2 [] [], .fn f_golomb_Ue [] [], .fn f_golomb_PutUe [] []]
def rdF (q c : Nat) : AV := if c < 3 then .fn f_vlc_order_1 [] [.ptr (q + c) 0] else if c = 3 then .fn f_vlc_classes_1 [] [] else .fn f_golomb_Ue [] []
omit hB in
theorem cls_rd (q c : Nat) (hc : c < 5) : (clsL q)[c * 2]? = some (rdF q c) := by
  match c, hc with
  | 0, _ => rfl
  | 1, _ => rfl
  | 2, _ => rfl
  | 3, _ => rfl
  | 4, _ => rfl
theorem classes_c : ∃ S', Cn B (k + 2) f_vlc_classes 0 [] S = some (.agg (clsL S.next), S') ∧ Fr S S' [] ∧ S'.next = S.next + 3 ∧ ∀ i, i < 3 → S'.blk (S.next + i) = some [.int .i64 (i : Int)] := by
  rw [c_vlc_classes _ _ _ (hB.no _ _ _ _ (kn_no (by decide))), T_vlc_classes]
  have e1 := order_c hB k (S := S) 0
  have e2 := order_c hB k (S := S.alloc [.int .i64 0]) 1
  have e3 := order_c hB k (S := (S.alloc [.int .i64 0]).alloc [.int .i64 1]) 2
  refine ⟨((S.alloc [.int .i64 0]).alloc [.int .i64 1]).alloc [.int .i64 2], by simp only [zB, decide_true, decide_false, Bool.false_eq_true, if_false, if_true, List.getElem?_cons_zero, List.getElem?_cons_succ, beq_self_eq_true, bne_self_eq_false, Int.reduceBNe, Int.reduceBEq, Int.reduceLT, Int.reduceGT, Int.reduceLE, Int.reduceGE, Nat.reduceAdd, Nat.reduceMul, Nat.reduceLeDiff, e1, e2, e3] <;> rfl, ((Fr.alloc S _ _).alloc' _).alloc' _, rfl, fun i hi => ?_⟩
  have n1 : (S.alloc [.int .i64 0]).next = S.next + 1 := rfl
  have n2 : ((S.alloc [.int .i64 0]).alloc [.int .i64 1]).next = S.next + 2 := rfl
  match i, hi with
  | 0, _ => rw [alloc_other _ _ (by rw [n2]; omega), alloc_other _ _ (by rw [n1]; omega)]; exact alloc_blk _ _
  | 1, _ => rw [alloc_other _ _ (by rw [n2]; omega), ← n1]; exact alloc_blk _ _
  | 2, _ => rw [← n2]; exact alloc_blk _ _
end
/-- The number of a pair, as it is read in a class. -/
def numR (s : ByteArray) (c a : Nat) : Rn := if c = 3 then rU s 6 a else rUk s (c % 4) a
theorem rUk_zero (s : ByteArray) (a : Nat) : rUk s 0 a = rUe s a := by
  unfold rUk
  cases h : rUe s a with
  | error e => rfl
  | ok x =>
    obtain ⟨v, b⟩ := x
    have := rUe_ok h
    simp only
    rw [if_neg (by omega)]
    simp [num]
theorem numR_err {s : ByteArray} {c a : Nat} {e : Int} (h : numR s c a = .error e) : e = 4 ∨ e = 5 := by
  unfold numR at h
  split at h
  · unfold rU at h; split at h <;> cases h; exact .inr rfl
  · exact rUk_err h
theorem numR_ok {s : ByteArray} {c a v a' : Nat} (h : numR s c a = .ok (v, a')) : a ≤ a' ∧ a' ≤ 8 * s.size ∧ v < 4294967295 * 8 := by
  unfold numR at h
  split at h
  · unfold rU at h
    split at h
    · cases h
    · cases h
      have := num_lt s a 6
      exact ⟨by omega, by omega, by omega⟩
  · obtain ⟨h1, h2, h3⟩ := rUk_ok h
    have h4 : 2 ^ (c % 4) ≤ 2 ^ 3 := Nat.pow_le_pow_right (by omega) (by omega)
    have h5 : 4294967295 * 2 ^ (c % 4) ≤ 4294967295 * 8 := Nat.mul_le_mul_left _ h4
    exact ⟨by omega, h2, by omega⟩
section
variable {B : CallF} (hB : Silent B) (k : Nat) {S : Heap} {p q : Nat} {s : ByteArray} {a c : Nat}
include hB
theorem call_rd (h : Rdr S p s a) (hc : c < 5) (hq : c < 3 → S.blk (q + c) = some [.int .i64 (c : Int)] ∧ q + c < S.next ∧ q + c ≠ p) :
    ∃ S', (∀ {β : Type} (K : AV → Heap → Option β), callK (Cn B (k + 8)) .none (rdF q c) [.ptr p 0] S K = K (encU (numR s c a)) S') ∧ Rdr S' p s ((numR s c a).pos a) ∧ Fr S S' [p] := by
  have y1 : ¬ yldId ≤ f_vlc_order_1 := by decide
  have y2 : ¬ yldId ≤ f_vlc_classes_1 := by decide
  have y3 : ¬ yldId ≤ f_golomb_Ue := by decide
  by_cases h3 : c < 3
  · obtain ⟨hb, hl, hne⟩ := hq h3
    have hc4 : c % 4 = c := by omega
    obtain ⟨S', e, h1, f1⟩ := uk_c hB k h (n := c) (by omega)
    have e1 : Cn B (k + 8) f_vlc_order_1 0 [.ptr p 0, .ptr (q + c) 0] S = some (encU (rUk s c a), S') := by
      rw [c_vlc_order_1 _ _ _ _ _ (hB.no _ _ _ _ (kn_no (by decide))), T_vlc_order_1]
      cases hr : rUk s c a with
      | error e' => rw [hr] at e; simp only [zB, decide_true, decide_false, Bool.false_eq_true, if_false, if_true, List.getElem?_cons_zero, List.getElem?_cons_succ, beq_self_eq_true, bne_self_eq_false, Int.reduceBNe, Int.reduceBEq, Int.reduceLT, Int.reduceGT, Int.reduceLE, Int.reduceGE, Nat.reduceAdd, Nat.reduceMul, Nat.reduceLeDiff, hb, e, encU]
      | ok x => obtain ⟨v, b⟩ := x; rw [hr] at e; simp only [zB, decide_true, decide_false, Bool.false_eq_true, if_false, if_true, List.getElem?_cons_zero, List.getElem?_cons_succ, beq_self_eq_true, bne_self_eq_false, Int.reduceBNe, Int.reduceBEq, Int.reduceLT, Int.reduceGT, Int.reduceLE, Int.reduceGE, Nat.reduceAdd, Nat.reduceMul, Nat.reduceLeDiff, hb, e, encU]
    have r1 : rdF q c = .fn f_vlc_order_1 [] [.ptr (q + c) 0] := by unfold rdF; rw [if_pos h3]
    have r2 : numR s c a = rUk s c a := by unfold numR; rw [if_neg (by omega), hc4]
    rw [r1, r2]
    refine ⟨S', fun K => ?_, h1, f1⟩
    rw [callK_fn y1]
    simp only [List.cons_append, List.nil_append, e1, bO_s]
  · by_cases h4 : c = 3
    · subst h4
      obtain ⟨S', e, h1, f1⟩ := u_c hB (k + 5) h 6 (by omega)
      have e1 : Cn B (k + 8) f_vlc_classes_1 0 [.ptr p 0] S = some (encU (rU s 6 a), S') := by
        rw [c_vlc_classes_1 _ _ _ _ (hB.no _ _ _ _ (kn_no (by decide))), T_vlc_classes_1]
        rw [show (((6 : Nat)) : Int) = 6 from rfl] at e
        cases hr : rU s 6 a with
        | error e' => rw [hr] at e; simp only [zB, decide_true, decide_false, Bool.false_eq_true, if_false, if_true, List.getElem?_cons_zero, List.getElem?_cons_succ, beq_self_eq_true, bne_self_eq_false, Int.reduceBNe, Int.reduceBEq, Int.reduceLT, Int.reduceGT, Int.reduceLE, Int.reduceGE, Nat.reduceAdd, Nat.reduceMul, Nat.reduceLeDiff, e, encU]
        | ok x => obtain ⟨v, b⟩ := x; rw [hr] at e; simp only [zB, decide_true, decide_false, Bool.false_eq_true, if_false, if_true, List.getElem?_cons_zero, List.getElem?_cons_succ, beq_self_eq_true, bne_self_eq_false, Int.reduceBNe, Int.reduceBEq, Int.reduceLT, Int.reduceGT, Int.reduceLE, Int.reduceGE, Nat.reduceAdd, Nat.reduceMul, Nat.reduceLeDiff, e, encU]
      have r1 : rdF q 3 = .fn f_vlc_classes_1 [] [] := rfl
      have r2 : numR s 3 a = rU s 6 a := rfl
      rw [r1, r2]
      refine ⟨S', fun K => ?_, h1, f1⟩
      rw [callK_fn y2]
      simp only [List.cons_append, List.nil_append, List.append_nil, e1, bO_s]
    · have h5 : c = 4 := by omega
      subst h5
      obtain ⟨S', e, h1, f1⟩ := ue_c hB (k + 3) h
      have r1 : rdF q 4 = .fn f_golomb_Ue [] [] := rfl
      have r2 : numR s 4 a = rUe s a := by unfold numR; rw [if_neg (by omega)]; exact rUk_zero s a
      rw [r1, r2]
      refine ⟨S', fun K => ?_, h1, f1⟩
      rw [callK_fn y3]
      simp only [List.cons_append, List.nil_append, List.append_nil, e, bO_s]
end
/-- What is read: two numbers, the error, and where the reader is then. -/
def tokR (s : ByteArray) (a : Nat) (class' size : Int) : Int × Int × Int × Nat :=
  if class' < 0 ∨ class' > 4 ∨ sizedI size = false then (0, 0, 3, a) else match numR s class'.toNat a with
    | .error e => (0, 0, e, a)
    | .ok (v, a') => if v ≥ bef (size.toNat + 1) then (0, 0, 3, a) else ((pairR v).1, (pairR v).2.1, 0, a')
theorem bef_le (size : Int) (h : sizedI size = true) : bef (size.toNat + 1) ≤ 62 ∧ size.toNat + 1 ≤ 17 := by
  rcases (sizedI_iff size).1 h with rfl | rfl | rfl <;> decide
theorem Puts.fr {S T : Heap} {p q : Nat} {bs : List Bool} (h : Wr S p q bs) (f : Fr S T []) : Puts S T p q q bs (bs ++ []) := ⟨by rw [List.append_nil]; exact h.fr f (by simp) (by simp), f.nil, .inl rfl⟩
theorem setCls (q : Nat) : setCells [.nilf, .nilf, .nilf, .nilf, .nilf, .nilf, .nilf, .nilf, .nilf, .nilf] 0 (clsL q) = clsL q := (rfl)
theorem lenCls (q : Nat) : (clsL q).length = 10 := (rfl)
theorem cellCls (q : Nat) : (clsL q).all cell = true := (rfl)
section
variable {B : CallF} (hB : Silent B) (k : Nat) {S : Heap} {p : Nat} {s : ByteArray} {a : Nat}
include hB
theorem token_c (h : Rdr S p s a) (class' size : Int) :
    ∃ S', Cn B (k + 9) f_vlc_Token 0 [.ptr p 0, .int .i64 class', .int .i64 size] S = some (.tup [.int .i64 (tokR s a class' size).1, .int .i64 (tokR s a class' size).2.1, .int .i64 (tokR s a class' size).2.2.1], S') ∧ Rdr S' p s (tokR s a class' size).2.2.2 ∧ Fr S S' [p] := by
  rw [c_vlc_Token _ _ _ _ _ _ (hB.no _ _ _ _ (kn_no (by decide))), T_vlc_Token]
  have lt := h.lt
  obtain ⟨S1, e1, f1, n1, b1⟩ := classes_c hB (k + 6) (S := S)
  have h1 := h.fr f1 (by simp)
  unfold tokR
  by_cases g1 : class' < 0
  · rw [if_pos (.inl g1)]
    exact ⟨S1, by simp only [zB, decide_true, decide_false, Bool.false_eq_true, if_false, if_true, List.getElem?_cons_zero, List.getElem?_cons_succ, beq_self_eq_true, bne_self_eq_false, Int.reduceBNe, Int.reduceBEq, Int.reduceLT, Int.reduceGT, Int.reduceLE, Int.reduceGE, Nat.reduceAdd, Nat.reduceMul, Nat.reduceLeDiff, e1, lenCls, cellCls, setCls, Nat.le_refl, g1], h1, f1.nil⟩
  by_cases g2 : class' > 4
  · rw [if_pos (.inr (.inl g2))]
    have g2' : class' ≥ 5 := by omega
    exact ⟨S1, by simp only [zB, decide_true, decide_false, Bool.false_eq_true, if_false, if_true, List.getElem?_cons_zero, List.getElem?_cons_succ, beq_self_eq_true, bne_self_eq_false, Int.reduceBNe, Int.reduceBEq, Int.reduceLT, Int.reduceGT, Int.reduceLE, Int.reduceGE, Nat.reduceAdd, Nat.reduceMul, Nat.reduceLeDiff, e1, lenCls, cellCls, setCls, Nat.le_refl, g1, g2'], h1, f1.nil⟩
  have g2' : ¬ class' ≥ 5 := by omega
  have e2 := sized_c hB (k + 7) (S := S1) size
  cases g3 : sizedI size with
  | false =>
    rw [if_pos (.inr (.inr rfl))]
    rw [g3] at e2
    exact ⟨S1, by simp only [zB, decide_true, decide_false, Bool.false_eq_true, if_false, if_true, List.getElem?_cons_zero, List.getElem?_cons_succ, beq_self_eq_true, bne_self_eq_false, Int.reduceBNe, Int.reduceBEq, Int.reduceLT, Int.reduceGT, Int.reduceLE, Int.reduceGE, Nat.reduceAdd, Nat.reduceMul, Nat.reduceLeDiff, e1, lenCls, cellCls, setCls, Nat.le_refl, g1, g2', e2], h1, f1.nil⟩
  | true =>
    rw [if_neg (by simp only [not_or]; exact ⟨g1, g2, by simp⟩)]
    rw [g3] at e2
    obtain ⟨hbf, hsz⟩ := bef_le size g3
    obtain ⟨c, rfl⟩ := Int.eq_ofNat_of_zero_le (show 0 ≤ class' by omega)
    have hc : c < 5 := by omega
    obtain ⟨S2, e3, h2, f2⟩ := rcopy_c hB (k + 7) h1
    have n2 := f2.1
    have b2 : ∀ i, i < 3 → S2.blk (S.next + i) = some [.int .i64 (i : Int)] := fun i hi => (f2.get (by omega) (by simp)).trans (b1 i hi)
    obtain ⟨S3, e4, h3, f3⟩ := call_rd hB k h2 (q := S.next) hc (fun h => ⟨b2 c h, by omega, by omega⟩)
    have n3 := f3.1
    have f13 : Fr S1 S3 [] := f2.trans f3 (fun j hj => by simp at hj; omega)
    have b3 : ∀ i, i < 3 → S3.blk (S.next + i) = some [.int .i64 (i : Int)] := fun i hi => (f13.get (by omega) (by simp)).trans (b1 i hi)
    have h3' := h1.fr f13 (by simp)
    have f03 : Fr S S3 [] := f1.trans f13 (fun j hj => .inl hj)
    have c1 : (0 : Int) ≤ (c : Int) := by omega
    have c2 : (c : Int) < ((5 : Nat) : Int) := by omega
    simp only [Int.toNat_natCast]
    cases hr : numR s c a with
    | error e =>
      have c3 : (e != 0) = true := by rcases numR_err hr with rfl | rfl <;> rfl
      rw [hr] at e4
      exact ⟨S3, by simp only [zB, decide_true, decide_false, Bool.false_eq_true, if_false, if_true, List.getElem?_cons_zero, List.getElem?_cons_succ, beq_self_eq_true, bne_self_eq_false, Int.reduceBNe, Int.reduceBEq, Int.reduceLT, Int.reduceGT, Int.reduceLE, Int.reduceGE, Nat.reduceAdd, Nat.reduceMul, Nat.reduceLeDiff, e1, lenCls, cellCls, setCls, Nat.le_refl, g1, g2', e2, c1, c2, Int.toNat_natCast, cls_rd _ _ hc, e3, e4, encU, c3], h3', f03.nil⟩
    | ok x =>
      obtain ⟨v, b⟩ := x
      obtain ⟨r1, r2, r3⟩ := numR_ok hr
      rw [hr] at e4
      have e5 := before_c hB (k + 7) (S := S3) (size.toNat + 1) hsz
      have w1 : IntKind.wrap .i64 (size + 1) = ((size.toNat + 1 : Nat) : Int) := by
        have := (sizedI_iff size).1 g3
        rw [wr _ (by omega)]; omega
      have w2 : IntKind.wrap .u64 ((bef (size.toNat + 1) : Nat) : Int) = ((bef (size.toNat + 1) : Nat) : Int) := wu _ (by omega)
      simp only
      by_cases g4 : v ≥ bef (size.toNat + 1)
      · rw [if_pos g4]
        have c4 : (v : Int) ≥ ((bef (size.toNat + 1) : Nat) : Int) := by omega
        exact ⟨S3, by simp only [zB, decide_true, decide_false, Bool.false_eq_true, if_false, if_true, List.getElem?_cons_zero, List.getElem?_cons_succ, beq_self_eq_true, bne_self_eq_false, Int.reduceBNe, Int.reduceBEq, Int.reduceLT, Int.reduceGT, Int.reduceLE, Int.reduceGE, Nat.reduceAdd, Nat.reduceMul, Nat.reduceLeDiff, e1, lenCls, cellCls, setCls, Nat.le_refl, g1, g2', e2, c1, c2, Int.toNat_natCast, cls_rd _ _ hc, e3, e4, encU, w1, e5, w2, c4], h3', f03.nil⟩
      · rw [if_neg g4]
        have c4 : ¬ (v : Int) ≥ ((bef (size.toNat + 1) : Nat) : Int) := by omega
        obtain ⟨S4, e6, h4, f4⟩ := call_rd hB k h3' (q := S.next) hc (fun h => ⟨b3 c h, by omega, by omega⟩)
        rw [hr] at e6 h4
        have w3 : IntKind.wrap .i64 (v : Int) = (v : Int) := wr _ (by omega)
        have e7 := pair_c hB (k + 6) (S := S4) (v : Int)
        have hp : (pairR (v : Int)).2.2 = 0 := by unfold pairR; rw [if_neg (by omega)]
        rw [hp] at e7
        exact ⟨S4, by simp only [zB, decide_true, decide_false, Bool.false_eq_true, if_false, if_true, List.getElem?_cons_zero, List.getElem?_cons_succ, beq_self_eq_true, bne_self_eq_false, Int.reduceBNe, Int.reduceBEq, Int.reduceLT, Int.reduceGT, Int.reduceLE, Int.reduceGE, Nat.reduceAdd, Nat.reduceMul, Nat.reduceLeDiff, e1, lenCls, cellCls, setCls, Nat.le_refl, g1, g2', e2, c1, c2, Int.toNat_natCast, cls_rd _ _ hc, e3, e4, encU, w1, e5, w2, c4, e6, w3, e7], h4, f03.nil.trans f4 (fun j hj => .inl hj)⟩
end
theorem cut_facts : ∀ m : Fin 16, 2 ^ cutB m.val ≤ m.val + 1 ∧ m.val + 1 < 2 ^ (cutB m.val + 1) ∧ cutB m.val ≤ 4 ∧ cutD m.val ≤ 2 ^ cutB m.val ∧ m.val + cutD m.val < 2 ^ (cutB m.val + 1) ∧ cutD m.val ≤ 16 := by decide
/-- What is read: the number, the error, and where the reader is then. -/
def zerR (s : ByteArray) (a : Nat) (size total : Int) : Int × Int × Nat :=
  if sizedI size = false ∨ total < 1 ∨ total > size then (0, 3, a) else
    if 8 * s.size < a + cutB (size - total).toNat then (0, 5, a) else
    if num s a (cutB (size - total).toNat) < cutD (size - total).toNat then ((num s a (cutB (size - total).toNat) : Int), 0, a + cutB (size - total).toNat) else
    if 8 * s.size < a + cutB (size - total).toNat + 1 then (0, 5, a) else ((num s a (cutB (size - total).toNat + 1) : Int) - cutD (size - total).toNat, 0, a + cutB (size - total).toNat + 1)
def runN (s : ByteArray) : Nat → Nat → Option Nat
  | 0, _ => some 0
  | l + 1, a => if 8 * s.size ≤ a then none else if sb s a = 1 then some 0 else (runN s l (a + 1)).map (· + 1)
def runR (s : ByteArray) (a : Nat) (left : Int) : Int × Int × Nat :=
  if left < 0 ∨ left > 15 then (0, 3, a) else match runN s left.toNat a with
    | none => (0, 5, a)
    | some n => ((n : Int), 0, a + min (n + 1) left.toNat)
theorem runN_zero (s : ByteArray) (a : Nat) : runN s 0 a = some 0 := rfl
theorem runN_succ (s : ByteArray) (l a : Nat) : runN s (l + 1) a = if 8 * s.size ≤ a then none else if sb s a = 1 then some 0 else (runN s l (a + 1)).map (· + 1) := rfl
theorem omap_map (x : Option Nat) (i : Nat) : (x.map (· + 1)).map (· + i) = x.map (· + (i + 1)) := by
  cases x with
  | none => rfl
  | some v => simp only [Option.map]; congr 1; omega
theorem runN_ok {s : ByteArray} : ∀ {l a n : Nat}, a ≤ 8 * s.size → runN s l a = some n → n ≤ l ∧ a + min (n + 1) l ≤ 8 * s.size
  | 0, a, n, ha, h => by cases h; exact ⟨Nat.le_refl _, by simpa using ha⟩
  | l + 1, a, n, ha, h => by
    rw [runN_succ] at h
    split at h
    · cases h
    · split at h
      · cases h; exact ⟨by omega, by omega⟩
      · cases hr : runN s l (a + 1) with
        | none => rw [hr] at h; cases h
        | some m =>
          rw [hr] at h
          simp only [Option.map, Option.some.injEq] at h
          subst h
          obtain ⟨h1, h2⟩ := runN_ok (by omega) hr
          exact ⟨by omega, by omega⟩
section
variable {B : CallF} (hB : Silent B) (k : Nat) {S : Heap} {p : Nat} {s : ByteArray} {a : Nat}
include hB
theorem zeros_c (h : Rdr S p s a) (size total : Int) :
    ∃ S', Cn B (k + 3) f_vlc_Zeros 0 [.ptr p 0, .int .i64 size, .int .i64 total] S = some (.tup [.int .i64 (zerR s a size total).1, .int .i64 (zerR s a size total).2.1], S') ∧ Rdr S' p s (zerR s a size total).2.2 ∧ Fr S S' [p] := by
  rw [c_vlc_Zeros _ _ _ _ _ _ (hB.no _ _ _ _ (kn_no (by decide))), T_vlc_Zeros]
  have e1 := sized_c hB (k + 1) (S := S) size
  unfold zerR
  cases g1 : sizedI size with
  | false =>
    rw [if_pos (.inl rfl)]; rw [g1] at e1
    exact ⟨S, by simp only [zB, decide_true, decide_false, Bool.false_eq_true, if_false, if_true, List.getElem?_cons_zero, List.getElem?_cons_succ, beq_self_eq_true, bne_self_eq_false, Int.reduceBNe, Int.reduceBEq, Int.reduceLT, Int.reduceGT, Int.reduceLE, Int.reduceGE, Nat.reduceAdd, Nat.reduceMul, Nat.reduceLeDiff, e1], h, Fr.refl _ _⟩
  | true =>
    rw [g1] at e1
    by_cases g2 : total < 1
    · rw [if_pos (.inr (.inl g2))]; exact ⟨S, by simp only [zB, decide_true, decide_false, Bool.false_eq_true, if_false, if_true, List.getElem?_cons_zero, List.getElem?_cons_succ, beq_self_eq_true, bne_self_eq_false, Int.reduceBNe, Int.reduceBEq, Int.reduceLT, Int.reduceGT, Int.reduceLE, Int.reduceGE, Nat.reduceAdd, Nat.reduceMul, Nat.reduceLeDiff, e1, g2], h, Fr.refl _ _⟩
    by_cases g3 : total > size
    · rw [if_pos (.inr (.inr g3))]; exact ⟨S, by simp only [zB, decide_true, decide_false, Bool.false_eq_true, if_false, if_true, List.getElem?_cons_zero, List.getElem?_cons_succ, beq_self_eq_true, bne_self_eq_false, Int.reduceBNe, Int.reduceBEq, Int.reduceLT, Int.reduceGT, Int.reduceLE, Int.reduceGE, Nat.reduceAdd, Nat.reduceMul, Nat.reduceLeDiff, e1, g2, g3], h, Fr.refl _ _⟩
    rw [if_neg (by simp only [not_or]; exact ⟨by simp, g2, g3⟩)]
    have hs := (sizedI_iff size).1 g1
    have hle := h.le
    by_cases g4 : size = total
    · have c1 : (size == total) = true := by simp [g4]
      subst g4
      have z : (size - size).toNat = 0 := by omega
      have zb : cutB 0 = 0 := by decide
      have zd : cutD 0 = 1 := by decide
      rw [z, zb, zd, if_neg (by omega), show num s a 0 = 0 from rfl, if_pos (show (0 : Nat) < 1 by omega)]
      exact ⟨S, by simp only [zB, decide_true, decide_false, Bool.false_eq_true, if_false, if_true, List.getElem?_cons_zero, List.getElem?_cons_succ, beq_self_eq_true, bne_self_eq_false, Int.reduceBNe, Int.reduceBEq, Int.reduceLT, Int.reduceGT, Int.reduceLE, Int.reduceGE, Nat.reduceAdd, Nat.reduceMul, Nat.reduceLeDiff, e1, g2, g3, c1] <;> rfl, h, Fr.refl _ _⟩
    · have c1 : (size == total) = false := by simp [g4]
      obtain ⟨m, hm⟩ : ∃ m, m = (size - total).toNat := ⟨_, rfl⟩
      rw [← hm]
      have hm15 : m ≤ 15 := by omega
      have w1 : IntKind.wrap .i64 (size - total) = (m : Int) := by rw [wr _ (by omega)]; omega
      have e2 := cut_c hB (k + 2) (S := S) m hm15
      obtain ⟨f1, f2, f3, f4, f5, f6⟩ := cut_facts ⟨m, by omega⟩
      simp only at f1 f2 f3 f4 f5 f6
      obtain ⟨S1, e3, h1, r1⟩ := rcopy_c hB (k + 1) h
      have lt := h.lt
      have hp1 := h.fr r1 (by simp)
      by_cases g5 : 8 * s.size < a + cutB m
      · rw [if_pos g5]
        have e4 := u_short hB k h1 (cutB m) (by omega) g5
        exact ⟨S1, by simp only [zB, decide_true, decide_false, Bool.false_eq_true, if_false, if_true, List.getElem?_cons_zero, List.getElem?_cons_succ, beq_self_eq_true, bne_self_eq_false, Int.reduceBNe, Int.reduceBEq, Int.reduceLT, Int.reduceGT, Int.reduceLE, Int.reduceGE, Nat.reduceAdd, Nat.reduceMul, Nat.reduceLeDiff, e1, g2, g3, c1, w1, e2, e3, e4], hp1, r1.nil⟩
      · rw [if_neg g5]
        obtain ⟨S2, e4, h2, r2⟩ := u_ok hB k h1 (cutB m) (by omega) (by omega)
        have r02 : Fr S S2 [] := r1.trans r2 (fun j hj => by simp at hj; omega)
        have hp2 := h.fr r02 (by simp)
        have hlt := num_lt s a (cutB m)
        have hp16 : 2 ^ cutB m ≤ 2 ^ 4 := Nat.pow_le_pow_right (by omega) f3
        have w2 : IntKind.wrap .i64 ((num s a (cutB m) : Nat) : Int) = ((num s a (cutB m) : Nat) : Int) := wr _ (by omega)
        by_cases g6 : num s a (cutB m) < cutD m
        · rw [if_pos g6]
          have c2 : ((num s a (cutB m) : Nat) : Int) < ((cutD m : Nat) : Int) := by omega
          obtain ⟨S3, e5, h3, r3⟩ := u_ok hB k hp2 (cutB m) (by omega) (by omega)
          exact ⟨S3, by simp only [zB, decide_true, decide_false, Bool.false_eq_true, if_false, if_true, List.getElem?_cons_zero, List.getElem?_cons_succ, beq_self_eq_true, bne_self_eq_false, Int.reduceBNe, Int.reduceBEq, Int.reduceLT, Int.reduceGT, Int.reduceLE, Int.reduceGE, Nat.reduceAdd, Nat.reduceMul, Nat.reduceLeDiff, e1, g2, g3, c1, w1, e2, e3, e4, w2, c2, e5], h3, r02.nil.trans r3 (fun j hj => .inl hj)⟩
        · rw [if_neg g6]
          have c2 : ¬ ((num s a (cutB m) : Nat) : Int) < ((cutD m : Nat) : Int) := by omega
          have w3 : IntKind.wrap .i64 ((cutB m : Int) + 1) = ((cutB m + 1 : Nat) : Int) := by rw [wr _ (by omega)]; omega
          by_cases g7 : 8 * s.size < a + cutB m + 1
          · rw [if_pos g7]
            have e5 := u_short hB k hp2 (cutB m + 1) (by omega) (by omega)
            exact ⟨S2, by simp only [zB, decide_true, decide_false, Bool.false_eq_true, if_false, if_true, List.getElem?_cons_zero, List.getElem?_cons_succ, beq_self_eq_true, bne_self_eq_false, Int.reduceBNe, Int.reduceBEq, Int.reduceLT, Int.reduceGT, Int.reduceLE, Int.reduceGE, Nat.reduceAdd, Nat.reduceMul, Nat.reduceLeDiff, e1, g2, g3, c1, w1, e2, e3, e4, w2, c2, w3, e5], hp2, r02.nil⟩
          · rw [if_neg g7]
            obtain ⟨S3, e5, h3, r3⟩ := u_ok hB k hp2 (cutB m + 1) (by omega) (by omega)
            have hlt2 := num_lt s a (cutB m + 1)
            have hp32 : 2 ^ (cutB m + 1) ≤ 2 ^ 5 := Nat.pow_le_pow_right (by omega) (by omega)
            have w4 : IntKind.wrap .i64 ((num s a (cutB m + 1) : Nat) : Int) = ((num s a (cutB m + 1) : Nat) : Int) := wr _ (by omega)
            have w5 : IntKind.wrap .i64 (((num s a (cutB m + 1) : Nat) : Int) - ((cutD m : Nat) : Int)) = ((num s a (cutB m + 1) : Nat) : Int) - ((cutD m : Nat) : Int) := wr _ (by omega)
            exact ⟨S3, by simp only [zB, decide_true, decide_false, Bool.false_eq_true, if_false, if_true, List.getElem?_cons_zero, List.getElem?_cons_succ, beq_self_eq_true, bne_self_eq_false, Int.reduceBNe, Int.reduceBEq, Int.reduceLT, Int.reduceGT, Int.reduceLE, Int.reduceGE, Nat.reduceAdd, Nat.reduceMul, Nat.reduceLeDiff, e1, g2, g3, c1, w1, e2, e3, e4, w2, c2, w3, e5, w4, w5], h3, r02.nil.trans r3 (fun j hj => .inl hj)⟩
theorem run_c (h : Rdr S p s a) (left : Int) :
    ∃ S', Cn B (k + 4) f_vlc_Run 0 [.ptr p 0, .int .i64 left] S = some (.tup [.int .i64 (runR s a left).1, .int .i64 (runR s a left).2.1], S') ∧ Rdr S' p s (runR s a left).2.2 ∧ Fr S S' [p] := by
  rw [c_vlc_Run _ _ _ _ _ (hB.no _ _ _ _ (kn_no (by decide))), T_vlc_Run]
  unfold runR
  by_cases g1 : left < 0
  · rw [if_pos (.inl g1)]; exact ⟨S, by simp only [zB, decide_true, decide_false, Bool.false_eq_true, if_false, if_true, List.getElem?_cons_zero, List.getElem?_cons_succ, beq_self_eq_true, bne_self_eq_false, Int.reduceBNe, Int.reduceBEq, Int.reduceLT, Int.reduceGT, Int.reduceLE, Int.reduceGE, Nat.reduceAdd, Nat.reduceMul, Nat.reduceLeDiff, g1], h, Fr.refl _ _⟩
  by_cases g2 : left > 15
  · rw [if_pos (.inr g2)]; exact ⟨S, by simp only [zB, decide_true, decide_false, Bool.false_eq_true, if_false, if_true, List.getElem?_cons_zero, List.getElem?_cons_succ, beq_self_eq_true, bne_self_eq_false, Int.reduceBNe, Int.reduceBEq, Int.reduceLT, Int.reduceGT, Int.reduceLE, Int.reduceGE, Nat.reduceAdd, Nat.reduceMul, Nat.reduceLeDiff, g1, g2], h, Fr.refl _ _⟩
  rw [if_neg (by simp only [not_or]; exact ⟨g1, g2⟩)]
  obtain ⟨l, rfl⟩ := Int.eq_ofNat_of_zero_le (show 0 ≤ left by omega)
  simp only [Int.toNat_natCast]
  have lt := h.lt
  have hle := h.le
  obtain ⟨S1, e1, h1, f1⟩ := rcopy_c hB (k + 2) h
  simp only [zB, decide_true, decide_false, Bool.false_eq_true, if_false, if_true, List.getElem?_cons_zero, List.getElem?_cons_succ, beq_self_eq_true, bne_self_eq_false, Int.reduceBNe, Int.reduceBEq, Int.reduceLT, Int.reduceGT, Int.reduceLE, Int.reduceGE, Nat.reduceAdd, Nat.reduceMul, Nat.reduceLeDiff, g1, g2, e1]
  refine loop_meas (fun o => ∃ S', o = some (AV.tup [.int .i64 (match runN s l a with | none => ((0 : Int), (5 : Int), a) | some n => ((n : Int), 0, a + min (n + 1) l)).1, .int .i64 (match runN s l a with | none => ((0 : Int), (5 : Int), a) | some n => ((n : Int), 0, a + min (n + 1) l)).2.1], S') ∧
      Rdr S' p s (match runN s l a with | none => ((0 : Int), (5 : Int), a) | some n => ((n : Int), 0, a + min (n + 1) l)).2.2 ∧ Fr S S' [p])
    (fun m st => ∃ i T, i + m = l ∧ st = ([.ptr p 0, .int .i64 (l : Int), .ptr S.next 0, .int .i64 (i : Int)], T) ∧ Rdr T S.next s (a + i) ∧ Fr S T [] ∧ runN s l a = (runN s m (a + i)).map (· + i)) l ⟨0, S1, by omega, rfl, h1, f1, by cases runN s l (a + 0) <;> rfl⟩ ?_
  rintro m st ⟨i, T, hi, rfl, hT, hF, hl⟩
  have fin : ∀ T', Fr S T' [] → runN s l a = some i → ∃ S', bO (Cn B (k + 3) f_bits_Reader_U 0 [.ptr p 0, .int .i64 (if (l : Int) < IntKind.wrap .i64 ((i : Int) + 1) then (l : Int) else IntKind.wrap .i64 ((i : Int) + 1))] T') (fun t24 => asTup t24.1 fun l25 => asCons l25 fun a26 l27 => asInt .u64 a26 fun i28 => asCons l27 fun a29 l30 => asInt .i64 a29 fun i31 => some (ctlV.tr S (.tup [.int .i64 (i : Int), .int .i64 0]) t24.2)) = some (.tup [.int .i64 (i : Int), .int .i64 0], S') ∧ Rdr S' p s (a + min (i + 1) l) ∧ Fr S S' [p] := fun T' hF' hr => by
    have w1 : IntKind.wrap .i64 ((i : Int) + 1) = ((i + 1 : Nat) : Int) := by rw [wr _ (by omega)]; omega
    have w2 : (if (l : Int) < ((i + 1 : Nat) : Int) then (l : Int) else ((i + 1 : Nat) : Int)) = ((min (i + 1) l : Nat) : Int) := by split <;> omega
    obtain ⟨r1, r2⟩ := runN_ok hle hr
    obtain ⟨S3, e3, h3, f3⟩ := u_ok hB (k + 1) (h.fr hF' (by simp)) (min (i + 1) l) (by omega) r2
    exact ⟨S3, by simp only [zB, decide_true, decide_false, Bool.false_eq_true, if_false, if_true, List.getElem?_cons_zero, List.getElem?_cons_succ, beq_self_eq_true, bne_self_eq_false, Int.reduceBNe, Int.reduceBEq, Int.reduceLT, Int.reduceGT, Int.reduceLE, Int.reduceGE, Nat.reduceAdd, Nat.reduceMul, Nat.reduceLeDiff, w1, w2, e3], h3, hF'.nil.trans f3 (fun j hj => .inl hj)⟩
  cases m with
  | zero =>
    have hil : i = l := by omega
    have c1 : ¬ ((i : Int) < (l : Int)) := by omega
    have hr : runN s l a = some i := by rw [hl, runN_zero]; simp
    obtain ⟨S', e3, h3⟩ := fin T hF hr
    refine .inl ⟨(0, [.ptr p 0, .int .i64 (l : Int), .int .i64 (i : Int)], T), by simp only [zB, decide_true, decide_false, Bool.false_eq_true, if_false, if_true, List.getElem?_cons_zero, List.getElem?_cons_succ, beq_self_eq_true, bne_self_eq_false, Int.reduceBNe, Int.reduceBEq, Int.reduceLT, Int.reduceGT, Int.reduceLE, Int.reduceGE, Nat.reduceAdd, Nat.reduceMul, Nat.reduceLeDiff, c1], S', ?_⟩
    rw [hr]
    exact ⟨by simp only [zB, decide_true, decide_false, Bool.false_eq_true, if_false, if_true, List.getElem?_cons_zero, List.getElem?_cons_succ, beq_self_eq_true, bne_self_eq_false, Int.reduceBNe, Int.reduceBEq, Int.reduceLT, Int.reduceGT, Int.reduceLE, Int.reduceGE, Nat.reduceAdd, Nat.reduceMul, Nat.reduceLeDiff, sel] <;> exact e3, h3⟩
  | succ m =>
    have c1 : (i : Int) < (l : Int) := by omega
    rw [runN_succ s m (a + i)] at hl
    have hle2 := hT.le
    by_cases hs : 8 * s.size ≤ a + i
    · rw [if_pos hs] at hl
      have e2 := bit_short hB k hT (by omega)
      have hr : runN s l a = none := hl
      refine .inl ⟨(1, [.int .i64 0, .int .i64 5], T), by simp only [zB, decide_true, decide_false, Bool.false_eq_true, if_false, if_true, List.getElem?_cons_zero, List.getElem?_cons_succ, beq_self_eq_true, bne_self_eq_false, Int.reduceBNe, Int.reduceBEq, Int.reduceLT, Int.reduceGT, Int.reduceLE, Int.reduceGE, Nat.reduceAdd, Nat.reduceMul, Nat.reduceLeDiff, c1, e2], T, ?_⟩
      rw [hr]
      exact ⟨by simp only [zB, decide_true, decide_false, Bool.false_eq_true, if_false, if_true, List.getElem?_cons_zero, List.getElem?_cons_succ, beq_self_eq_true, bne_self_eq_false, Int.reduceBNe, Int.reduceBEq, Int.reduceLT, Int.reduceGT, Int.reduceLE, Int.reduceGE, Nat.reduceAdd, Nat.reduceMul, Nat.reduceLeDiff, sel], h.fr hF (by simp), hF.nil⟩
    · rw [if_neg hs] at hl
      obtain ⟨T', e2, h2, f2⟩ := bit_ok hB k hT (by omega)
      have hF' := hF.trans f2 (fun j hj => by simp at hj; omega)
      by_cases hb : sb s (a + i) = 1
      · rw [if_pos hb] at hl
        have hr : runN s l a = some i := by rw [hl]; simp
        obtain ⟨S', e3, h3⟩ := fin T' hF' hr
        refine .inl ⟨(0, [.ptr p 0, .int .i64 (l : Int), .int .i64 (i : Int)], T'), by simp only [zB, decide_true, decide_false, Bool.false_eq_true, if_false, if_true, List.getElem?_cons_zero, List.getElem?_cons_succ, beq_self_eq_true, bne_self_eq_false, Int.reduceBNe, Int.reduceBEq, Int.reduceLT, Int.reduceGT, Int.reduceLE, Int.reduceGE, Nat.reduceAdd, Nat.reduceMul, Nat.reduceLeDiff, c1, e2, hb, Int.natCast_one], S', ?_⟩
        rw [hr]
        exact ⟨by simp only [zB, decide_true, decide_false, Bool.false_eq_true, if_false, if_true, List.getElem?_cons_zero, List.getElem?_cons_succ, beq_self_eq_true, bne_self_eq_false, Int.reduceBNe, Int.reduceBEq, Int.reduceLT, Int.reduceGT, Int.reduceLE, Int.reduceGE, Nat.reduceAdd, Nat.reduceMul, Nat.reduceLeDiff, sel] <;> exact e3, h3⟩
      · rw [if_neg hb, omap_map] at hl
        have hb0 : sb s (a + i) = 0 := by have := sb_lt s (a + i); omega
        have w1 : IntKind.wrap .i64 ((i : Int) + 1) = ((i + 1 : Nat) : Int) := by rw [wr _ (by omega)]; omega
        exact .inr ⟨m, ([.ptr p 0, .int .i64 (l : Int), .ptr S.next 0, .int .i64 ((i + 1 : Nat) : Int)], T'), by omega, by simp only [zB, decide_true, decide_false, Bool.false_eq_true, if_false, if_true, List.getElem?_cons_zero, List.getElem?_cons_succ, beq_self_eq_true, bne_self_eq_false, Int.reduceBNe, Int.reduceBEq, Int.reduceLT, Int.reduceGT, Int.reduceLE, Int.reduceGE, Nat.reduceAdd, Nat.reduceMul, Nat.reduceLeDiff, c1, e2, hb0, w1, Int.natCast_zero], i + 1, T', by omega, rfl, h2, hF', hl⟩
end
theorem pr_bind {α β : Type} {P : Program} (s : Sem α) (f : α → Sem β) : pureRun P (s >>= f) = (pureRun P s).bind fun a => pureRun P (f a) := by
  show pureRun P (Sem.bind s f) = _
  induction s with
  | pure a => rfl
  | program k ih => exact ih P
  | _ => rfl
theorem pr_pure {α : Type} {P : Program} (a : α) : pureRun P (pure a : Sem α) = some a := rfl
theorem pr_und {P : Program} {t : TypeId} {d : TypeDesc} (h : P.underlying t = some d) : pureRun P (underlying t) = some d := by
  unfold underlying
  rw [pr_bind]
  show pureRun P (match P.underlying t with | some d => pure d | none => _) = _
  rw [h]; rfl
theorem pr_int {P : Program} {d : Nat} {t : TypeId} {k k' : IntKind} {a b : Int} (h : P.underlying t = some (.int k')) : pureRun P (Op.equalIn (d + 1) t (.int k a) (.int k b)) = some (a == b) := by
  rw [Op.equalIn, pr_bind, pr_und h]
  simp [pr_pure]
theorem pr_part1 {P : Program} {t : TypeId} {k : IntKind} {cs : List Value} {i : Nat} {v : Value} (h : P.underlying t = some (.int k)) (hv : cs[i]? = some v) : pureRun P (part t cs.toArray i) = some v := by
  unfold part isAgg
  simp only [pr_bind, pr_und h, Option.bind_some, pr_pure, Bool.false_eq_true, if_false]
  rw [List.getElem?_toArray, hv]
  rfl
theorem all_range_eqI : ∀ (xs ys : List Int), xs.length = ys.length → ((List.range xs.length).all fun i => xs.getD i 0 == ys.getD i 0) = (xs == ys)
  | [], [], _ => rfl
  | x :: xs, y :: ys, h => by
    have ih := all_range_eqI xs ys (by simpa using h)
    rw [List.length_cons, List.range_succ_eq_map, List.all_cons, List.all_map]
    simp only [List.getD_cons_zero, Function.comp_def, List.getD_cons_succ, ih]
    simp [List.cons_beq_cons]
  | [], _ :: _, h => by simp at h
  | _ :: _, [], h => by simp at h
theorem pr_array {P : Program} {t e : TypeId} {n d : Nat} {k : IntKind} (ht : P.underlying t = some (.array n e)) (he : P.underlying e = some (.int k)) (hsz : pureRun P (sizeOf e) = some 1) (xs ys : List Int) (hx : xs.length = n) (hy : ys.length = n) :
    pureRun P (Op.equalIn (d + 2) t (.agg (xs.map (Value.int k)).toArray) (.agg (ys.map (Value.int k)).toArray)) = some (xs == ys) := by
  rw [← all_range_eqI xs ys (hx.trans hy.symm), hx, List.range_eq_range', Op.equalIn]
  simp only [pr_bind, pr_und ht, Option.bind_some, hsz, Std.Legacy.Range.forIn_eq_forIn_range', Std.Legacy.Range.size, Nat.sub_zero, Nat.add_sub_cancel, Nat.div_one]
  have hl : ∀ i ∈ List.range' 0 n 1, i < n := fun i hi => by simpa using (List.mem_range'_1.1 hi).2
  generalize List.range' 0 n 1 = l at hl ⊢
  induction l with
  | nil => simp [pr_pure]
  | cons i l ih =>
    have hi : i < n := hl i (by simp)
    have px : pureRun P (part e (xs.map (Value.int k)).toArray (i * 1)) = some (.int k (xs.getD i 0)) := by
      refine pr_part1 he ?_
      simp [List.getD, List.getElem?_eq_getElem (show i < xs.length by omega)]
    have py : pureRun P (part e (ys.map (Value.int k)).toArray (i * 1)) = some (.int k (ys.getD i 0)) := by
      refine pr_part1 he ?_
      simp [List.getD, List.getElem?_eq_getElem (show i < ys.length by omega)]
    simp only [List.forIn_cons, pr_bind, px, py, pr_int he, Option.bind_some, List.all_cons]
    cases hb : (xs.getD i 0 == ys.getD i 0)
    · simp [pr_pure]
    · simp only [Bool.not_true, Bool.false_eq_true, if_false, pr_pure, Option.bind_some, Bool.true_and]
      exact ih fun j hj => hl j (by simp [hj])
theorem toL_ints {k : IntKind} : ∀ xs : List Int, toL (xs.map (AV.int k)) = some (xs.map (Value.int k))
  | [] => rfl
  | x :: xs => by simp only [List.map_cons, toL, toS, toL_ints xs]
theorem eql_ints {t n : Nat} (ht : Try.prog.underlying t = some (.array n 3)) (hg : Try.prog.eqGuardType Try.prog.depth t = false) (xs ys : List Int) (hx : xs.length = n) (hy : ys.length = n) :
    aBin Try.prog .eql t (.agg (xs.map (AV.int .i64))) (.agg (ys.map (AV.int .i64))) = some (.bool (xs == ys)) := by
  show (aggEq Try.prog t _ _).map AV.bool = _
  unfold aggEq
  rw [toL_ints, toL_ints]
  simp only [hg, Bool.false_eq_true, if_false, Op.equal]
  rw [show Op.maxDepth = 9998 + 2 from rfl, pr_array ht Try.underlying3 (by kernel_rfl) xs ys hx hy]
  rfl
theorem eql_pair (x y z w : Int) : aBin Try.prog .eql 102 (.agg [.int .i64 x, .int .i64 y]) (.agg [.int .i64 z, .int .i64 w]) = some (.bool ([x, y] == [z, w])) := eql_ints (n := 2) (by kernel_rfl) (by kernel_rfl) [x, y] [z, w] rfl rfl
section
variable {B : CallF} (hB : Silent B) (k : Nat) {S : Heap} {p : Nat} {s : ByteArray} {a : Nat} (h : Rdr S p s a)
include hB h
theorem left1_c : Cn B (k + 1) f_spindleref01_Reader_Left 0 [.ptr p 0] S = some (.int .i64 ((8 * s.size - a : Nat) : Int), S) := by
  rw [c_spindleref01_Reader_Left _ _ _ _ (hB.no _ _ _ _ (kn_no (by decide))), T_spindleref01_Reader_Left]
  have := h.sz
  have := h.le
  have w1 : IntKind.wrap .i64 (8 * (s.size : Int)) = 8 * s.size := wr _ (by omega)
  have w2 : IntKind.wrap .i64 (8 * (s.size : Int) - a) = ((8 * s.size - a : Nat) : Int) := by rw [wr _ (by omega)]; omega
  simp only [zB, decide_true, decide_false, Bool.false_eq_true, if_false, if_true, List.getElem?_cons_zero, List.getElem?_cons_succ, beq_self_eq_true, bne_self_eq_false, Int.reduceBNe, Int.reduceBEq, Int.reduceLT, Int.reduceGT, Int.reduceLE, Int.reduceGE, Nat.reduceAdd, Nat.reduceMul, Nat.reduceLeDiff, h.blk, w1, w2]
theorem pos1_c : Cn B (k + 1) f_spindleref01_Reader_Pos 0 [.ptr p 0] S = some (.int .i64 (a : Int), S) := by
  rw [c_spindleref01_Reader_Pos _ _ _ _ (hB.no _ _ _ _ (kn_no (by decide))), T_spindleref01_Reader_Pos]
  simp only [zB, decide_true, decide_false, Bool.false_eq_true, if_false, if_true, List.getElem?_cons_zero, List.getElem?_cons_succ, beq_self_eq_true, bne_self_eq_false, Int.reduceBNe, Int.reduceBEq, Int.reduceLT, Int.reduceGT, Int.reduceLE, Int.reduceGE, Nat.reduceAdd, Nat.reduceMul, Nat.reduceLeDiff, h.blk]
theorem u1_ok (n : Nat) (hn : n ≤ 64) (hL : a + n ≤ 8 * s.size) :
    ∃ S', Cn B (k + 2) f_spindleref01_Reader_U 0 [.ptr p 0, .int .i64 (n : Int)] S = some (.tup [.int .u64 ((num s a n : Nat) : Int), .int .i64 0], S') ∧ Rdr S' p s (a + n) ∧ Fr S S' [p] := by
  rw [c_spindleref01_Reader_U _ _ _ _ _ (hB.no _ _ _ _ (kn_no (by decide))), T_spindleref01_Reader_U]
  have e1 := left1_c hB k h
  have c1 : ¬ ((n : Int) < 0) := by omega
  have c2 : ¬ ((n : Int) > 64) := by omega
  have c3 : ¬ (((8 * s.size - a : Nat) : Int) < (n : Int)) := by omega
  simp only [zB, decide_true, decide_false, Bool.false_eq_true, if_false, if_true, List.getElem?_cons_zero, List.getElem?_cons_succ, beq_self_eq_true, bne_self_eq_false, Int.reduceBNe, Int.reduceBEq, Int.reduceLT, Int.reduceGT, Int.reduceLE, Int.reduceGE, Nat.reduceAdd, Nat.reduceMul, Nat.reduceLeDiff, c1, c2, e1, c3]
  refine loop_meas (fun o => ∃ S', o = some (AV.tup [.int .u64 ((num s a n : Nat) : Int), .int .i64 0], S') ∧ Rdr S' p s (a + n) ∧ Fr S S' [p])
    (fun m st => ∃ i T, i + m = n ∧ st = ([.ptr p 0, .int .i64 (n : Int), .int .u64 ((num s a i : Nat) : Int), .int .i64 (i : Int)], T) ∧ Rdr T p s (a + i) ∧ Fr S T [p]) n ⟨0, S, by omega, by simp [num], h, Fr.refl S _⟩ ?_
  rintro m st ⟨i, T, hi, rfl, hT, hF⟩
  by_cases hm : m = 0
  · subst hm
    have : i = n := by omega
    subst this
    have c4 : ¬ ((i : Int) < (i : Int)) := by omega
    exact .inl ⟨(0, [.int .u64 ((num s a i : Nat) : Int)], T), by simp only [zB, decide_true, decide_false, Bool.false_eq_true, if_false, if_true, List.getElem?_cons_zero, List.getElem?_cons_succ, beq_self_eq_true, bne_self_eq_false, Int.reduceBNe, Int.reduceBEq, Int.reduceLT, Int.reduceGT, Int.reduceLE, Int.reduceGE, Nat.reduceAdd, Nat.reduceMul, Nat.reduceLeDiff, c4], T, by simp only [zB, decide_true, decide_false, Bool.false_eq_true, if_false, if_true, List.getElem?_cons_zero, List.getElem?_cons_succ, beq_self_eq_true, bne_self_eq_false, Int.reduceBNe, Int.reduceBEq, Int.reduceLT, Int.reduceGT, Int.reduceLE, Int.reduceGE, Nat.reduceAdd, Nat.reduceMul, Nat.reduceLeDiff, sel], hT, hF⟩
  · have hsz := h.sz
    have hle := hT.le
    have c4 : (i : Int) < (n : Int) := by omega
    obtain ⟨b, hb⟩ : ∃ b, s.data[(a + i) / 8]? = some b := by
      have : (a + i) / 8 < s.data.size := by have : s.size = s.data.size := rfl; omega
      exact ⟨_, Array.getElem?_eq_getElem this⟩
    have w3 : IntKind.wrap .u64 (IntKind.wrap .i64 (7 - Int.tmod ((a + i : Nat) : Int) 8)) = ((7 - (a + i) % 8 : Nat) : Int) := by rw [tmodL, wr _ (by omega), wu _ (by omega)]; omega
    have w7 : IntKind.wrap .i64 (Int.tdiv ((a + i : Nat) : Int) 8) = (((a + i) / 8 : Nat) : Int) := by rw [tdivL, wr _ (by omega)]
    have w8 : (0 : Int) ≤ (((a + i) / 8 : Nat) : Int) := by omega
    have w9 : IntKind.wrap .i64 (((a + i : Nat) : Int) + 1) = ((a + (i + 1) : Nat) : Int) := by rw [wr _ (by omega)]; omega
    have w10 : IntKind.wrap .i64 ((i : Int) + 1) = ((i + 1 : Nat) : Int) := by rw [wr _ (by omega)]; omega
    have hnum := num_lt s a (i + 1)
    have hp64 : 2 ^ (i + 1) ≤ 2 ^ 64 := Nat.pow_le_pow_right (by omega) (by omega)
    have hs2 := sb_lt s (a + i)
    have hlt := b.toNat_lt
    have w4 : andI .u8 (shrI .u8 ((UInt8.toNat b : Nat) : Int) ((7 - (a + i) % 8 : Nat) : Int)) 1 = ((sb s (a + i) : Nat) : Int) := by
      rw [shr8 _ _ (by omega)]
      have := and8 (b.toNat / 2 ^ (7 - (a + i) % 8)) 1 (Nat.lt_of_le_of_lt (Nat.div_le_self _ _) hlt) (by omega)
      rw [Nat.and_one_is_mod] at this
      rw [show sb s (a + i) = b.toNat / 2 ^ (7 - (a + i) % 8) % 2 by unfold sb; rw [hb]; rfl]
      exact this
    have hns : num s a (i + 1) = 2 * num s a i + sb s (a + i) := rfl
    have w5 : IntKind.wrap .u64 (IntKind.wrap .u64 (2 * ((num s a i : Nat) : Int)) + IntKind.wrap .u64 ((sb s (a + i) : Nat) : Int)) = ((num s a (i + 1) : Nat) : Int) := by
      rw [wu (2 * _) (by omega), wu ((sb s (a + i) : Nat) : Int) (by omega), wu _ (by omega), hns]; omega
    refine .inr ⟨m - 1, _, by omega, by simp only [zB, decide_true, decide_false, Bool.false_eq_true, if_false, if_true, List.getElem?_cons_zero, List.getElem?_cons_succ, beq_self_eq_true, bne_self_eq_false, Int.reduceBNe, Int.reduceBEq, Int.reduceLT, Int.reduceGT, Int.reduceLE, Int.reduceGE, Nat.reduceAdd, Nat.reduceMul, Nat.reduceLeDiff, c4, hT.blk, w3, w7, w8, w9, w10, ba_get, Int.toNat_natCast, hb, aShr, w4, w5, hT.put], i + 1, T.set p (some [.str s, .int .i64 ((a + (i + 1) : Nat) : Int)]), by omega, rfl, hT.set (by omega), hF.set (.inl (by simp)) _⟩
theorem u1_short (n : Nat) (hn : n ≤ 64) (hL : 8 * s.size < a + n) : Cn B (k + 2) f_spindleref01_Reader_U 0 [.ptr p 0, .int .i64 (n : Int)] S = some (.tup [.int .u64 0, .int .i64 5], S) := by
  rw [c_spindleref01_Reader_U _ _ _ _ _ (hB.no _ _ _ _ (kn_no (by decide))), T_spindleref01_Reader_U]
  have e1 := left1_c hB k h
  have := h.le
  have c1 : ¬ ((n : Int) < 0) := by omega
  have c2 : ¬ ((n : Int) > 64) := by omega
  have c3 : ((8 * s.size - a : Nat) : Int) < (n : Int) := by omega
  simp only [zB, decide_true, decide_false, Bool.false_eq_true, if_false, if_true, List.getElem?_cons_zero, List.getElem?_cons_succ, beq_self_eq_true, bne_self_eq_false, Int.reduceBNe, Int.reduceBEq, Int.reduceLT, Int.reduceGT, Int.reduceLE, Int.reduceGE, Nat.reduceAdd, Nat.reduceMul, Nat.reduceLeDiff, c1, c2, e1, c3]
theorem bit1_ok (hL : a < 8 * s.size) : ∃ S', Cn B (k + 3) f_spindleref01_Reader_Bit 0 [.ptr p 0] S = some (.tup [.int .u8 ((sb s a : Nat) : Int), .int .i64 0], S') ∧ Rdr S' p s (a + 1) ∧ Fr S S' [p] := by
  rw [c_spindleref01_Reader_Bit _ _ _ _ (hB.no _ _ _ _ (kn_no (by decide))), T_spindleref01_Reader_Bit]
  obtain ⟨S', e, h1, h2⟩ := u1_ok hB k h 1 (by omega) (by omega)
  have hs := sb_lt s a
  have w1 : IntKind.wrap .u8 ((num s a 1 : Nat) : Int) = ((sb s a : Nat) : Int) := by
    simp only [num, Nat.mul_zero, Nat.zero_add, Nat.add_zero]; exact wb _ (by omega)
  rw [show (((1 : Nat)) : Int) = 1 from rfl] at e
  exact ⟨S', by simp only [zB, decide_true, decide_false, Bool.false_eq_true, if_false, if_true, List.getElem?_cons_zero, List.getElem?_cons_succ, beq_self_eq_true, bne_self_eq_false, Int.reduceBNe, Int.reduceBEq, Int.reduceLT, Int.reduceGT, Int.reduceLE, Int.reduceGE, Nat.reduceAdd, Nat.reduceMul, Nat.reduceLeDiff, e, w1], h1, h2⟩
theorem bit1_short (hL : a = 8 * s.size) : Cn B (k + 3) f_spindleref01_Reader_Bit 0 [.ptr p 0] S = some (.tup [.int .u8 0, .int .i64 5], S) := by
  rw [c_spindleref01_Reader_Bit _ _ _ _ (hB.no _ _ _ _ (kn_no (by decide))), T_spindleref01_Reader_Bit]
  have e := u1_short hB k h 1 (by omega) (by omega)
  rw [show (((1 : Nat)) : Int) = 1 from rfl] at e
  have w1 : IntKind.wrap .u8 0 = 0 := wb _ (by omega)
  simp only [zB, decide_true, decide_false, Bool.false_eq_true, if_false, if_true, List.getElem?_cons_zero, List.getElem?_cons_succ, beq_self_eq_true, bne_self_eq_false, Int.reduceBNe, Int.reduceBEq, Int.reduceLT, Int.reduceGT, Int.reduceLE, Int.reduceGE, Nat.reduceAdd, Nat.reduceMul, Nat.reduceLeDiff, e, w1]
theorem u1_c (n : Nat) (hn : n ≤ 64) : ∃ S', Cn B (k + 2) f_spindleref01_Reader_U 0 [.ptr p 0, .int .i64 (n : Int)] S = some (encU (rU s n a), S') ∧ Rdr S' p s ((rU s n a).pos a) ∧ Fr S S' [p] := by
  unfold rU
  by_cases hL : 8 * s.size < a + n
  · rw [if_pos hL]
    exact ⟨S, u1_short hB k h n hn hL, h, Fr.refl S _⟩
  · rw [if_neg hL]
    exact u1_ok hB k h n hn (by omega)
theorem back_c (b : Nat) (hb : b ≤ 8 * s.size) (e : Int) : ∃ S', Cn B (k + 1) f_spindleref02_back 0 [.ptr p 0, .int .i64 (b : Int), .int .i64 e] S = some (.tup [.int .u64 0, .int .i64 e], S') ∧ Rdr S' p s b ∧ Fr S S' [p] := by
  rw [c_spindleref02_back _ _ _ _ _ _ (hB.no _ _ _ _ (kn_no (by decide))), T_spindleref02_back]
  exact ⟨_, by simp only [zB, decide_true, decide_false, Bool.false_eq_true, if_false, if_true, List.getElem?_cons_zero, List.getElem?_cons_succ, beq_self_eq_true, bne_self_eq_false, Int.reduceBNe, Int.reduceBEq, Int.reduceLT, Int.reduceGT, Int.reduceLE, Int.reduceGE, Nat.reduceAdd, Nat.reduceMul, Nat.reduceLeDiff, h.put] <;> rfl, h.set hb, (Fr.refl S [p]).set (.inl (by simp)) _⟩
theorem ue1_c : ∃ S', Cn B (k + 4) f_spindleref02_Ue 0 [.ptr p 0] S = some (encU (rUe s a), S') ∧ Rdr S' p s ((rUe s a).pos a) ∧ Fr S S' [p] := by
  rw [c_spindleref02_Ue _ _ _ _ (hB.no _ _ _ _ (kn_no (by decide))), T_spindleref02_Ue]
  have hle := h.le
  simp only [zB, decide_true, decide_false, Bool.false_eq_true, if_false, if_true, List.getElem?_cons_zero, List.getElem?_cons_succ, beq_self_eq_true, bne_self_eq_false, Int.reduceBNe, Int.reduceBEq, Int.reduceLT, Int.reduceGT, Int.reduceLE, Int.reduceGE, Nat.reduceAdd, Nat.reduceMul, Nat.reduceLeDiff, h.blk]
  refine loop_meas (fun o => ∃ S', o = some (encU (rUe s a), S') ∧ Rdr S' p s ((rUe s a).pos a) ∧ Fr S S' [p])
    (fun m st => ∃ i T, i + m = 32 ∧ i ≤ 31 ∧ st = ([.ptr p 0, .int .i64 (a : Int), .int .i64 (i : Int)], T) ∧ Rdr T p s (a + i) ∧ Fr S T [p] ∧ lead s 32 a = (lead s m (a + i)).map (· + i)) 32 ⟨0, S, by omega, by omega, rfl, h, Fr.refl _ _, by cases lead s 32 (a + 0) <;> rfl⟩ ?_
  rintro m st ⟨i, T, hi, hi', rfl, hT, hF, hl⟩
  obtain ⟨m, rfl⟩ : ∃ m', m = m' + 1 := ⟨m - 1, by omega⟩
  rw [lead_succ s m (a + i)] at hl
  have hle2 := hT.le
  by_cases hs : 8 * s.size ≤ a + i
  · rw [if_pos hs] at hl
    have e2 := bit1_short hB k hT (by omega)
    obtain ⟨T', e3, h3, f3⟩ := back_c hB (k + 2) hT a hle 5
    have hr : rUe s a = .error 5 := by unfold rUe; rw [hl]; rfl
    refine .inl ⟨(1, [.int .u64 0, .int .i64 5], T'), by simp only [zB, decide_true, decide_false, Bool.false_eq_true, if_false, if_true, List.getElem?_cons_zero, List.getElem?_cons_succ, beq_self_eq_true, bne_self_eq_false, Int.reduceBNe, Int.reduceBEq, Int.reduceLT, Int.reduceGT, Int.reduceLE, Int.reduceGE, Nat.reduceAdd, Nat.reduceMul, Nat.reduceLeDiff, e2, e3], T', ?_⟩
    rw [hr]
    exact ⟨by simp only [zB, decide_true, decide_false, Bool.false_eq_true, if_false, if_true, List.getElem?_cons_zero, List.getElem?_cons_succ, beq_self_eq_true, bne_self_eq_false, Int.reduceBNe, Int.reduceBEq, Int.reduceLT, Int.reduceGT, Int.reduceLE, Int.reduceGE, Nat.reduceAdd, Nat.reduceMul, Nat.reduceLeDiff, sel, encU], h3, hF.trans f3 (fun j hj => .inl hj)⟩
  · rw [if_neg hs] at hl
    obtain ⟨T', e2, h2, f2⟩ := bit1_ok hB k hT (by omega)
    have hF' := hF.trans f2 (fun j hj => .inl hj)
    by_cases hb : sb s (a + i) = 1
    · rw [if_pos hb] at hl
      have hl' : lead s 32 a = .ok i := by rw [hl]; simp [Except.map]
      refine .inl ⟨(0, [.ptr p 0, .int .i64 (a : Int), .int .i64 (i : Int)], T'), by simp only [zB, decide_true, decide_false, Bool.false_eq_true, if_false, if_true, List.getElem?_cons_zero, List.getElem?_cons_succ, beq_self_eq_true, bne_self_eq_false, Int.reduceBNe, Int.reduceBEq, Int.reduceLT, Int.reduceGT, Int.reduceLE, Int.reduceGE, Nat.reduceAdd, Nat.reduceMul, Nat.reduceLeDiff, e2, hb, Int.natCast_one], ?_⟩
      unfold rUe
      rw [hl']
      simp only
      by_cases hL : 8 * s.size < a + i + 1 + i
      · rw [if_pos hL]
        have e3 := u1_short hB (k + 1) h2 i (by omega) hL
        obtain ⟨T2, e4, h4, f4⟩ := back_c hB (k + 2) h2 a hle 5
        exact ⟨T2, by simp only [zB, decide_true, decide_false, Bool.false_eq_true, if_false, if_true, List.getElem?_cons_zero, List.getElem?_cons_succ, beq_self_eq_true, bne_self_eq_false, Int.reduceBNe, Int.reduceBEq, Int.reduceLT, Int.reduceGT, Int.reduceLE, Int.reduceGE, Nat.reduceAdd, Nat.reduceMul, Nat.reduceLeDiff, sel, e3, e4, encU], h4, hF'.trans f4 (fun j hj => .inl hj)⟩
      · rw [if_neg hL]
        obtain ⟨T2, e3, h3, f3⟩ := u1_ok hB (k + 1) h2 i (by omega) (by omega)
        have hn := num_lt s (a + i + 1) i
        have hp : 2 ^ i ≤ 2 ^ 31 := Nat.pow_le_pow_right (by omega) (by omega)
        have hp0 : 0 < 2 ^ i := Nat.pow_pos (by omega)
        have w1 : IntKind.wrap .u64 (i : Int) = (i : Int) := wu _ (by omega)
        have w2 : shlI .u64 1 (i : Int) = ((2 ^ i : Nat) : Int) := by
          have := shl64 1 i (by omega) (by omega)
          rw [Nat.one_mul] at this
          exact this
        have w3 : IntKind.wrap .u64 (((2 ^ i : Nat) : Int) + ((num s (a + i + 1) i : Nat) : Int)) = ((2 ^ i + num s (a + i + 1) i : Nat) : Int) := by rw [wu _ (by omega)]; omega
        have w4 : IntKind.wrap .u64 (((2 ^ i + num s (a + i + 1) i : Nat) : Int) - 1) = ((2 ^ i + num s (a + i + 1) i - 1 : Nat) : Int) := by rw [wu _ (by omega)]; omega
        exact ⟨T2, by simp only [zB, decide_true, decide_false, Bool.false_eq_true, if_false, if_true, List.getElem?_cons_zero, List.getElem?_cons_succ, beq_self_eq_true, bne_self_eq_false, Int.reduceBNe, Int.reduceBEq, Int.reduceLT, Int.reduceGT, Int.reduceLE, Int.reduceGE, Nat.reduceAdd, Nat.reduceMul, Nat.reduceLeDiff, sel, e3, w1, aShl, w2, w3, w4, encU], h3, hF'.trans f3 (fun j hj => .inl hj)⟩
    · rw [if_neg hb, map_map'] at hl
      have hb0 : sb s (a + i) = 0 := by have := sb_lt s (a + i); omega
      have w1 : IntKind.wrap .i64 ((i : Int) + 1) = ((i + 1 : Nat) : Int) := by rw [wr _ (by omega)]; omega
      by_cases hm : m = 0
      · subst hm
        have hz : lead s 0 (a + i + 1) = .error 4 := rfl
        have hr : rUe s a = .error 4 := by unfold rUe; rw [hl, hz]; rfl
        have c1 : (((i + 1 : Nat) : Int) == 32) = true := by simp; omega
        obtain ⟨T2, e3, h3, f3⟩ := back_c hB (k + 2) h2 a hle 4
        refine .inl ⟨(1, [.int .u64 0, .int .i64 4], T2), by simp only [zB, decide_true, decide_false, Bool.false_eq_true, if_false, if_true, List.getElem?_cons_zero, List.getElem?_cons_succ, beq_self_eq_true, bne_self_eq_false, Int.reduceBNe, Int.reduceBEq, Int.reduceLT, Int.reduceGT, Int.reduceLE, Int.reduceGE, Nat.reduceAdd, Nat.reduceMul, Nat.reduceLeDiff, e2, hb0, w1, c1, Int.natCast_zero, e3], T2, ?_⟩
        rw [hr]
        exact ⟨by simp only [zB, decide_true, decide_false, Bool.false_eq_true, if_false, if_true, List.getElem?_cons_zero, List.getElem?_cons_succ, beq_self_eq_true, bne_self_eq_false, Int.reduceBNe, Int.reduceBEq, Int.reduceLT, Int.reduceGT, Int.reduceLE, Int.reduceGE, Nat.reduceAdd, Nat.reduceMul, Nat.reduceLeDiff, sel, encU], h3, hF'.trans f3 (fun j hj => .inl hj)⟩
      · have c1 : (((i + 1 : Nat) : Int) == 32) = false := by simp; omega
        refine .inr ⟨m, ([.ptr p 0, .int .i64 (a : Int), .int .i64 ((i + 1 : Nat) : Int)], T'), by omega, by simp only [zB, decide_true, decide_false, Bool.false_eq_true, if_false, if_true, List.getElem?_cons_zero, List.getElem?_cons_succ, beq_self_eq_true, bne_self_eq_false, Int.reduceBNe, Int.reduceBEq, Int.reduceLT, Int.reduceGT, Int.reduceLE, Int.reduceGE, Nat.reduceAdd, Nat.reduceMul, Nat.reduceLeDiff, e2, hb0, w1, c1, Int.natCast_zero], i + 1, T', by omega, by omega, rfl, h2, hF', hl⟩
theorem uk1r_c {n : Nat} (hn : n ≤ 8) : ∃ S', Cn B (k + 5) f_spindleref02_Uk 0 [.ptr p 0, .int .i64 (n : Int)] S = some (encU (rUk s n a), S') ∧ Rdr S' p s ((rUk s n a).pos a) ∧ Fr S S' [p] := by
  rw [c_spindleref02_Uk _ _ _ _ _ (hB.no _ _ _ _ (kn_no (by decide))), T_spindleref02_Uk]
  have hle := h.le
  have c1 : ¬ ((n : Int) < 0) := by omega
  have c2 : ¬ ((n : Int) > 8) := by omega
  obtain ⟨S1, e1, h1, f1⟩ := ue1_c hB k h
  unfold rUk
  cases hl : rUe s a with
  | error e =>
    rw [hl] at e1 h1
    have c3 : (e != 0) = true := by rcases rUe_err hl with rfl | rfl <;> rfl
    exact ⟨S1, by simp only [zB, decide_true, decide_false, Bool.false_eq_true, if_false, if_true, List.getElem?_cons_zero, List.getElem?_cons_succ, beq_self_eq_true, bne_self_eq_false, Int.reduceBNe, Int.reduceBEq, Int.reduceLT, Int.reduceGT, Int.reduceLE, Int.reduceGE, Nat.reduceAdd, Nat.reduceMul, Nat.reduceLeDiff, c1, c2, h.blk, e1, encU, c3], h1, f1⟩
  | ok x =>
    obtain ⟨v, b⟩ := x
    rw [hl] at e1 h1
    simp only [Rn.pos] at h1
    obtain ⟨l1, l2, l3⟩ := rUe_ok hl
    simp only
    by_cases hL : 8 * s.size < b + n
    · rw [if_pos hL]
      have e2 := u1_short hB (k + 2) h1 n (by omega) hL
      obtain ⟨S2, e3, h3, f3⟩ := back_c hB (k + 3) h1 a hle 5
      exact ⟨S2, by simp only [zB, decide_true, decide_false, Bool.false_eq_true, if_false, if_true, List.getElem?_cons_zero, List.getElem?_cons_succ, beq_self_eq_true, bne_self_eq_false, Int.reduceBNe, Int.reduceBEq, Int.reduceLT, Int.reduceGT, Int.reduceLE, Int.reduceGE, Nat.reduceAdd, Nat.reduceMul, Nat.reduceLeDiff, c1, c2, h.blk, e1, encU, e2, e3], h3, f1.trans f3 (fun j hj => .inl hj)⟩
    · rw [if_neg hL]
      obtain ⟨S2, e2, h2, f2⟩ := u1_ok hB (k + 2) h1 n (by omega) (by omega)
      have h5 : 2 ^ n ≤ 2 ^ 8 := Nat.pow_le_pow_right (by omega) hn
      have h6 : v * 2 ^ n ≤ 4294967295 * 256 := Nat.mul_le_mul (by omega) (by omega)
      have h7 := num_lt s b n
      have w1 : IntKind.wrap .u64 (n : Int) = (n : Int) := wu _ (by omega)
      have w2 := shl64 v n (by omega) (by omega)
      have w3 : IntKind.wrap .u64 (((v * 2 ^ n : Nat) : Int) + ((num s b n : Nat) : Int)) = ((v * 2 ^ n + num s b n : Nat) : Int) := by rw [wu _ (by omega)]; omega
      exact ⟨S2, by simp only [zB, decide_true, decide_false, Bool.false_eq_true, if_false, if_true, List.getElem?_cons_zero, List.getElem?_cons_succ, beq_self_eq_true, bne_self_eq_false, Int.reduceBNe, Int.reduceBEq, Int.reduceLT, Int.reduceGT, Int.reduceLE, Int.reduceGE, Nat.reduceAdd, Nat.reduceMul, Nat.reduceLeDiff, c1, c2, h.blk, e1, encU, e2, w1, aShl, w2, w3], h2, f1.trans f2 (fun j hj => .inl hj)⟩
theorem number_c {c : Nat} (hc : c < 5) : ∃ S', Cn B (k + 6) f_spindleref18_number 0 [.ptr p 0, .int .i64 (c : Int)] S = some (encU (numR s c a), S') ∧ Rdr S' p s ((numR s c a).pos a) ∧ Fr S S' [p] := by
  rw [c_spindleref18_number _ _ _ _ _ (hB.no _ _ _ _ (kn_no (by decide))), T_spindleref18_number]
  unfold numR
  by_cases h3 : c = 3
  · subst h3
    obtain ⟨S', e, h1, f1⟩ := u1_c hB (k + 3) h 6 (by omega)
    have c1 : (((3 : Nat) : Int) == 3) = true := rfl
    rw [if_pos rfl]
    rw [show (((6 : Nat)) : Int) = 6 from rfl] at e
    refine ⟨S', ?_, h1, f1⟩
    cases hr : rU s 6 a with
    | error e' => rw [hr] at e; simp only [zB, decide_true, decide_false, Bool.false_eq_true, if_false, if_true, List.getElem?_cons_zero, List.getElem?_cons_succ, beq_self_eq_true, bne_self_eq_false, Int.reduceBNe, Int.reduceBEq, Int.reduceLT, Int.reduceGT, Int.reduceLE, Int.reduceGE, Nat.reduceAdd, Nat.reduceMul, Nat.reduceLeDiff, c1, e, encU]
    | ok x => obtain ⟨v, b⟩ := x; rw [hr] at e; simp only [zB, decide_true, decide_false, Bool.false_eq_true, if_false, if_true, List.getElem?_cons_zero, List.getElem?_cons_succ, beq_self_eq_true, bne_self_eq_false, Int.reduceBNe, Int.reduceBEq, Int.reduceLT, Int.reduceGT, Int.reduceLE, Int.reduceGE, Nat.reduceAdd, Nat.reduceMul, Nat.reduceLeDiff, c1, e, encU]
  · have c1 : ((c : Int) == 3) = false := by simp; omega
    rw [if_neg h3]
    obtain ⟨S', e, h1, f1⟩ := uk1r_c hB k h (n := c % 4) (by omega)
    have w1 : Int.tmod (c : Int) 4 = ((c % 4 : Nat) : Int) := rfl
    refine ⟨S', ?_, h1, f1⟩
    cases hr : rUk s (c % 4) a with
    | error e' => rw [hr] at e; simp only [zB, decide_true, decide_false, Bool.false_eq_true, if_false, if_true, List.getElem?_cons_zero, List.getElem?_cons_succ, beq_self_eq_true, bne_self_eq_false, Int.reduceBNe, Int.reduceBEq, Int.reduceLT, Int.reduceGT, Int.reduceLE, Int.reduceGE, Nat.reduceAdd, Nat.reduceMul, Nat.reduceLeDiff, c1, w1, e, encU]
    | ok x => obtain ⟨v, b⟩ := x; rw [hr] at e; simp only [zB, decide_true, decide_false, Bool.false_eq_true, if_false, if_true, List.getElem?_cons_zero, List.getElem?_cons_succ, beq_self_eq_true, bne_self_eq_false, Int.reduceBNe, Int.reduceBEq, Int.reduceLT, Int.reduceGT, Int.reduceLE, Int.reduceGE, Nat.reduceAdd, Nat.reduceMul, Nat.reduceLeDiff, c1, w1, e, encU]
end
/-- The pairs, as a row. -/
def pairsA : AV := .is 62 (pairL.flatMap fun p => [.int .i64 (p.1 : Int), .int .i64 (p.2 : Int)])
theorem pairs_chk : chk f_spindleref18_pairs [] pairsA = true := by kernel_rfl
theorem pair1_all : ((List.range 62).all fun n => chk f_spindleref18_Pair [.int .i64 (n : Int)] (.tup [.int .i64 ((pairL.getD n (0, 0)).1 : Int), .int .i64 ((pairL.getD n (0, 0)).2 : Int), .int .i64 0])) = true := by kernel_rfl
theorem cut1_all : ((List.range 16).all fun n => chk f_spindleref18_cut [.int .i64 (n : Int)] (.tup [.int .i64 (cutB n : Int), .int .i64 (cutD n : Int)])) = true := by kernel_rfl
theorem sym1_all : ((List.range 17).all fun t => (List.range 4).all fun o => chk f_spindleref18_Symbol [.int .i64 (t : Int), .int .i64 (o : Int)] (.tup [.int .i64 (symR t o).1, .int .i64 (symR t o).2])) = true := by kernel_rfl
theorem kn_pair1 {n : Int} (h : ¬ (0 ≤ n ∧ n ≤ 61)) : kn f_spindleref18_Pair [.int .i64 n] = false := by
  have h1 : decide (f_spindleref18_Pair ∈ [f_vlc_cut, f_spindleref18_cut]) = false := by decide
  have h2 : (decide (0 ≤ n) && decide (n ≤ 61)) = false := by simp; omega
  simp only [kn, knA, h1, Bool.false_and, Bool.and_assoc, h2, Bool.and_false, Bool.or_self]
theorem kn_sym {t o : Int} (h : ¬ (0 ≤ t ∧ t ≤ 16 ∧ 0 ≤ o ∧ o ≤ 3)) : kn f_spindleref18_Symbol [.int .i64 t, .int .i64 o] = false := by
  have h2 : (decide (0 ≤ t) && (decide (t ≤ 16) && (decide (0 ≤ o) && decide (o ≤ 3)))) = false := by simp; omega
  simp only [kn, knA, Bool.and_assoc, h2, Bool.and_false]
theorem pairL_in : ∀ i : Fin 62, (pairL.getD i.val (0, 0)).1 ≤ 16 ∧ (pairL.getD i.val (0, 0)).2 ≤ 3 ∧ (pairsA = .is 62 (pairL.flatMap fun p => [.int .i64 (p.1 : Int), .int .i64 (p.2 : Int)])) := by
  intro i
  have : ∀ i : Fin 62, (pairL.getD i.val (0, 0)).1 ≤ 16 ∧ (pairL.getD i.val (0, 0)).2 ≤ 3 := by decide
  exact ⟨(this i).1, (this i).2, rfl⟩
theorem flat2_at : ∀ (l : List (Nat × Nat)) (i : Nat), i < l.length → List.take 2 (List.drop (i * 2) (l.flatMap fun p => [AV.int .i64 (p.1 : Int), AV.int .i64 (p.2 : Int)])) = [.int .i64 ((l.getD i (0, 0)).1 : Int), .int .i64 ((l.getD i (0, 0)).2 : Int)] ∧ i * 2 + 2 ≤ (l.flatMap fun p => [AV.int .i64 (p.1 : Int), AV.int .i64 (p.2 : Int)]).length
  | [], i, h => by simp at h
  | p :: l, 0, h => by simp
  | p :: l, i + 1, h => by
    obtain ⟨h1, h2⟩ := flat2_at l i (by simpa using h)
    rw [show (i + 1) * 2 = i * 2 + 1 + 1 by omega]
    simp only [List.flatMap_cons, List.cons_append, List.nil_append, List.drop_succ_cons, List.getD_cons_succ, List.length_cons]
    exact ⟨h1, by omega⟩
section
variable {B : CallF} (hB : Silent B) (k : Nat) {S : Heap}
include hB
theorem pairs_c : Cn B k f_spindleref18_pairs 0 [] S = some (pairsA, S) := chk_c hB pairs_chk _ _
theorem sized1_c (n : Int) : Cn B (k + 1) f_spindleref18_Sized 0 [.int .i64 n] S = some (.bool (sizedI n), S) := by
  rw [c_spindleref18_Sized _ _ _ _ (hB.no _ _ _ _ (kn_no (by decide))), T_spindleref18_Sized]
  cases h1 : (n == 4)
  · cases h2 : (n == 15)
    · simp only [zB, decide_true, decide_false, Bool.false_eq_true, if_false, if_true, List.getElem?_cons_zero, List.getElem?_cons_succ, beq_self_eq_true, bne_self_eq_false, Int.reduceBNe, Int.reduceBEq, Int.reduceLT, Int.reduceGT, Int.reduceLE, Int.reduceGE, Nat.reduceAdd, Nat.reduceMul, Nat.reduceLeDiff, h1, h2, sizedI, Bool.false_or]
    · simp only [zB, decide_true, decide_false, Bool.false_eq_true, if_false, if_true, List.getElem?_cons_zero, List.getElem?_cons_succ, beq_self_eq_true, bne_self_eq_false, Int.reduceBNe, Int.reduceBEq, Int.reduceLT, Int.reduceGT, Int.reduceLE, Int.reduceGE, Nat.reduceAdd, Nat.reduceMul, Nat.reduceLeDiff, h1, h2, sizedI, Bool.false_or, Bool.true_or]
  · simp only [zB, decide_true, decide_false, Bool.false_eq_true, if_false, if_true, List.getElem?_cons_zero, List.getElem?_cons_succ, beq_self_eq_true, bne_self_eq_false, Int.reduceBNe, Int.reduceBEq, Int.reduceLT, Int.reduceGT, Int.reduceLE, Int.reduceGE, Nat.reduceAdd, Nat.reduceMul, Nat.reduceLeDiff, h1, sizedI, Bool.true_or]
theorem cut1_c (m : Nat) (hm : m ≤ 15) : Cn B k f_spindleref18_cut 0 [.int .i64 (m : Int)] S = some (.tup [.int .i64 (cutB m : Int), .int .i64 (cutD m : Int)], S) :=
  chk_c hB (List.all_eq_true.1 cut1_all m (List.mem_range.2 (by omega))) _ _
theorem pair1_c (n : Int) : Cn B (k + 1) f_spindleref18_Pair 0 [.int .i64 n] S = some (.tup [.int .i64 (pairR n).1, .int .i64 (pairR n).2.1, .int .i64 (pairR n).2.2], S) := by
  unfold pairR
  have e1 := pairs_c hB k (S := S)
  have hl : aLen Try.prog 100 pairsA = some (.int .i64 62) := len_is100 62 _
  by_cases h1 : n < 0
  · rw [c_spindleref18_Pair _ _ _ _ (hB.no _ _ _ _ (kn_pair1 (by omega))), T_spindleref18_Pair, if_pos (.inl h1)]
    simp only [zB, decide_true, decide_false, Bool.false_eq_true, if_false, if_true, List.getElem?_cons_zero, List.getElem?_cons_succ, beq_self_eq_true, bne_self_eq_false, Int.reduceBNe, Int.reduceBEq, Int.reduceLT, Int.reduceGT, Int.reduceLE, Int.reduceGE, Nat.reduceAdd, Nat.reduceMul, Nat.reduceLeDiff, e1, h1]
  by_cases h2 : n ≥ 62
  · rw [c_spindleref18_Pair _ _ _ _ (hB.no _ _ _ _ (kn_pair1 (by omega))), T_spindleref18_Pair, if_pos (.inr h2)]
    simp only [zB, decide_true, decide_false, Bool.false_eq_true, if_false, if_true, List.getElem?_cons_zero, List.getElem?_cons_succ, beq_self_eq_true, bne_self_eq_false, Int.reduceBNe, Int.reduceBEq, Int.reduceLT, Int.reduceGT, Int.reduceLE, Int.reduceGE, Nat.reduceAdd, Nat.reduceMul, Nat.reduceLeDiff, e1, h1, hl, h2]
  rw [if_neg (by simp only [not_or]; exact ⟨h1, h2⟩)]
  obtain ⟨i, rfl⟩ := Int.eq_ofNat_of_zero_le (show 0 ≤ n by omega)
  exact chk_c hB (List.all_eq_true.1 pair1_all i (List.mem_range.2 (by omega))) _ _
theorem symbol1_c (t o : Int) : Cn B (k + 1) f_spindleref18_Symbol 0 [.int .i64 t, .int .i64 o] S = some (.tup [.int .i64 (symR t o).1, .int .i64 (symR t o).2], S) := by
  by_cases hin : 0 ≤ t ∧ t ≤ 16 ∧ 0 ≤ o ∧ o ≤ 3
  · obtain ⟨i, rfl⟩ := Int.eq_ofNat_of_zero_le hin.1
    obtain ⟨j, rfl⟩ := Int.eq_ofNat_of_zero_le hin.2.2.1
    exact chk_c hB (List.all_eq_true.1 (List.all_eq_true.1 sym1_all i (List.mem_range.2 (by omega))) j (List.mem_range.2 (by omega))) _ _
  rw [c_spindleref18_Symbol _ _ _ _ _ (hB.no _ _ _ _ (kn_sym hin)), T_spindleref18_Symbol]
  have e1 := pairs_c hB k (S := S)
  have hl : aLen Try.prog 100 pairsA = some (.int .i64 62) := len_is100 62 _
  have hs : symR t o = (0, 3) := by
    unfold symR m3
    rw [if_pos]
    split <;> omega
  rw [hs]
  simp only [zB, decide_true, decide_false, Bool.false_eq_true, if_false, if_true, List.getElem?_cons_zero, List.getElem?_cons_succ, beq_self_eq_true, bne_self_eq_false, Int.reduceBNe, Int.reduceBEq, Int.reduceLT, Int.reduceGT, Int.reduceLE, Int.reduceGE, Nat.reduceAdd, Nat.reduceMul, Nat.reduceLeDiff, e1]
  refine loop_meas (fun r => r = some (AV.tup [.int .i64 0, .int .i64 3], S)) (fun m st => ∃ i, i + m = 62 ∧ st = ([.int .i64 t, .int .i64 o, pairsA, .int .i64 (i : Int)], S)) 62 ⟨0, rfl, rfl⟩ ?_
  rintro m st ⟨i, him, rfl⟩
  cases m with
  | zero =>
    have c1 : ¬ ((i : Int) < 62) := by omega
    exact .inl ⟨(0, [], S), by simp only [zB, decide_true, decide_false, Bool.false_eq_true, if_false, if_true, List.getElem?_cons_zero, List.getElem?_cons_succ, beq_self_eq_true, bne_self_eq_false, Int.reduceBNe, Int.reduceBEq, Int.reduceLT, Int.reduceGT, Int.reduceLE, Int.reduceGE, Nat.reduceAdd, Nat.reduceMul, Nat.reduceLeDiff, hl, c1], by simp only [zB, decide_true, decide_false, Bool.false_eq_true, if_false, if_true, List.getElem?_cons_zero, List.getElem?_cons_succ, beq_self_eq_true, bne_self_eq_false, Int.reduceBNe, Int.reduceBEq, Int.reduceLT, Int.reduceGT, Int.reduceLE, Int.reduceGE, Nat.reduceAdd, Nat.reduceMul, Nat.reduceLeDiff, sel]⟩
  | succ m =>
    have c1 : (i : Int) < 62 := by omega
    have hi : i < 62 := by omega
    obtain ⟨l1, l2, _⟩ := pairL_in ⟨i, hi⟩
    simp only at l1 l2
    obtain ⟨t1, t2⟩ := flat2_at pairL i (by show i < 62; exact hi)
    have hix : aIdx 2 pairsA (i : Int) = some (.iptr ((pairL.flatMap fun p => [AV.int .i64 (p.1 : Int), AV.int .i64 (p.2 : Int)]).drop (i * 2))) := by simp [aIdx, pairsA, hi, c1]
    have hlen : 2 ≤ ((pairL.flatMap fun p => [AV.int .i64 (p.1 : Int), AV.int .i64 (p.2 : Int)]).drop (i * 2)).length := by rw [List.length_drop]; omega
    have hne : ([((pairL.getD i (0, 0)).1 : Int), ((pairL.getD i (0, 0)).2 : Int)] == [t, o]) = false := by
      cases hq : ([((pairL.getD i (0, 0)).1 : Int), ((pairL.getD i (0, 0)).2 : Int)] == [t, o]) with
      | false => rfl
      | true =>
        have := eq_of_beq hq
        simp only [List.cons.injEq, and_true] at this
        omega
    have w1 : IntKind.wrap .i64 ((i : Int) + 1) = ((i + 1 : Nat) : Int) := by rw [wr _ (by omega)]; omega
    exact .inr ⟨m, ([.int .i64 t, .int .i64 o, pairsA, .int .i64 ((i + 1 : Nat) : Int)], S), by omega, by simp only [zB, decide_true, decide_false, Bool.false_eq_true, if_false, if_true, List.getElem?_cons_zero, List.getElem?_cons_succ, beq_self_eq_true, bne_self_eq_false, Int.reduceBNe, Int.reduceBEq, Int.reduceLT, Int.reduceGT, Int.reduceLE, Int.reduceGE, Nat.reduceAdd, Nat.reduceMul, Nat.reduceLeDiff, hl, c1, hix, hlen, List.drop_zero, t1, eql_pair, hne, w1], i + 1, by omega, rfl⟩
omit hB in
theorem tok_same : ∀ v : Fin 62, (v.val ≥ bef 5 ↔ ¬ (pairL.getD v.val (0, 0)).1 ≤ 4) ∧ (v.val ≥ bef 16 ↔ ¬ (pairL.getD v.val (0, 0)).1 ≤ 15) ∧ (v.val ≥ bef 17 ↔ ¬ (pairL.getD v.val (0, 0)).1 ≤ 16) := by decide
theorem token1_c {p : Nat} {s : ByteArray} {a : Nat} (h : Rdr S p s a) (class' size : Int) :
    ∃ S', Cn B (k + 7) f_spindleref18_Token 0 [.ptr p 0, .int .i64 class', .int .i64 size] S = some (.tup [.int .i64 (tokR s a class' size).1, .int .i64 (tokR s a class' size).2.1, .int .i64 (tokR s a class' size).2.2.1], S') ∧ Rdr S' p s (tokR s a class' size).2.2.2 ∧ Fr S S' [p] := by
  rw [c_spindleref18_Token _ _ _ _ _ _ (hB.no _ _ _ _ (kn_no (by decide))), T_spindleref18_Token]
  unfold tokR
  by_cases g1 : class' < 0
  · rw [if_pos (.inl g1)]; exact ⟨S, by simp only [zB, decide_true, decide_false, Bool.false_eq_true, if_false, if_true, List.getElem?_cons_zero, List.getElem?_cons_succ, beq_self_eq_true, bne_self_eq_false, Int.reduceBNe, Int.reduceBEq, Int.reduceLT, Int.reduceGT, Int.reduceLE, Int.reduceGE, Nat.reduceAdd, Nat.reduceMul, Nat.reduceLeDiff, g1], h, Fr.refl _ _⟩
  by_cases g2 : class' > 4
  · rw [if_pos (.inr (.inl g2))]; exact ⟨S, by simp only [zB, decide_true, decide_false, Bool.false_eq_true, if_false, if_true, List.getElem?_cons_zero, List.getElem?_cons_succ, beq_self_eq_true, bne_self_eq_false, Int.reduceBNe, Int.reduceBEq, Int.reduceLT, Int.reduceGT, Int.reduceLE, Int.reduceGE, Nat.reduceAdd, Nat.reduceMul, Nat.reduceLeDiff, g1, g2], h, Fr.refl _ _⟩
  have e1 := sized1_c hB (k + 5) (S := S) size
  cases g3 : sizedI size with
  | false =>
    rw [if_pos (.inr (.inr rfl))]; rw [g3] at e1
    exact ⟨S, by simp only [zB, decide_true, decide_false, Bool.false_eq_true, if_false, if_true, List.getElem?_cons_zero, List.getElem?_cons_succ, beq_self_eq_true, bne_self_eq_false, Int.reduceBNe, Int.reduceBEq, Int.reduceLT, Int.reduceGT, Int.reduceLE, Int.reduceGE, Nat.reduceAdd, Nat.reduceMul, Nat.reduceLeDiff, g1, g2, e1], h, Fr.refl _ _⟩
  | true =>
    rw [if_neg (by simp only [not_or]; exact ⟨g1, g2, by simp⟩)]
    rw [g3] at e1
    obtain ⟨c, rfl⟩ := Int.eq_ofNat_of_zero_le (show 0 ≤ class' by omega)
    obtain ⟨S1, e2, h1, f1⟩ := number_c hB k h (c := c) (by omega)
    have hle := h.le
    simp only [Int.toNat_natCast]
    cases hr : numR s c a with
    | error e =>
      have c3 : (e != 0) = true := by rcases numR_err hr with rfl | rfl <;> rfl
      rw [hr] at e2 h1
      exact ⟨S1, by simp only [zB, decide_true, decide_false, Bool.false_eq_true, if_false, if_true, List.getElem?_cons_zero, List.getElem?_cons_succ, beq_self_eq_true, bne_self_eq_false, Int.reduceBNe, Int.reduceBEq, Int.reduceLT, Int.reduceGT, Int.reduceLE, Int.reduceGE, Nat.reduceAdd, Nat.reduceMul, Nat.reduceLeDiff, g1, g2, e1, h.blk, e2, encU, c3], h1, f1⟩
    | ok x =>
      obtain ⟨v, b⟩ := x
      rw [hr] at e2 h1
      simp only [Rn.pos] at h1
      obtain ⟨r1, r2, r3⟩ := numR_ok hr
      have hs := (sizedI_iff size).1 g3
      simp only
      have e3 := h1.put (a : Int)
      have f3 : Fr S (S1.set p (some [.str s, .int .i64 (a : Int)])) [p] := f1.set (.inl (by simp)) _
      by_cases g4 : v < 62
      · have c4 : (v : Int) < 62 := by omega
        have w1 : IntKind.wrap .i64 (v : Int) = (v : Int) := wr _ (by omega)
        have e4 := pair1_c hB (k + 5) (S := S1) (v : Int)
        have hp : pairR (v : Int) = (((pairL.getD v (0, 0)).1 : Int), ((pairL.getD v (0, 0)).2 : Int), 0) := by unfold pairR; rw [if_neg (by omega)]; rfl
        rw [hp] at e4 ⊢
        have hts := tok_same ⟨v, g4⟩
        simp only at hts e4 ⊢
        have hiff : v ≥ bef (size.toNat + 1) ↔ ¬ ((pairL.getD v (0, 0)).1 : Int) ≤ size := by
          rcases hs with rfl | rfl | rfl
          · exact hts.1.trans (by omega)
          · exact hts.2.1.trans (by omega)
          · exact hts.2.2.trans (by omega)
        by_cases g5 : v ≥ bef (size.toNat + 1)
        · rw [if_pos g5]
          have c5 := hiff.1 g5
          exact ⟨_, by simp only [zB, decide_true, decide_false, Bool.false_eq_true, if_false, if_true, List.getElem?_cons_zero, List.getElem?_cons_succ, beq_self_eq_true, bne_self_eq_false, Int.reduceBNe, Int.reduceBEq, Int.reduceLT, Int.reduceGT, Int.reduceLE, Int.reduceGE, Nat.reduceAdd, Nat.reduceMul, Nat.reduceLeDiff, g1, g2, e1, h.blk, e2, encU, c4, w1, e4, c5, e3] <;> rfl, h1.set hle, f3⟩
        · rw [if_neg g5]
          have c5 : ((pairL.getD v (0, 0)).1 : Int) ≤ size := by
            by_cases h : ((pairL.getD v (0, 0)).1 : Int) ≤ size
            · exact h
            · exact absurd (hiff.2 h) g5
          exact ⟨S1, by simp only [zB, decide_true, decide_false, Bool.false_eq_true, if_false, if_true, List.getElem?_cons_zero, List.getElem?_cons_succ, beq_self_eq_true, bne_self_eq_false, Int.reduceBNe, Int.reduceBEq, Int.reduceLT, Int.reduceGT, Int.reduceLE, Int.reduceGE, Nat.reduceAdd, Nat.reduceMul, Nat.reduceLeDiff, g1, g2, e1, h.blk, e2, encU, c4, w1, e4, c5], h1, f1⟩
      · have c4 : ¬ (v : Int) < 62 := by omega
        obtain ⟨b1, b2⟩ := bef_le size g3
        rw [if_pos (by omega)]
        exact ⟨_, by simp only [zB, decide_true, decide_false, Bool.false_eq_true, if_false, if_true, List.getElem?_cons_zero, List.getElem?_cons_succ, beq_self_eq_true, bne_self_eq_false, Int.reduceBNe, Int.reduceBEq, Int.reduceLT, Int.reduceGT, Int.reduceLE, Int.reduceGE, Nat.reduceAdd, Nat.reduceMul, Nat.reduceLeDiff, g1, g2, e1, h.blk, e2, encU, c4, e3] <;> rfl, h1.set hle, f3⟩
theorem zeros1_c {p : Nat} {s : ByteArray} {a : Nat} (h : Rdr S p s a) (size total : Int) :
    ∃ S', Cn B (k + 3) f_spindleref18_Zeros 0 [.ptr p 0, .int .i64 size, .int .i64 total] S = some (.tup [.int .i64 (zerR s a size total).1, .int .i64 (zerR s a size total).2.1], S') ∧ Rdr S' p s (zerR s a size total).2.2 ∧ Fr S S' [p] := by
  rw [c_spindleref18_Zeros _ _ _ _ _ _ (hB.no _ _ _ _ (kn_no (by decide))), T_spindleref18_Zeros]
  have e1 := sized1_c hB (k + 1) (S := S) size
  unfold zerR
  cases g1 : sizedI size with
  | false =>
    rw [if_pos (.inl rfl)]; rw [g1] at e1
    exact ⟨S, by simp only [zB, decide_true, decide_false, Bool.false_eq_true, if_false, if_true, List.getElem?_cons_zero, List.getElem?_cons_succ, beq_self_eq_true, bne_self_eq_false, Int.reduceBNe, Int.reduceBEq, Int.reduceLT, Int.reduceGT, Int.reduceLE, Int.reduceGE, Nat.reduceAdd, Nat.reduceMul, Nat.reduceLeDiff, e1], h, Fr.refl _ _⟩
  | true =>
    rw [g1] at e1
    by_cases g2 : total < 1
    · rw [if_pos (.inr (.inl g2))]; exact ⟨S, by simp only [zB, decide_true, decide_false, Bool.false_eq_true, if_false, if_true, List.getElem?_cons_zero, List.getElem?_cons_succ, beq_self_eq_true, bne_self_eq_false, Int.reduceBNe, Int.reduceBEq, Int.reduceLT, Int.reduceGT, Int.reduceLE, Int.reduceGE, Nat.reduceAdd, Nat.reduceMul, Nat.reduceLeDiff, e1, g2], h, Fr.refl _ _⟩
    by_cases g3 : total > size
    · rw [if_pos (.inr (.inr g3))]; exact ⟨S, by simp only [zB, decide_true, decide_false, Bool.false_eq_true, if_false, if_true, List.getElem?_cons_zero, List.getElem?_cons_succ, beq_self_eq_true, bne_self_eq_false, Int.reduceBNe, Int.reduceBEq, Int.reduceLT, Int.reduceGT, Int.reduceLE, Int.reduceGE, Nat.reduceAdd, Nat.reduceMul, Nat.reduceLeDiff, e1, g2, g3], h, Fr.refl _ _⟩
    rw [if_neg (by simp only [not_or]; exact ⟨by simp, g2, g3⟩)]
    have hs := (sizedI_iff size).1 g1
    have hle := h.le
    obtain ⟨m, hm⟩ : ∃ m, m = (size - total).toNat := ⟨_, rfl⟩
    rw [← hm]
    have hm15 : m ≤ 15 := by omega
    have w1 : IntKind.wrap .i64 (size - total) = (m : Int) := by rw [wr _ (by omega)]; omega
    have e2 := cut1_c hB (k + 2) (S := S) m hm15
    obtain ⟨f1, f2, f3, f4, f5, f6⟩ := cut_facts ⟨m, by omega⟩
    simp only at f1 f2 f3 f4 f5 f6
    by_cases g5 : 8 * s.size < a + cutB m
    · rw [if_pos g5]
      have e4 := u1_short hB k h (cutB m) (by omega) g5
      exact ⟨S, by simp only [zB, decide_true, decide_false, Bool.false_eq_true, if_false, if_true, List.getElem?_cons_zero, List.getElem?_cons_succ, beq_self_eq_true, bne_self_eq_false, Int.reduceBNe, Int.reduceBEq, Int.reduceLT, Int.reduceGT, Int.reduceLE, Int.reduceGE, Nat.reduceAdd, Nat.reduceMul, Nat.reduceLeDiff, e1, g2, g3, w1, e2, h.blk, e4], h, Fr.refl _ _⟩
    · rw [if_neg g5]
      obtain ⟨S2, e4, h2, r2⟩ := u1_ok hB k h (cutB m) (by omega) (by omega)
      have hlt := num_lt s a (cutB m)
      have hp16 : 2 ^ cutB m ≤ 2 ^ 4 := Nat.pow_le_pow_right (by omega) f3
      have w2 : IntKind.wrap .i64 ((num s a (cutB m) : Nat) : Int) = ((num s a (cutB m) : Nat) : Int) := wr _ (by omega)
      by_cases g6 : num s a (cutB m) < cutD m
      · rw [if_pos g6]
        have c2 : ((num s a (cutB m) : Nat) : Int) < ((cutD m : Nat) : Int) := by omega
        exact ⟨S2, by simp only [zB, decide_true, decide_false, Bool.false_eq_true, if_false, if_true, List.getElem?_cons_zero, List.getElem?_cons_succ, beq_self_eq_true, bne_self_eq_false, Int.reduceBNe, Int.reduceBEq, Int.reduceLT, Int.reduceGT, Int.reduceLE, Int.reduceGE, Nat.reduceAdd, Nat.reduceMul, Nat.reduceLeDiff, e1, g2, g3, w1, e2, h.blk, e4, w2, c2], h2, r2⟩
      · rw [if_neg g6]
        have c2 : ¬ ((num s a (cutB m) : Nat) : Int) < ((cutD m : Nat) : Int) := by omega
        by_cases g7 : 8 * s.size < a + cutB m + 1
        · rw [if_pos g7]
          have e5 := u1_short hB k h2 1 (by omega) (by omega)
          rw [show (((1 : Nat)) : Int) = 1 from rfl] at e5
          have e6 := h2.put (a : Int)
          exact ⟨_, by simp only [zB, decide_true, decide_false, Bool.false_eq_true, if_false, if_true, List.getElem?_cons_zero, List.getElem?_cons_succ, beq_self_eq_true, bne_self_eq_false, Int.reduceBNe, Int.reduceBEq, Int.reduceLT, Int.reduceGT, Int.reduceLE, Int.reduceGE, Nat.reduceAdd, Nat.reduceMul, Nat.reduceLeDiff, e1, g2, g3, w1, e2, h.blk, e4, w2, c2, e5, e6] <;> rfl, h2.set hle, r2.set (.inl (by simp)) _⟩
        · rw [if_neg g7]
          obtain ⟨S3, e5, h3, r3⟩ := u1_ok hB k h2 1 (by omega) (by omega)
          rw [show (((1 : Nat)) : Int) = 1 from rfl] at e5
          have hlt2 := num_lt s a (cutB m + 1)
          have hp32 : 2 ^ (cutB m + 1) ≤ 2 ^ 5 := Nat.pow_le_pow_right (by omega) (by omega)
          have hn1 : num s (a + cutB m) 1 = sb s (a + cutB m) := by simp [num]
          have hns : num s a (cutB m + 1) = 2 * num s a (cutB m) + sb s (a + cutB m) := rfl
          rw [hn1] at e5
          have w3 : IntKind.wrap .u64 (IntKind.wrap .u64 (2 * ((num s a (cutB m) : Nat) : Int)) + ((sb s (a + cutB m) : Nat) : Int)) = ((num s a (cutB m + 1) : Nat) : Int) := by
            rw [wu (2 * _) (by omega), wu _ (by omega), hns]; omega
          have w4 : IntKind.wrap .i64 ((num s a (cutB m + 1) : Nat) : Int) = ((num s a (cutB m + 1) : Nat) : Int) := wr _ (by omega)
          have w5 : IntKind.wrap .i64 (((num s a (cutB m + 1) : Nat) : Int) - ((cutD m : Nat) : Int)) = ((num s a (cutB m + 1) : Nat) : Int) - ((cutD m : Nat) : Int) := wr _ (by omega)
          exact ⟨S3, by simp only [zB, decide_true, decide_false, Bool.false_eq_true, if_false, if_true, List.getElem?_cons_zero, List.getElem?_cons_succ, beq_self_eq_true, bne_self_eq_false, Int.reduceBNe, Int.reduceBEq, Int.reduceLT, Int.reduceGT, Int.reduceLE, Int.reduceGE, Nat.reduceAdd, Nat.reduceMul, Nat.reduceLeDiff, e1, g2, g3, w1, e2, h.blk, e4, w2, c2, e5, w3, w4, w5], h3, r2.trans r3 (fun j hj => .inl hj)⟩
theorem run1_c {p : Nat} {s : ByteArray} {a : Nat} (h : Rdr S p s a) (left : Int) :
    ∃ S', Cn B (k + 4) f_spindleref18_Run 0 [.ptr p 0, .int .i64 left] S = some (.tup [.int .i64 (runR s a left).1, .int .i64 (runR s a left).2.1], S') ∧ Rdr S' p s (runR s a left).2.2 ∧ Fr S S' [p] := by
  rw [c_spindleref18_Run _ _ _ _ _ (hB.no _ _ _ _ (kn_no (by decide))), T_spindleref18_Run]
  unfold runR
  by_cases g1 : left < 0
  · rw [if_pos (.inl g1)]; exact ⟨S, by simp only [zB, decide_true, decide_false, Bool.false_eq_true, if_false, if_true, List.getElem?_cons_zero, List.getElem?_cons_succ, beq_self_eq_true, bne_self_eq_false, Int.reduceBNe, Int.reduceBEq, Int.reduceLT, Int.reduceGT, Int.reduceLE, Int.reduceGE, Nat.reduceAdd, Nat.reduceMul, Nat.reduceLeDiff, g1], h, Fr.refl _ _⟩
  by_cases g2 : left > 15
  · rw [if_pos (.inr g2)]; exact ⟨S, by simp only [zB, decide_true, decide_false, Bool.false_eq_true, if_false, if_true, List.getElem?_cons_zero, List.getElem?_cons_succ, beq_self_eq_true, bne_self_eq_false, Int.reduceBNe, Int.reduceBEq, Int.reduceLT, Int.reduceGT, Int.reduceLE, Int.reduceGE, Nat.reduceAdd, Nat.reduceMul, Nat.reduceLeDiff, g1, g2], h, Fr.refl _ _⟩
  rw [if_neg (by simp only [not_or]; exact ⟨g1, g2⟩)]
  obtain ⟨l, rfl⟩ := Int.eq_ofNat_of_zero_le (show 0 ≤ left by omega)
  simp only [Int.toNat_natCast]
  have hle := h.le
  simp only [zB, decide_true, decide_false, Bool.false_eq_true, if_false, if_true, List.getElem?_cons_zero, List.getElem?_cons_succ, beq_self_eq_true, bne_self_eq_false, Int.reduceBNe, Int.reduceBEq, Int.reduceLT, Int.reduceGT, Int.reduceLE, Int.reduceGE, Nat.reduceAdd, Nat.reduceMul, Nat.reduceLeDiff, g1, g2, h.blk]
  refine loop_meas (fun o => ∃ S', o = some (AV.tup [.int .i64 (match runN s l a with | none => ((0 : Int), (5 : Int), a) | some n => ((n : Int), 0, a + min (n + 1) l)).1, .int .i64 (match runN s l a with | none => ((0 : Int), (5 : Int), a) | some n => ((n : Int), 0, a + min (n + 1) l)).2.1], S') ∧
      Rdr S' p s (match runN s l a with | none => ((0 : Int), (5 : Int), a) | some n => ((n : Int), 0, a + min (n + 1) l)).2.2 ∧ Fr S S' [p])
    (fun m st => ∃ i T, i + m = l ∧ st = ([.ptr p 0, .int .i64 (l : Int), .int .i64 (a : Int), .int .i64 (i : Int)], T) ∧ Rdr T p s (a + i) ∧ Fr S T [p] ∧ runN s l a = (runN s m (a + i)).map (· + i)) l ⟨0, S, by omega, rfl, h, Fr.refl _ _, by cases runN s l (a + 0) <;> rfl⟩ ?_
  rintro m st ⟨i, T, hi, rfl, hT, hF, hl⟩
  cases m with
  | zero =>
    have hil : i = l := by omega
    have c1 : ¬ ((i : Int) < (l : Int)) := by omega
    have hr : runN s l a = some i := by rw [hl, runN_zero]; simp
    refine .inl ⟨(0, [.int .i64 (i : Int)], T), by simp only [zB, decide_true, decide_false, Bool.false_eq_true, if_false, if_true, List.getElem?_cons_zero, List.getElem?_cons_succ, beq_self_eq_true, bne_self_eq_false, Int.reduceBNe, Int.reduceBEq, Int.reduceLT, Int.reduceGT, Int.reduceLE, Int.reduceGE, Nat.reduceAdd, Nat.reduceMul, Nat.reduceLeDiff, c1], T, ?_⟩
    rw [hr]
    refine ⟨by simp only [zB, decide_true, decide_false, Bool.false_eq_true, if_false, if_true, List.getElem?_cons_zero, List.getElem?_cons_succ, beq_self_eq_true, bne_self_eq_false, Int.reduceBNe, Int.reduceBEq, Int.reduceLT, Int.reduceGT, Int.reduceLE, Int.reduceGE, Nat.reduceAdd, Nat.reduceMul, Nat.reduceLeDiff, sel], ?_, hF⟩
    show Rdr T p s (a + min (i + 1) l)
    rw [show min (i + 1) l = i by omega]; exact hT
  | succ m =>
    have c1 : (i : Int) < (l : Int) := by omega
    rw [runN_succ s m (a + i)] at hl
    have hle2 := hT.le
    by_cases hs : 8 * s.size ≤ a + i
    · rw [if_pos hs] at hl
      have e2 := bit1_short hB k hT (by omega)
      have hr : runN s l a = none := hl
      have e3 := hT.put (a : Int)
      refine .inl ⟨(1, [.int .i64 0, .int .i64 5], T.set p (some [.str s, .int .i64 (a : Int)])), by simp only [zB, decide_true, decide_false, Bool.false_eq_true, if_false, if_true, List.getElem?_cons_zero, List.getElem?_cons_succ, beq_self_eq_true, bne_self_eq_false, Int.reduceBNe, Int.reduceBEq, Int.reduceLT, Int.reduceGT, Int.reduceLE, Int.reduceGE, Nat.reduceAdd, Nat.reduceMul, Nat.reduceLeDiff, c1, e2, e3], T.set p (some [.str s, .int .i64 (a : Int)]), ?_⟩
      rw [hr]
      exact ⟨by simp only [zB, decide_true, decide_false, Bool.false_eq_true, if_false, if_true, List.getElem?_cons_zero, List.getElem?_cons_succ, beq_self_eq_true, bne_self_eq_false, Int.reduceBNe, Int.reduceBEq, Int.reduceLT, Int.reduceGT, Int.reduceLE, Int.reduceGE, Nat.reduceAdd, Nat.reduceMul, Nat.reduceLeDiff, sel], hT.set hle, hF.set (.inl (by simp)) _⟩
    · rw [if_neg hs] at hl
      obtain ⟨T', e2, h2, f2⟩ := bit1_ok hB k hT (by omega)
      have hF' := hF.trans f2 (fun j hj => .inl hj)
      by_cases hb : sb s (a + i) = 1
      · rw [if_pos hb] at hl
        have hr : runN s l a = some i := by rw [hl]; simp
        refine .inl ⟨(0, [.int .i64 (i : Int)], T'), by simp only [zB, decide_true, decide_false, Bool.false_eq_true, if_false, if_true, List.getElem?_cons_zero, List.getElem?_cons_succ, beq_self_eq_true, bne_self_eq_false, Int.reduceBNe, Int.reduceBEq, Int.reduceLT, Int.reduceGT, Int.reduceLE, Int.reduceGE, Nat.reduceAdd, Nat.reduceMul, Nat.reduceLeDiff, c1, e2, hb, Int.natCast_one], T', ?_⟩
        rw [hr]
        refine ⟨by simp only [zB, decide_true, decide_false, Bool.false_eq_true, if_false, if_true, List.getElem?_cons_zero, List.getElem?_cons_succ, beq_self_eq_true, bne_self_eq_false, Int.reduceBNe, Int.reduceBEq, Int.reduceLT, Int.reduceGT, Int.reduceLE, Int.reduceGE, Nat.reduceAdd, Nat.reduceMul, Nat.reduceLeDiff, sel], ?_, hF'⟩
        show Rdr T' p s (a + min (i + 1) l)
        rw [show min (i + 1) l = i + 1 by omega, ← Nat.add_assoc]; exact h2
      · rw [if_neg hb, omap_map] at hl
        have hb0 : sb s (a + i) = 0 := by have := sb_lt s (a + i); omega
        have w1 : IntKind.wrap .i64 ((i : Int) + 1) = ((i + 1 : Nat) : Int) := by rw [wr _ (by omega)]; omega
        exact .inr ⟨m, ([.ptr p 0, .int .i64 (l : Int), .int .i64 (a : Int), .int .i64 ((i + 1 : Nat) : Int)], T'), by omega, by simp only [zB, decide_true, decide_false, Bool.false_eq_true, if_false, if_true, List.getElem?_cons_zero, List.getElem?_cons_succ, beq_self_eq_true, bne_self_eq_false, Int.reduceBNe, Int.reduceBEq, Int.reduceLT, Int.reduceGT, Int.reduceLE, Int.reduceGE, Nat.reduceAdd, Nat.reduceMul, Nat.reduceLeDiff, c1, e2, hb0, w1, Int.natCast_zero], i + 1, T', by omega, rfl, h2, hF', hl⟩
end
structure RX (S : Heap) (p q : Nat) (l : List Nat) : Prop where
  blk : S.blk p = some [if l = [] then .nils else .hs q 0 l.length 1]
  row : l ≠ [] → S.blk q = some (u8s l) ∧ q < S.next ∧ q ≠ p
  non : l = [] → q = p
  lt : p < S.next
/-- A writer of the reference at p, with its characters at q. -/
def RWr (S : Heap) (p q : Nat) (bs : List Bool) : Prop := RX S p q (bs.map bitC)
theorem RWr.fr {S T : Heap} {p q : Nat} {bs : List Bool} {l : List Nat} (h : RWr S p q bs) (f : Fr S T l) (hp : p ∉ l) (hq : q ∉ l) : RWr T p q bs :=
  ⟨(f.get h.lt hp).trans h.blk, fun h0 => ⟨(f.get (h.row h0).2.1 hq).trans (h.row h0).1, Nat.lt_of_lt_of_le (h.row h0).2.1 f.1, (h.row h0).2.2⟩, h.non, Nat.lt_of_lt_of_le h.lt f.1⟩
def RPuts (S S' : Heap) (p q q' : Nat) (bs' : List Bool) : Prop := RWr S' p q' bs' ∧ Fr S S' [p, q] ∧ (q' = q ∨ S.next ≤ q')
theorem RPuts.trans {S T U : Heap} {p q q' q'' : Nat} {b c : List Bool} (h1 : RPuts S T p q q' b) (h2 : RPuts T U p q' q'' c) : RPuts S U p q q'' c := by
  refine ⟨h2.1, h1.2.1.trans h2.2.1 (fun j hj => ?_), ?_⟩
  · simp only [List.mem_cons, List.not_mem_nil, or_false] at hj ⊢
    rcases hj with rfl | rfl
    · exact .inl (.inl rfl)
    · rcases h1.2.2 with h | h
      · exact .inl (.inr h)
      · exact .inr h
  · have := h1.2.1.1
    rcases h2.2.2 with h | h
    · rw [h]; exact h1.2.2
    · exact .inr (by omega)
theorem RPuts.refl {S : Heap} {p q : Nat} {bs : List Bool} (h : RWr S p q bs) : RPuts S S p q q (bs ++ []) := ⟨by rw [List.append_nil]; exact h, Fr.refl _ _, .inl rfl⟩
noncomputable def Bk : CallF := fun f way args S => if kn f args = true ∧ way = 0 then locC (tabN (rows (ctlF 1000)) 60) f 0 args S else none
theorem mixed : Try.prog.follows .mixedOrders = true := by kernel_rfl
theorem noG : ∀ (i : Nat) (cs : List AV), (fun _ => none : Nat → Option (List AV)) i = some cs → noIdL cs = true := fun _ _ h => by cases h
theorem known_lt : ∀ f ∈ knownF, f < yldId := by
  have : (knownF.all fun f => decide (f < yldId)) = true := by decide
  exact fun f hf => of_decide_eq_true (List.all_eq_true.1 this f hf)
theorem Bk_ok : NOk Try.prog (fun _ => none) Bk := by
  have h0 := locC_ok noG (tabN_ok (rngC_ok (ctlF_ok 1000)) mixed (rows (ctlF 1000)) 60)
  refine ⟨fun f way args S r hlt h => ?_, fun f way args S h => ?_⟩
  · unfold Bk at h
    split at h
    · exact h0.ok _ _ _ _ _ hlt h
    · cases h
  · unfold Bk
    rw [if_neg]
    rintro ⟨hk, _⟩
    simp only [kn, Bool.and_eq_true, decide_eq_true_eq] at hk
    have := known_lt f hk.1
    omega
theorem Bk_silent : Silent Bk := ⟨fun f way args S h => by unfold Bk; rw [if_neg]; rw [h]; simp, fun f args S h => by unfold Bk; rw [if_pos ⟨h, rfl⟩]⟩
theorem Cn_ok (k : Nat) : NOk Try.prog (fun _ => none) (Cn Bk k) := callN_ok (rngC_ok ctlV_ok) mixed noG An Bk_ok k
theorem av3 {N F : Nat} {xs : List AV} (h : avOk Try.prog N (F + 1) 3 xs) : ∃ n : Int, xs = [.int .i64 n] ∧ -9223372036854775808 ≤ n ∧ n ≤ 9223372036854775807 := by
  unfold avOk at h
  rw [show Try.prog.underlying 3 = some (.int .i64) by kernel_rfl] at h
  simp only at h
  obtain ⟨n, h1, h2⟩ := h
  exact ⟨n, h1, by simpa [Lit.wf, IntKind.min, IntKind.max, IntKind.signed, IntKind.bits] using h2⟩
theorem av5 {N F : Nat} {xs : List AV} (h : avOk Try.prog N (F + 1) 5 xs) : ∃ n : Int, xs = [.int .u8 n] ∧ 0 ≤ n ∧ n ≤ 255 := by
  unfold avOk at h
  rw [show Try.prog.underlying 5 = some (.int .u8) by kernel_rfl] at h
  simp only at h
  obtain ⟨n, h1, h2⟩ := h
  exact ⟨n, h1, by simpa [Lit.wf, IntKind.min, IntKind.max, IntKind.signed, IntKind.bits] using h2⟩
theorem av9 {N F : Nat} {xs : List AV} (h : avOk Try.prog N (F + 1) 9 xs) : ∃ s, xs = [.str s] ∧ s.size ≤ N := by
  unfold avOk at h
  rw [show Try.prog.underlying 9 = some .string by kernel_rfl] at h
  exact h
theorem arg3 {a : AV} (h : argOk Try.prog maxLen 16 3 a) : ∃ n : Int, a = .int .i64 n ∧ -9223372036854775808 ≤ n ∧ n ≤ 9223372036854775807 := by
  unfold argOk at h
  rw [show Try.prog.underlying 3 = some (.int .i64) by kernel_rfl] at h
  obtain ⟨n, h1, h2⟩ := av3 h
  exact ⟨n, by simpa using h1, h2⟩
theorem arg5 {a : AV} (h : argOk Try.prog maxLen 16 5 a) : ∃ n : Int, a = .int .u8 n ∧ 0 ≤ n ∧ n ≤ 255 := by
  unfold argOk at h
  rw [show Try.prog.underlying 5 = some (.int .u8) by kernel_rfl] at h
  obtain ⟨n, h1, h2⟩ := av5 h
  exact ⟨n, by simpa using h1, h2⟩
theorem arg9 {a : AV} (h : argOk Try.prog maxLen 16 9 a) : ∃ s, a = .str s ∧ s.size ≤ maxLen := by
  unfold argOk at h
  rw [show Try.prog.underlying 9 = some .string by kernel_rfl] at h
  obtain ⟨s, h1, h2⟩ := av9 h
  exact ⟨s, by simpa using h1, h2⟩
/-- A call. -/
structure Cal where
  w : Int
  a : Int
  b : Int
  c : Int
  d : Int
def In64 (n : Int) : Prop := -9223372036854775808 ≤ n ∧ n ≤ 9223372036854775807
structure Cal.ok (x : Cal) : Prop where
  w : 0 ≤ x.w ∧ x.w ≤ 255
  a : In64 x.a
  b : In64 x.b
  c : In64 x.c
  d : In64 x.d
section
variable {B : CallF} (hB : Silent B) (k : Nat) {S : Heap}
include hB
theorem read_c (s : ByteArray) (hs : s.size ≤ 1099511627776) : ∃ S', Cn B (k + 1) f_bits_Read 0 [.str s] S = some (.ptr S.next 0, S') ∧ Rdr S' S.next s 0 ∧ Fr S S' [] ∧ S'.next = S.next + 1 := by
  rw [c_bits_Read _ _ _ _ (hB.no _ _ _ _ (kn_no (by decide))), T_bits_Read]
  exact ⟨S.alloc [.str s, .int .i64 0], by simp only [zB, decide_true, decide_false, Bool.false_eq_true, if_false, if_true, List.getElem?_cons_zero, List.getElem?_cons_succ, beq_self_eq_true, bne_self_eq_false, Int.reduceBNe, Int.reduceBEq, Int.reduceLT, Int.reduceGT, Int.reduceLE, Int.reduceGE, Nat.reduceAdd, Nat.reduceMul, Nat.reduceLeDiff], ⟨alloc_blk _ _, Nat.lt_succ_self _, hs, Nat.zero_le _⟩, Fr.alloc _ _ _, rfl⟩
theorem read1_c (s : ByteArray) (hs : s.size ≤ 1099511627776) : ∃ S', Cn B (k + 1) f_spindleref01_Read 0 [.str s] S = some (.ptr S.next 0, S') ∧ Rdr S' S.next s 0 ∧ Fr S S' [] ∧ S'.next = S.next + 1 := by
  rw [c_spindleref01_Read _ _ _ _ (hB.no _ _ _ _ (kn_no (by decide))), T_spindleref01_Read]
  exact ⟨S.alloc [.str s, .int .i64 0], by simp only [zB, decide_true, decide_false, Bool.false_eq_true, if_false, if_true, List.getElem?_cons_zero, List.getElem?_cons_succ, beq_self_eq_true, bne_self_eq_false, Int.reduceBNe, Int.reduceBEq, Int.reduceLT, Int.reduceGT, Int.reduceLE, Int.reduceGE, Nat.reduceAdd, Nat.reduceMul, Nat.reduceLeDiff], ⟨alloc_blk _ _, Nat.lt_succ_self _, hs, Nat.zero_le _⟩, Fr.alloc _ _ _, rfl⟩
end
def ints (l : List Int) : List AV := l.map fun x => .int .i64 x
theorem ints_len (l : List Int) : (ints l).length = l.length := by simp [ints]
theorem ints_app (l m : List Int) : ints (l ++ m) = ints l ++ ints m := by simp [ints]
def isl (l : List Int) : AV := if l = [] then .nils else .is l.length (ints l)
/-- A row of whole numbers: fixed, or in block d. -/
def IL (S : Heap) (a : AV) (l : List Int) (d : Nat) : Prop := (a = .nils ∧ l = []) ∨ a = .is l.length (ints l) ∨ (a = .hs d 0 l.length 1 ∧ S.blk d = some (ints l) ∧ d < S.next)
theorem IL.fr {S T : Heap} {a : AV} {l : List Int} {d : Nat} {ids : List Nat} (h : IL S a l d) (f : Fr S T ids) (hd : d ∉ ids) : IL T a l d := by
  rcases h with h | h | ⟨h1, h2, h3⟩
  · exact .inl h
  · exact .inr (.inl h)
  · exact .inr (.inr ⟨h1, (f.get h3 hd).trans h2, Nat.lt_of_lt_of_le h3 f.1⟩)
theorem IL.len {S : Heap} {a : AV} {l : List Int} {d : Nat} (h : IL S a l d) : aLen Try.prog 71 a = some (.int .i64 (l.length : Int)) := by
  rcases h with ⟨rfl, rfl⟩ | rfl | ⟨rfl, _⟩
  · exact len_nils71
  · exact len_is71 _ _
  · exact len_hs71 _ _ _ _
theorem IL.at {S : Heap} {a : AV} {l : List Int} {d : Nat} (h : IL S a l d) {i : Nat} (hi : i < l.length) : ∃ t cs o, aIdx 1 a (i : Int) = some t ∧ seeV t S = some (cs, o) ∧ cs[o]? = some (.int .i64 l[i]) := by
  rcases h with ⟨rfl, rfl⟩ | rfl | ⟨rfl, h2, _⟩
  · simp at hi
  · exact ⟨.iptr ((ints l).drop (i * 1)), _, 0, by simp [aIdx, hi], rfl, by simp [ints, hi]⟩
  · exact ⟨.ptr d (0 + i * 1), ints l, 0 + i * 1, by simp [aIdx, hi], by simp [seeV, h2], by simp [ints, hi]⟩
theorem isl_il (S : Heap) (l : List Int) (d : Nat) : IL S (isl l) l d := by
  unfold isl
  by_cases h : l = []
  · rw [if_pos h]; exact .inl ⟨rfl, h⟩
  · rw [if_neg h]; exact .inr (.inl rfl)
theorem isl_cell (l : List Int) : cell (isl l) = true := by unfold isl; split <;> rfl
def hv (L : List Int) (b : Nat) : AV := if L = [] then .nils else .hs b 0 L.length 1
def HR (T : Heap) (L : List Int) (b : Nat) : Prop := L ≠ [] → T.blk b = some (ints L) ∧ b < T.next
theorem hv_cell (L : List Int) (b : Nat) : cell (hv L b) = true := by unfold hv; split <;> rfl
theorem hv_len (L : List Int) (b : Nat) : aLen Try.prog 71 (hv L b) = some (.int .i64 (L.length : Int)) := by
  unfold hv
  by_cases h : L = []
  · subst h; exact len_nils71
  · rw [if_neg h]; exact len_hs71 _ _ _ _
theorem hv_il {T : Heap} {L : List Int} {b : Nat} (h : HR T L b) : IL T (hv L b) L b := by
  unfold hv
  by_cases h0 : L = []
  · rw [if_pos h0]; exact .inl ⟨rfl, h0⟩
  · rw [if_neg h0]; exact .inr (.inr ⟨rfl, h h0⟩)
theorem HR.fr {S T : Heap} {L : List Int} {b : Nat} {ids : List Nat} (h : HR S L b) (f : Fr S T ids) (hd : L ≠ [] → b ∉ ids) : HR T L b := fun h0 => ⟨(f.get (h h0).2 (hd h0)).trans (h h0).1, Nat.lt_of_lt_of_le (h h0).2 f.1⟩
theorem appI {T : Heap} {b : Nat} {L : List Int} (x : Int) (hrow : HR T L b) (hs : L.length ≤ 1000000000) :
    ∃ T', aAppend 1 8 (hv L b) (.is 1 [.int .i64 x]) T = some (hv (L ++ [x]) T.next, T') ∧ HR T' (L ++ [x]) T.next ∧ T'.next = T.next + 1 ∧ T'.cx = T.cx ∧
      ∀ j, j ≠ T.next → (j ≠ b ∨ L = []) → T'.blk j = T.blk j := by
  have r0 : rowOf 1 (.is 1 [.int .i64 x]) T = some (1, [.int .i64 x]) := rfl
  have r1 : (1 : Nat) * 8 ≤ mostRoom := room64 (by omega)
  have r2 : (1 : Nat) ≤ mostRoom := room64 (by omega)
  have hne : L ++ [x] ≠ [] := by simp
  unfold aAppend
  rw [r0]
  simp only
  unfold aAppendN
  rw [if_neg (by omega)]
  have hv1 : hv (L ++ [x]) T.next = .hs T.next 0 (L.length + 1) 1 := by unfold hv; rw [if_neg hne]; simp
  rw [hv1]
  by_cases h0 : L = []
  · subst h0
    simp only [hv, if_true, r1, r2, and_self, List.length_nil, Nat.zero_add]
    exact ⟨_, rfl, fun _ => ⟨alloc_blk _ _, Nat.lt_succ_self _⟩, rfl, rfl, fun j hj _ => alloc_other _ _ hj⟩
  · obtain ⟨hb, hq⟩ := hrow h0
    have r6 : (L.length + 1) * 8 ≤ mostRoom := room64 (by omega)
    have r7 : L.length + 1 ≤ mostRoom := room64 (by omega)
    have r8 : ([.int .i64 x] : List AV).all cell = true := rfl
    simp only [hv, if_neg h0, hb, ints_len, Nat.zero_add, Nat.mul_one, Nat.le_refl, r6, r7, r8, and_self, if_true, List.drop_zero]
    rw [List.take_of_length_le (by rw [ints_len]; exact Nat.le_refl _)]
    refine ⟨_, rfl, fun _ => ⟨by rw [ints_app]; exact alloc_blk (T.set b none) _, Nat.lt_succ_self _⟩, rfl, rfl, fun j hj hjq => ?_⟩
    rcases hjq with h | h
    · rw [alloc_other _ _ (by rw [set_next]; exact hj), set_other _ _ h]
    · exact absurd h h0
theorem fz_int (d : Nat) (k : IntKind) (x : Int) (S : Heap) : fz (d + 1) (.int k x) S = some (.int k x, S) := (rfl)
theorem fzM_c {f : AV → Heap → Option (AV × Heap)} {a a' : AV} {l l' : List AV} {S S' S'' : Heap} (h : f a S = some (a', S')) (h2 : fzM f l S' = some (l', S'')) : fzM f (a :: l) S = some (a' :: l', S'') := by
  simp only [fzM, h, h2]
theorem fz_hs {d b off n es : Nat} {cs cs' : List AV} {S S' : Heap} (h : S.blk b = some cs) (hl : off + n * es ≤ cs.length) (h2 : fzM (fz d) ((cs.drop off).take (n * es)) (S.set b none) = some (cs', S')) : fz (d + 1) (.hs b off n es) S = some (.is n cs', S') := by
  rw [fz]; simp only [h]; rw [if_pos hl]; simp only [h2]
theorem fz_tup {d : Nat} {cs cs' : List AV} {S S' : Heap} (h : fzM (fz d) cs S = some (cs', S')) : fz (d + 1) (.tup cs) S = some (.tup cs', S') := by
  rw [fz]; simp only [h]
theorem fzM_ints (d : Nat) : ∀ (L : List Int) (S : Heap), fzM (fz (d + 1)) (ints L) S = some (ints L, S)
  | [], S => rfl
  | x :: L, S => fzM_c (fz_int d _ x S) (fzM_ints d L S)
def kill (S : Heap) (L : List Int) (b : Nat) : Heap := if L = [] then S else S.set b none
theorem fz_hv (d : Nat) {S : Heap} {L : List Int} {b : Nat} (h : HR S L b) : fz (d + 2) (hv L b) S = some (isl L, kill S L b) := by
  unfold hv isl kill
  by_cases h0 : L = []
  · simp only [if_pos h0]; rfl
  · simp only [if_neg h0]
    refine fz_hs (h h0).1 (by rw [ints_len]; omega) ?_
    rw [List.drop_zero, List.take_of_length_le (by rw [ints_len]; omega)]
    exact fzM_ints d L _
theorem Fr.kill {S T : Heap} {l : List Nat} (h : Fr S T l) {L : List Int} {b : Nat} (hb : L ≠ [] → b ∈ l ∨ S.next ≤ b) : Fr S (kill T L b) l := by
  unfold Go.Ab.tV.kill
  split
  · exact h
  · rename_i h0; exact h.set (hb h0) _
def rngd (l : List Int) : Bool := l.all fun v => decide (-32768 ≤ v) && decide (v ≤ 32768)
theorem rngd_drop {l : List Int} {i : Nat} (hi : i < l.length) : rngd (l.drop i) = ((decide (-32768 ≤ l[i]) && decide (l[i] ≤ 32768)) && rngd (l.drop (i + 1))) := by
  rw [List.drop_eq_getElem_cons hi]; rfl
def onesG : Nat → List Int → Nat
  | 0, _ => 0
  | _, [] => 0
  | n + 1, v :: l => if v = 1 ∨ v = -1 then onesG n l + 1 else 0
def onesN (l : List Int) : Nat := onesG 3 l
theorem onesG_le : ∀ (n : Nat) (l : List Int), onesG n l ≤ n ∧ onesG n l ≤ l.length
  | 0, l => by simp [onesG]
  | n + 1, [] => by simp [onesG]
  | n + 1, v :: l => by
    have := onesG_le n l
    simp only [onesG, List.length_cons]
    split <;> omega
section
variable {B : CallF} (hB : Silent B) (k : Nat) {S : Heap} {a : AV} {l : List Int} {d : Nat}
include hB
theorem rsized_c (n : Int) : Cn B (k + 1) f_runs_sized 0 [.int .i64 n] S = some (.bool (sizedI n), S) := by
  rw [c_runs_sized _ _ _ _ (hB.no _ _ _ _ (kn_no (by decide))), T_runs_sized]
  unfold sizedI
  by_cases h1 : n = 4
  · subst h1; simp only [zB, decide_true, decide_false, Bool.false_eq_true, if_false, if_true, List.getElem?_cons_zero, List.getElem?_cons_succ, beq_self_eq_true, bne_self_eq_false, Int.reduceBNe, Int.reduceBEq, Int.reduceLT, Int.reduceGT, Int.reduceLE, Int.reduceGE, Nat.reduceAdd, Nat.reduceMul, Nat.reduceLeDiff, Bool.true_or]
  · have c1 : (n == 4) = false := by simp [h1]
    by_cases h2 : n = 15
    · subst h2; simp only [zB, decide_true, decide_false, Bool.false_eq_true, if_false, if_true, List.getElem?_cons_zero, List.getElem?_cons_succ, beq_self_eq_true, bne_self_eq_false, Int.reduceBNe, Int.reduceBEq, Int.reduceLT, Int.reduceGT, Int.reduceLE, Int.reduceGE, Nat.reduceAdd, Nat.reduceMul, Nat.reduceLeDiff, Bool.true_or, Bool.or_true, c1]
    · have c2 : (n == 15) = false := by simp [h2]
      simp only [zB, decide_true, decide_false, Bool.false_eq_true, if_false, if_true, List.getElem?_cons_zero, List.getElem?_cons_succ, beq_self_eq_true, bne_self_eq_false, Int.reduceBNe, Int.reduceBEq, Int.reduceLT, Int.reduceGT, Int.reduceLE, Int.reduceGE, Nat.reduceAdd, Nat.reduceMul, Nat.reduceLeDiff, c1, c2, Bool.false_or]
theorem vsized_c (n : Int) : Cn B (k + 1) f_vblock_sized 0 [.int .i64 n] S = some (.bool (sizedI n), S) := by
  rw [c_vblock_sized _ _ _ _ (hB.no _ _ _ _ (kn_no (by decide))), T_vblock_sized]
  unfold sizedI
  by_cases h1 : n = 4
  · subst h1; simp only [zB, decide_true, decide_false, Bool.false_eq_true, if_false, if_true, List.getElem?_cons_zero, List.getElem?_cons_succ, beq_self_eq_true, bne_self_eq_false, Int.reduceBNe, Int.reduceBEq, Int.reduceLT, Int.reduceGT, Int.reduceLE, Int.reduceGE, Nat.reduceAdd, Nat.reduceMul, Nat.reduceLeDiff, Bool.true_or]
  · have c1 : (n == 4) = false := by simp [h1]
    by_cases h2 : n = 15
    · subst h2; simp only [zB, decide_true, decide_false, Bool.false_eq_true, if_false, if_true, List.getElem?_cons_zero, List.getElem?_cons_succ, beq_self_eq_true, bne_self_eq_false, Int.reduceBNe, Int.reduceBEq, Int.reduceLT, Int.reduceGT, Int.reduceLE, Int.reduceGE, Nat.reduceAdd, Nat.reduceMul, Nat.reduceLeDiff, Bool.true_or, Bool.or_true, c1]
    · have c2 : (n == 15) = false := by simp [h2]
      simp only [zB, decide_true, decide_false, Bool.false_eq_true, if_false, if_true, List.getElem?_cons_zero, List.getElem?_cons_succ, beq_self_eq_true, bne_self_eq_false, Int.reduceBNe, Int.reduceBEq, Int.reduceLT, Int.reduceGT, Int.reduceLE, Int.reduceGE, Nat.reduceAdd, Nat.reduceMul, Nat.reduceLeDiff, c1, c2, Bool.false_or]
theorem rsized1_c (n : Int) : Cn B (k + 1) f_spindleref17_sized 0 [.int .i64 n] S = some (.bool (sizedI n), S) := by
  rw [c_spindleref17_sized _ _ _ _ (hB.no _ _ _ _ (kn_no (by decide))), T_spindleref17_sized]
  unfold sizedI
  by_cases h1 : n = 4
  · subst h1; simp only [zB, decide_true, decide_false, Bool.false_eq_true, if_false, if_true, List.getElem?_cons_zero, List.getElem?_cons_succ, beq_self_eq_true, bne_self_eq_false, Int.reduceBNe, Int.reduceBEq, Int.reduceLT, Int.reduceGT, Int.reduceLE, Int.reduceGE, Nat.reduceAdd, Nat.reduceMul, Nat.reduceLeDiff, Bool.true_or]
  · have c1 : (n == 4) = false := by simp [h1]
    by_cases h2 : n = 15
    · subst h2; simp only [zB, decide_true, decide_false, Bool.false_eq_true, if_false, if_true, List.getElem?_cons_zero, List.getElem?_cons_succ, beq_self_eq_true, bne_self_eq_false, Int.reduceBNe, Int.reduceBEq, Int.reduceLT, Int.reduceGT, Int.reduceLE, Int.reduceGE, Nat.reduceAdd, Nat.reduceMul, Nat.reduceLeDiff, Bool.true_or, Bool.or_true, c1]
    · have c2 : (n == 15) = false := by simp [h2]
      simp only [zB, decide_true, decide_false, Bool.false_eq_true, if_false, if_true, List.getElem?_cons_zero, List.getElem?_cons_succ, beq_self_eq_true, bne_self_eq_false, Int.reduceBNe, Int.reduceBEq, Int.reduceLT, Int.reduceGT, Int.reduceLE, Int.reduceGE, Nat.reduceAdd, Nat.reduceMul, Nat.reduceLeDiff, c1, c2, Bool.false_or]
theorem ranged_c (h : IL S a l d) (hl : l.length ≤ 1000000000) : Cn B (k + 1) f_runs_ranged 0 [a] S = some (.bool (rngd l), S) := by
  rw [c_runs_ranged _ _ _ _ (hB.no _ _ _ _ (kn_no (by decide))), T_runs_ranged]
  simp only [zB, decide_true, decide_false, Bool.false_eq_true, if_false, if_true, List.getElem?_cons_zero, List.getElem?_cons_succ, beq_self_eq_true, bne_self_eq_false, Int.reduceBNe, Int.reduceBEq, Int.reduceLT, Int.reduceGT, Int.reduceLE, Int.reduceGE, Nat.reduceAdd, Nat.reduceMul, Nat.reduceLeDiff, h.len]
  refine loop_meas (fun o => o = some (AV.bool (rngd l), S)) (fun m st => ∃ i : Nat, i + m = l.length ∧ st = ([a, .int .i64 (l.length : Int), .int .i64 (i : Int)], S) ∧ rngd (l.drop i) = rngd l) l.length ⟨0, by omega, rfl, rfl⟩ ?_
  rintro m st ⟨i, him, rfl, hr⟩
  cases m with
  | zero =>
    have c1 : ¬ ((i : Int) < (l.length : Int)) := by omega
    rw [List.drop_eq_nil_of_le (by omega)] at hr
    exact .inl ⟨(0, [], S), by simp only [zB, decide_true, decide_false, Bool.false_eq_true, if_false, if_true, List.getElem?_cons_zero, List.getElem?_cons_succ, beq_self_eq_true, bne_self_eq_false, Int.reduceBNe, Int.reduceBEq, Int.reduceLT, Int.reduceGT, Int.reduceLE, Int.reduceGE, Nat.reduceAdd, Nat.reduceMul, Nat.reduceLeDiff, c1], by rw [← hr]; simp only [zB, decide_true, decide_false, Bool.false_eq_true, if_false, if_true, List.getElem?_cons_zero, List.getElem?_cons_succ, beq_self_eq_true, bne_self_eq_false, Int.reduceBNe, Int.reduceBEq, Int.reduceLT, Int.reduceGT, Int.reduceLE, Int.reduceGE, Nat.reduceAdd, Nat.reduceMul, Nat.reduceLeDiff, sel]; rfl⟩
  | succ m =>
    have c1 : (i : Int) < (l.length : Int) := by omega
    have hi : i < l.length := by omega
    obtain ⟨t, cs, o, x1, x2, x3⟩ := h.at hi
    rw [rngd_drop hi] at hr
    by_cases c2 : l[i] < -32768
    · have : ¬ (-32768 ≤ l[i]) := by omega
      rw [decide_eq_false this, Bool.false_and, Bool.false_and] at hr
      exact .inl ⟨(1, [.bool false], S), by simp only [zB, decide_true, decide_false, Bool.false_eq_true, if_false, if_true, List.getElem?_cons_zero, List.getElem?_cons_succ, beq_self_eq_true, bne_self_eq_false, Int.reduceBNe, Int.reduceBEq, Int.reduceLT, Int.reduceGT, Int.reduceLE, Int.reduceGE, Nat.reduceAdd, Nat.reduceMul, Nat.reduceLeDiff, c1, x1, x2, x3, c2], by rw [← hr]; simp only [zB, decide_true, decide_false, Bool.false_eq_true, if_false, if_true, List.getElem?_cons_zero, List.getElem?_cons_succ, beq_self_eq_true, bne_self_eq_false, Int.reduceBNe, Int.reduceBEq, Int.reduceLT, Int.reduceGT, Int.reduceLE, Int.reduceGE, Nat.reduceAdd, Nat.reduceMul, Nat.reduceLeDiff, sel]⟩
    · by_cases c3 : l[i] > 32768
      · have : ¬ (l[i] ≤ 32768) := by omega
        rw [decide_eq_false this, Bool.and_false, Bool.false_and] at hr
        exact .inl ⟨(1, [.bool false], S), by simp only [zB, decide_true, decide_false, Bool.false_eq_true, if_false, if_true, List.getElem?_cons_zero, List.getElem?_cons_succ, beq_self_eq_true, bne_self_eq_false, Int.reduceBNe, Int.reduceBEq, Int.reduceLT, Int.reduceGT, Int.reduceLE, Int.reduceGE, Nat.reduceAdd, Nat.reduceMul, Nat.reduceLeDiff, c1, x1, x2, x3, c2, c3], by rw [← hr]; simp only [zB, decide_true, decide_false, Bool.false_eq_true, if_false, if_true, List.getElem?_cons_zero, List.getElem?_cons_succ, beq_self_eq_true, bne_self_eq_false, Int.reduceBNe, Int.reduceBEq, Int.reduceLT, Int.reduceGT, Int.reduceLE, Int.reduceGE, Nat.reduceAdd, Nat.reduceMul, Nat.reduceLeDiff, sel]⟩
      · have h1 : -32768 ≤ l[i] := by omega
        have h2 : l[i] ≤ 32768 := by omega
        rw [decide_eq_true h1, decide_eq_true h2, Bool.true_and, Bool.true_and] at hr
        have w1 : IntKind.wrap .i64 ((i : Int) + 1) = ((i + 1 : Nat) : Int) := by rw [wr _ (by omega)]; omega
        exact .inr ⟨m, ([a, .int .i64 (l.length : Int), .int .i64 ((i + 1 : Nat) : Int)], S), by omega, by simp only [zB, decide_true, decide_false, Bool.false_eq_true, if_false, if_true, List.getElem?_cons_zero, List.getElem?_cons_succ, beq_self_eq_true, bne_self_eq_false, Int.reduceBNe, Int.reduceBEq, Int.reduceLT, Int.reduceGT, Int.reduceLE, Int.reduceGE, Nat.reduceAdd, Nat.reduceMul, Nat.reduceLeDiff, c1, x1, x2, x3, c2, c3, w1], i + 1, by omega, rfl, hr⟩
theorem ranged1_c (h : IL S a l d) (hl : l.length ≤ 1000000000) : Cn B (k + 1) f_spindleref17_ranged 0 [a] S = some (.bool (rngd l), S) := by
  rw [c_spindleref17_ranged _ _ _ _ (hB.no _ _ _ _ (kn_no (by decide))), T_spindleref17_ranged]
  refine loop_meas (fun o => o = some (AV.bool (rngd l), S)) (fun m st => ∃ i : Nat, i + m = l.length ∧ st = ([a, .int .i64 (i : Int)], S) ∧ rngd (l.drop i) = rngd l) l.length ⟨0, by omega, rfl, rfl⟩ ?_
  rintro m st ⟨i, him, rfl, hr⟩
  cases m with
  | zero =>
    have c1 : ¬ ((i : Int) < (l.length : Int)) := by omega
    rw [List.drop_eq_nil_of_le (by omega)] at hr
    exact .inl ⟨(0, [], S), by simp only [zB, decide_true, decide_false, Bool.false_eq_true, if_false, if_true, List.getElem?_cons_zero, List.getElem?_cons_succ, beq_self_eq_true, bne_self_eq_false, Int.reduceBNe, Int.reduceBEq, Int.reduceLT, Int.reduceGT, Int.reduceLE, Int.reduceGE, Nat.reduceAdd, Nat.reduceMul, Nat.reduceLeDiff, c1, h.len], by rw [← hr]; simp only [zB, decide_true, decide_false, Bool.false_eq_true, if_false, if_true, List.getElem?_cons_zero, List.getElem?_cons_succ, beq_self_eq_true, bne_self_eq_false, Int.reduceBNe, Int.reduceBEq, Int.reduceLT, Int.reduceGT, Int.reduceLE, Int.reduceGE, Nat.reduceAdd, Nat.reduceMul, Nat.reduceLeDiff, sel]; rfl⟩
  | succ m =>
    have c1 : (i : Int) < (l.length : Int) := by omega
    have hi : i < l.length := by omega
    obtain ⟨t, cs, o, x1, x2, x3⟩ := h.at hi
    rw [rngd_drop hi] at hr
    by_cases c2 : l[i] < -32768
    · have : ¬ (-32768 ≤ l[i]) := by omega
      rw [decide_eq_false this, Bool.false_and, Bool.false_and] at hr
      exact .inl ⟨(1, [.bool false], S), by simp only [zB, decide_true, decide_false, Bool.false_eq_true, if_false, if_true, List.getElem?_cons_zero, List.getElem?_cons_succ, beq_self_eq_true, bne_self_eq_false, Int.reduceBNe, Int.reduceBEq, Int.reduceLT, Int.reduceGT, Int.reduceLE, Int.reduceGE, Nat.reduceAdd, Nat.reduceMul, Nat.reduceLeDiff, c1, h.len, x1, x2, x3, c2], by rw [← hr]; simp only [zB, decide_true, decide_false, Bool.false_eq_true, if_false, if_true, List.getElem?_cons_zero, List.getElem?_cons_succ, beq_self_eq_true, bne_self_eq_false, Int.reduceBNe, Int.reduceBEq, Int.reduceLT, Int.reduceGT, Int.reduceLE, Int.reduceGE, Nat.reduceAdd, Nat.reduceMul, Nat.reduceLeDiff, sel]⟩
    · by_cases c3 : l[i] > 32768
      · have : ¬ (l[i] ≤ 32768) := by omega
        rw [decide_eq_false this, Bool.and_false, Bool.false_and] at hr
        exact .inl ⟨(1, [.bool false], S), by simp only [zB, decide_true, decide_false, Bool.false_eq_true, if_false, if_true, List.getElem?_cons_zero, List.getElem?_cons_succ, beq_self_eq_true, bne_self_eq_false, Int.reduceBNe, Int.reduceBEq, Int.reduceLT, Int.reduceGT, Int.reduceLE, Int.reduceGE, Nat.reduceAdd, Nat.reduceMul, Nat.reduceLeDiff, c1, h.len, x1, x2, x3, c2, c3], by rw [← hr]; simp only [zB, decide_true, decide_false, Bool.false_eq_true, if_false, if_true, List.getElem?_cons_zero, List.getElem?_cons_succ, beq_self_eq_true, bne_self_eq_false, Int.reduceBNe, Int.reduceBEq, Int.reduceLT, Int.reduceGT, Int.reduceLE, Int.reduceGE, Nat.reduceAdd, Nat.reduceMul, Nat.reduceLeDiff, sel]⟩
      · have h1 : -32768 ≤ l[i] := by omega
        have h2 : l[i] ≤ 32768 := by omega
        rw [decide_eq_true h1, decide_eq_true h2, Bool.true_and, Bool.true_and] at hr
        have w1 : IntKind.wrap .i64 ((i : Int) + 1) = ((i + 1 : Nat) : Int) := by rw [wr _ (by omega)]; omega
        exact .inr ⟨m, ([a, .int .i64 ((i + 1 : Nat) : Int)], S), by omega, by simp only [zB, decide_true, decide_false, Bool.false_eq_true, if_false, if_true, List.getElem?_cons_zero, List.getElem?_cons_succ, beq_self_eq_true, bne_self_eq_false, Int.reduceBNe, Int.reduceBEq, Int.reduceLT, Int.reduceGT, Int.reduceLE, Int.reduceGE, Nat.reduceAdd, Nat.reduceMul, Nat.reduceLeDiff, c1, h.len, x1, x2, x3, c2, c3, w1], i + 1, by omega, rfl, hr⟩
end
/-- From the end: the levels, the zeros between them, the zeros since the last one. -/
def rst : List Int → List Int × List Nat × Nat
  | [] => ([], [], 0)
  | v :: l => if v = 0 then ((rst l).1, (rst l).2.1, (rst l).2.2 + 1) else if (rst l).1 = [] then ([v], [], 0) else ((rst l).1 ++ [v], (rst l).2.1 ++ [(rst l).2.2], 0)
def natI (l : List Nat) : List Int := l.map fun (x : Nat) => (x : Int)
theorem natI_len (l : List Nat) : (natI l).length = l.length := by simp [natI]
theorem natI_app (l m : List Nat) : natI (l ++ m) = natI l ++ natI m := by simp [natI]
def rZ (l : List Int) : Nat := if (rst l).1 = [] then 0 else (rst l).2.2 + (rst l).2.1.sum
theorem rst_sum : ∀ l : List Int, (rst l).1.length + (rst l).2.1.sum + (rst l).2.2 ≤ l.length ∧ (rst l).2.1.length = (rst l).1.length - 1
  | [] => by simp [rst]
  | v :: l => by
    obtain ⟨h1, h2⟩ := rst_sum l
    by_cases h0 : v = 0
    · simp only [rst, if_pos h0, List.length_cons]; omega
    · by_cases h3 : (rst l).1 = []
      · have e : rst (v :: l) = ([v], [], 0) := by simp only [rst, if_neg h0, if_pos h3]
        rw [e]; simp
      · have := List.length_pos_iff.2 h3
        simp only [rst, if_neg h0, if_neg h3, List.length_append, List.length_cons, List.length_nil, List.sum_append, List.sum_cons, List.sum_nil]
        omega
theorem sized_le {l : List Int} (h : sizedI (l.length : Int) = true) : l.length ≤ 16 ∧ 4 ≤ l.length := by
  rcases (sizedI_iff _).1 h with h | h | h <;> omega
theorem take3 (x y z : AV) : List.take 3 (List.drop 0 [x, y, z]) = [x, y, z] := rfl
theorem set3_0 (x y z a : AV) : setCells [x, y, z] 0 [a] = [a, y, z] := (rfl)
theorem set3_1 (x y z a : AV) : setCells [x, y, z] 1 [a] = [x, a, z] := (rfl)
theorem set3_2 (x y z a : AV) : setCells [x, y, z] 2 [a] = [x, y, a] := (rfl)
theorem natI_at {l : List Nat} {i : Nat} (hi : i < (natI l).length) : (natI l)[i] = ((l[i]'(by rw [natI_len] at hi; exact hi) : Nat) : Int) := by simp [natI]
theorem IL.cell {S : Heap} {a : AV} {l : List Int} {d : Nat} (h : IL S a l d) : cell a = true := by
  rcases h with ⟨rfl, _⟩ | rfl | ⟨rfl, _⟩ <;> rfl
def escN (k : Nat) : Nat := if k = 0 then 30 else 15 * 2 ^ k
def aftN (k sz : Nat) : Nat := if sz > 3 * 2 ^ (max k 1 - 1) ∧ max k 1 < 6 then max k 1 + 1 else max k 1
theorem esc_fin : ∀ k : Fin 7, escN k.val ≤ 960 ∧ 30 ≤ escN k.val ∧ 2 ^ k.val ≤ 64 ∧ (0 < k.val → escN k.val = 15 * 2 ^ k.val) := by decide
theorem esc_le {k : Nat} (h : k ≤ 6) : escN k ≤ 960 ∧ 30 ≤ escN k ∧ 2 ^ k ≤ 64 ∧ (0 < k → escN k = 15 * 2 ^ k) := esc_fin ⟨k, by omega⟩
theorem aft_le {k : Nat} (h : k ≤ 6) (sz : Nat) : aftN k sz ≤ 6 ∧ 1 ≤ aftN k sz := by unfold aftN; split <;> omega
theorem shl15 : ∀ k : Fin 7, shlI .i64 15 ((k.val : Nat) : Int) = ((15 * 2 ^ k.val : Nat) : Int) := by decide
theorem shl3 : ∀ k : Fin 7, shlI .i64 3 ((k.val : Nat) : Int) = ((3 * 2 ^ k.val : Nat) : Int) := by decide
theorem shlN (v k : Nat) (hk : k ≤ 64) (hv : v * 2 ^ k < 4611686018427387904) : shlI .i64 v k = ((v * 2 ^ k : Nat) : Int) := by
  have : min k 64 = k := by omega
  simp only [shlI, Int.toNat_natCast, IntKind.bits, this, pow2N, ← Int.natCast_mul]
  exact wr _ (by omega)
structure Cod (S : Heap) (c k left sk : Nat) : Prop where
  blk : S.blk c = some [.int .i64 (k : Int), .int .i64 (left : Int), .int .i64 (sk : Int)]
  lt : c < S.next
structure Cod1 (S : Heap) (c k left sk : Nat) : Prop where
  blk : S.blk c = some [.int .i64 (left : Int), .int .i64 (k : Int), .int .i64 (sk : Int)]
  lt : c < S.next
theorem Cod.fr {S T : Heap} {c k left sk : Nat} {ids : List Nat} (h : Cod S c k left sk) (f : Fr S T ids) (hc : c ∉ ids) : Cod T c k left sk := ⟨(f.get h.lt hc).trans h.blk, Nat.lt_of_lt_of_le h.lt f.1⟩
theorem Cod1.fr {S T : Heap} {c k left sk : Nat} {ids : List Nat} (h : Cod1 S c k left sk) (f : Fr S T ids) (hc : c ∉ ids) : Cod1 T c k left sk := ⟨(f.get h.lt hc).trans h.blk, Nat.lt_of_lt_of_le h.lt f.1⟩
def k0N (total ones : Nat) : Nat := if total > 10 ∧ ones < 3 then 1 else 0
def s0N (ones : Nat) : Nat := if ones < 3 then 2 else 0
section
variable {B : CallF} (hB : Silent B) (k : Nat) {S : Heap} {c K left sk : Nat}
include hB
theorem esc_c (hK : K ≤ 6) : Cn B (k + 1) f_level_length_escape 0 [.int .i64 (K : Int)] S = some (.int .i64 (escN K : Int), S) := by
  rw [c_level_length_escape _ _ _ _ (hB.no _ _ _ _ (kn_no (by decide))), T_level_length_escape]
  unfold escN
  by_cases h : K = 0
  · subst h; simp only [zB, decide_true, decide_false, Bool.false_eq_true, if_false, if_true, List.getElem?_cons_zero, List.getElem?_cons_succ, beq_self_eq_true, bne_self_eq_false, Int.reduceBNe, Int.reduceBEq, Int.reduceLT, Int.reduceGT, Int.reduceLE, Int.reduceGE, Nat.reduceAdd, Nat.reduceMul, Nat.reduceLeDiff, Int.natCast_zero]; rfl
  · have c1 : ((K : Int) == 0) = false := by simp [h]
    have := shl15 ⟨K, by omega⟩
    simp only at this
    rw [if_neg h]
    simp only [zB, decide_true, decide_false, Bool.false_eq_true, if_false, if_true, List.getElem?_cons_zero, List.getElem?_cons_succ, beq_self_eq_true, bne_self_eq_false, Int.reduceBNe, Int.reduceBEq, Int.reduceLT, Int.reduceGT, Int.reduceLE, Int.reduceGE, Nat.reduceAdd, Nat.reduceMul, Nat.reduceLeDiff, c1, aShl, this]
theorem after_c (h : Cod S c K left sk) (hK : K ≤ 6) (sz : Nat) (hsz : sz ≤ 1000000) : ∃ S', Cn B (k + 1) f_level_length_after 0 [.ptr c 0, .int .i64 (sz : Int)] S = some (.tup [], S') ∧ Cod S' c (aftN K sz) left sk ∧ Fr S S' [c] ∧ S'.next = S.next := by
  rw [c_level_length_after _ _ _ _ _ (hB.no _ _ _ _ (kn_no (by decide))), T_level_length_after]
  have w1 : (if (1 : Int) > (K : Int) then (1 : Int) else (K : Int)) = ((max K 1 : Nat) : Int) := by split <;> omega
  have e1 := put3_0 (x := .int .i64 ((max K 1 : Nat) : Int)) h.blk
  obtain ⟨S1, hS1⟩ : ∃ S1, S1 = S.set c (some [.int .i64 ((max K 1 : Nat) : Int), .int .i64 (left : Int), .int .i64 (sk : Int)]) := ⟨_, rfl⟩
  rw [← hS1] at e1
  have b1 : S1.blk c = some [.int .i64 ((max K 1 : Nat) : Int), .int .i64 (left : Int), .int .i64 (sk : Int)] := by rw [hS1, set_blk]
  have w2 : IntKind.wrap .i64 (((max K 1 : Nat) : Int) - 1) = ((max K 1 - 1 : Nat) : Int) := by rw [wr _ (by omega)]; omega
  have h3 := shl3 ⟨max K 1 - 1, by omega⟩
  simp only at h3
  have hF1 : Fr S S1 [c] := by rw [hS1]; exact (Fr.refl S [c]).set (.inl (by simp)) _
  have hn1 : S1.next = S.next := by rw [hS1]; rfl
  unfold aftN
  by_cases g1 : sz > 3 * 2 ^ (max K 1 - 1)
  · have c1 : (sz : Int) > ((3 * 2 ^ (max K 1 - 1) : Nat) : Int) := by omega
    by_cases g2 : max K 1 < 6
    · have c2 : ((max K 1 : Nat) : Int) < 6 := by omega
      have w3 : IntKind.wrap .i64 (((max K 1 : Nat) : Int) + 1) = ((max K 1 + 1 : Nat) : Int) := by rw [wr _ (by omega)]; omega
      have e2 := put3_0 (x := .int .i64 ((max K 1 + 1 : Nat) : Int)) b1
      rw [if_pos ⟨g1, g2⟩]
      exact ⟨_, by simp only [zB, decide_true, decide_false, Bool.false_eq_true, if_false, if_true, List.getElem?_cons_zero, List.getElem?_cons_succ, beq_self_eq_true, bne_self_eq_false, Int.reduceBNe, Int.reduceBEq, Int.reduceLT, Int.reduceGT, Int.reduceLE, Int.reduceGE, Nat.reduceAdd, Nat.reduceMul, Nat.reduceLeDiff, h.blk, w1, e1, b1, w2, aShl, h3, c1, c2, w3, e2], ⟨set_blk _ _ _, by rw [set_next, hn1]; exact h.lt⟩, hF1.set (.inl (by simp)) _, by rw [set_next, hn1]⟩
    · have c2 : ¬ ((max K 1 : Nat) : Int) < 6 := by omega
      rw [if_neg (fun hh => g2 hh.2)]
      exact ⟨S1, by simp only [zB, decide_true, decide_false, Bool.false_eq_true, if_false, if_true, List.getElem?_cons_zero, List.getElem?_cons_succ, beq_self_eq_true, bne_self_eq_false, Int.reduceBNe, Int.reduceBEq, Int.reduceLT, Int.reduceGT, Int.reduceLE, Int.reduceGE, Nat.reduceAdd, Nat.reduceMul, Nat.reduceLeDiff, h.blk, w1, e1, b1, w2, aShl, h3, c1, c2], ⟨b1, by rw [hn1]; exact h.lt⟩, hF1, hn1⟩
  · have c1 : ¬ (sz : Int) > ((3 * 2 ^ (max K 1 - 1) : Nat) : Int) := by omega
    rw [if_neg (fun hh => g1 hh.1)]
    exact ⟨S1, by simp only [zB, decide_true, decide_false, Bool.false_eq_true, if_false, if_true, List.getElem?_cons_zero, List.getElem?_cons_succ, beq_self_eq_true, bne_self_eq_false, Int.reduceBNe, Int.reduceBEq, Int.reduceLT, Int.reduceGT, Int.reduceLE, Int.reduceGE, Nat.reduceAdd, Nat.reduceMul, Nat.reduceLeDiff, h.blk, w1, e1, b1, w2, aShl, h3, c1], ⟨b1, by rw [hn1]; exact h.lt⟩, hF1, hn1⟩
omit hB in
theorem absI' (v : Int) (hv : v.natAbs ≤ 1000000) : (if (IntKind.wrap .i64 (0 - v) : Int) > v then IntKind.wrap .i64 (0 - v) else v) = ((v.natAbs : Nat) : Int) := by
  rw [wr _ (by omega)]; split <;> omega
theorem next_c (h : Cod S c K (left + 1) sk) (hK : K ≤ 6) (hl : left ≤ 1000) (v : Int) (hv : v.natAbs ≤ 1000000) : ∃ S', Cn B (k + 2) f_level_Coder_next 0 [.ptr c 0, .int .i64 v] S = some (.tup [], S') ∧ Cod S' c (aftN K v.natAbs) left 0 ∧ Fr S S' [c] ∧ S'.next = S.next := by
  rw [c_level_Coder_next _ _ _ _ _ (hB.no _ _ _ _ (kn_no (by decide))), T_level_Coder_next]
  have w1 : IntKind.wrap .i64 (((left + 1 : Nat) : Int) - 1) = (left : Int) := by rw [wr _ (by omega)]; omega
  have e1 := put3_1 (x := .int .i64 (left : Int)) h.blk
  obtain ⟨S1, hS1⟩ : ∃ S1, S1 = S.set c (some [.int .i64 (K : Int), .int .i64 (left : Int), .int .i64 (sk : Int)]) := ⟨_, rfl⟩
  rw [← hS1] at e1
  have b1 : S1.blk c = some [.int .i64 (K : Int), .int .i64 (left : Int), .int .i64 (sk : Int)] := by rw [hS1, set_blk]
  have e2 := put3_2 (x := .int .i64 0) b1
  obtain ⟨S2, hS2⟩ : ∃ S2, S2 = S1.set c (some [.int .i64 (K : Int), .int .i64 (left : Int), .int .i64 0]) := ⟨_, rfl⟩
  rw [← hS2] at e2
  have n2 : S2.next = S.next := by rw [hS2, hS1]; rfl
  have hC2 : Cod S2 c K left 0 := ⟨by rw [hS2, set_blk]; rfl, by rw [n2]; exact h.lt⟩
  obtain ⟨S3, e3, h3, f3, n3⟩ := after_c hB k hC2 hK v.natAbs hv
  have hF2 : Fr S S2 [c] := by rw [hS2, hS1]; exact ((Fr.refl S [c]).set (.inl (by simp)) _).set (.inl (by simp)) _
  exact ⟨S3, by simp only [zB, decide_true, decide_false, Bool.false_eq_true, if_false, if_true, List.getElem?_cons_zero, List.getElem?_cons_succ, beq_self_eq_true, bne_self_eq_false, Int.reduceBNe, Int.reduceBEq, Int.reduceLT, Int.reduceGT, Int.reduceLE, Int.reduceGE, Nat.reduceAdd, Nat.reduceMul, Nat.reduceLeDiff, h.blk, w1, e1, e2, absI' v hv, e3], h3, hF2.trans f3 (fun j hj => .inl hj), n3.trans n2⟩
theorem new_c {total ones : Nat} (ht : total ≤ 16) (ho : ones ≤ 3) (hto : ones ≤ total) : ∃ S', Cn B (k + 1) f_level_New 0 [.int .i64 (total : Int), .int .i64 (ones : Int)] S = some (.tup [.ptr S.next 0, .int .i64 0], S') ∧ Cod S' S.next (k0N total ones) (total - ones) (s0N ones) ∧ Fr S S' [] := by
  rw [c_level_New _ _ _ _ _ (hB.no _ _ _ _ (kn_no (by decide))), T_level_New]
  have c1 : ¬ (total : Int) < 0 := by omega
  have c2 : ¬ (total : Int) > 16 := by omega
  have c3 : ¬ (ones : Int) < 0 := by omega
  have c4 : ¬ (ones : Int) > (if (3 : Int) < (total : Int) then (3 : Int) else (total : Int)) := by split <;> omega
  have w1 : IntKind.wrap .i64 ((total : Int) - (ones : Int)) = ((total - ones : Nat) : Int) := by rw [wr _ (by omega)]; omega
  obtain ⟨S1, hS1⟩ : ∃ S1, S1 = S.alloc [.int .i64 0, .int .i64 ((total - ones : Nat) : Int), .int .i64 0] := ⟨_, rfl⟩
  have b1 : S1.blk S.next = some [.int .i64 0, .int .i64 ((total - ones : Nat) : Int), .int .i64 0] := by rw [hS1]; exact alloc_blk _ _
  have n1 : S1.next = S.next + 1 := by rw [hS1]; rfl
  have f1 : Fr S S1 [] := by rw [hS1]; exact Fr.alloc _ _ _
  have e1 := put3_2 (x := .int .i64 2) b1
  obtain ⟨S2, hS2⟩ : ∃ S2, S2 = S1.set S.next (some [.int .i64 0, .int .i64 ((total - ones : Nat) : Int), .int .i64 2]) := ⟨_, rfl⟩
  rw [← hS2] at e1
  have b2 : S2.blk S.next = some [.int .i64 0, .int .i64 ((total - ones : Nat) : Int), .int .i64 2] := by rw [hS2, set_blk]
  have n2 : S2.next = S.next + 1 := by rw [hS2]; exact n1
  have f2 : Fr S S2 [] := by rw [hS2]; exact f1.set (.inr (Nat.le_refl _)) _
  have e2 := put3_0 (x := .int .i64 1) b2
  simp only [zB, decide_true, decide_false, Bool.false_eq_true, if_false, if_true, List.getElem?_cons_zero, List.getElem?_cons_succ, beq_self_eq_true, bne_self_eq_false, Int.reduceBNe, Int.reduceBEq, Int.reduceLT, Int.reduceGT, Int.reduceLE, Int.reduceGE, Nat.reduceAdd, Nat.reduceMul, Nat.reduceLeDiff, c1, c2, c3, c4, w1, ← hS1]
  by_cases g1 : ones < 3
  · have d1 : (ones : Int) < 3 := by omega
    have hs0 : s0N ones = 2 := by unfold s0N; rw [if_pos g1]
    by_cases g2 : total > 10
    · have d2 : (total : Int) > 10 := by omega
      have hk0 : k0N total ones = 1 := by unfold k0N; rw [if_pos ⟨g2, g1⟩]
      rw [hk0, hs0]
      exact ⟨_, by simp only [zB, decide_true, decide_false, Bool.false_eq_true, if_false, if_true, List.getElem?_cons_zero, List.getElem?_cons_succ, beq_self_eq_true, bne_self_eq_false, Int.reduceBNe, Int.reduceBEq, Int.reduceLT, Int.reduceGT, Int.reduceLE, Int.reduceGE, Nat.reduceAdd, Nat.reduceMul, Nat.reduceLeDiff, d1, d2, e1, e2]; rfl, ⟨set_blk _ _ _, by rw [set_next, n2]; omega⟩, f2.set (.inr (Nat.le_refl _)) _⟩
    · have d2 : ¬ (total : Int) > 10 := by omega
      have hk0 : k0N total ones = 0 := by unfold k0N; rw [if_neg (fun hh => g2 hh.1)]
      rw [hk0, hs0]
      exact ⟨S2, by simp only [zB, decide_true, decide_false, Bool.false_eq_true, if_false, if_true, List.getElem?_cons_zero, List.getElem?_cons_succ, beq_self_eq_true, bne_self_eq_false, Int.reduceBNe, Int.reduceBEq, Int.reduceLT, Int.reduceGT, Int.reduceLE, Int.reduceGE, Nat.reduceAdd, Nat.reduceMul, Nat.reduceLeDiff, d1, d2, e1], ⟨b2, by omega⟩, f2⟩
  · have d1 : ¬ (ones : Int) < 3 := by omega
    have hs0 : s0N ones = 0 := by unfold s0N; rw [if_neg g1]
    have hk0 : k0N total ones = 0 := by unfold k0N; rw [if_neg (fun hh => g1 hh.2)]
    rw [hk0, hs0]
    exact ⟨S1, by simp only [zB, decide_true, decide_false, Bool.false_eq_true, if_false, if_true, List.getElem?_cons_zero, List.getElem?_cons_succ, beq_self_eq_true, bne_self_eq_false, Int.reduceBNe, Int.reduceBEq, Int.reduceLT, Int.reduceGT, Int.reduceLE, Int.reduceGE, Nat.reduceAdd, Nat.reduceMul, Nat.reduceLeDiff, d1], ⟨b1, by omega⟩, f1⟩
end
theorem sel_0' {β : Type} (f : List AV → Heap → Option β) (fs : List (List AV → Heap → Option β)) (v : List AV) (S : Heap) : sel (f :: fs) 0 v S = f v S := (rfl)
theorem put1_0' {T : Heap} {p : Nat} {x a : AV} (h : T.blk p = some [a]) : putV (.ptr p 0) [x] T = some (T.set p (some [x])) := by rw [putV_p h (by simp)]; rfl
/-- What stands for a prefix: the first number, and how many bits follow. -/
def baseN (k P : Nat) : Nat := if P = 15 then escN k else if k > 0 then P * 2 ^ k else P
def sufN (k P : Nat) : Nat := if P = 15 then 12 else if k > 0 then k else if P = 14 then 4 else 0
section
variable {B : CallF} (hB : Silent B) (k : Nat) {S : Heap} {c K left sk : Nat}
include hB
theorem read1_c' {pp cap P : Nat} (h : Cod S c K left sk) (hp : S.blk pp = some [.int .i64 (P : Int)]) (hc : S.blk cap = some [.ptr c 0]) (hK : K ≤ 6) (hP : P ≤ 15) :
    Cn B (k + 2) f_level_Coder_Read_1 0 [.ptr pp 0, .ptr cap 0] S = some (.tup [.int .i64 (baseN K P : Int), .int .i64 (sufN K P : Int)], S) := by
  rw [c_level_Coder_Read_1 _ _ _ _ _ (hB.no _ _ _ _ (kn_no (by decide))), T_level_Coder_Read_1]
  have e := esc_c hB k (S := S) hK
  unfold baseN sufN
  by_cases g1 : P = 15
  · have c1 : ((P : Int) == 15) = true := by simp; omega
    rw [if_pos g1, if_pos g1]
    simp only [zB, decide_true, decide_false, Bool.false_eq_true, if_false, if_true, List.getElem?_cons_zero, List.getElem?_cons_succ, beq_self_eq_true, bne_self_eq_false, Int.reduceBNe, Int.reduceBEq, Int.reduceLT, Int.reduceGT, Int.reduceLE, Int.reduceGE, Nat.reduceAdd, Nat.reduceMul, Nat.reduceLeDiff, hp, c1, hc, h.blk, e]; rfl
  · have c1 : ((P : Int) == 15) = false := by simp; omega
    rw [if_neg g1, if_neg g1]
    by_cases g2 : K > 0
    · have c2 : (K : Int) > 0 := by omega
      have := (esc_le hK).2.2.1
      have e2 := shlN P K (by omega) (by
        have h1 : P * 2 ^ K ≤ 15 * 64 := Nat.mul_le_mul hP this
        omega)
      rw [if_pos g2, if_pos g2]
      simp only [zB, decide_true, decide_false, Bool.false_eq_true, if_false, if_true, List.getElem?_cons_zero, List.getElem?_cons_succ, beq_self_eq_true, bne_self_eq_false, Int.reduceBNe, Int.reduceBEq, Int.reduceLT, Int.reduceGT, Int.reduceLE, Int.reduceGE, Nat.reduceAdd, Nat.reduceMul, Nat.reduceLeDiff, hp, c1, hc, h.blk, c2, aShl, e2]
    · have c2 : ¬ (K : Int) > 0 := by omega
      rw [if_neg g2, if_neg g2]
      by_cases g3 : P = 14
      · have c3 : ((P : Int) == 14) = true := by simp; omega
        rw [if_pos g3]
        simp only [zB, decide_true, decide_false, Bool.false_eq_true, if_false, if_true, List.getElem?_cons_zero, List.getElem?_cons_succ, beq_self_eq_true, bne_self_eq_false, Int.reduceBNe, Int.reduceBEq, Int.reduceLT, Int.reduceGT, Int.reduceLE, Int.reduceGE, Nat.reduceAdd, Nat.reduceMul, Nat.reduceLeDiff, hp, c1, hc, h.blk, c2, c3]; rfl
      · have c3 : ((P : Int) == 14) = false := by simp; omega
        rw [if_neg g3]
        simp only [zB, decide_true, decide_false, Bool.false_eq_true, if_false, if_true, List.getElem?_cons_zero, List.getElem?_cons_succ, beq_self_eq_true, bne_self_eq_false, Int.reduceBNe, Int.reduceBEq, Int.reduceLT, Int.reduceGT, Int.reduceLE, Int.reduceGE, Nat.reduceAdd, Nat.reduceMul, Nat.reduceLeDiff, hp, c1, hc, h.blk, c2, c3]; rfl
end
theorem tok_fin : ∀ t : Fin 17, ∀ o : Fin 4, o.val ≤ min t.val 3 → bef t.val + min t.val 3 - o.val < bef (t.val + 1) ∧ pairL.getD (bef t.val + min t.val 3 - o.val) (0, 0) = (t.val, o.val) ∧ bef t.val + min t.val 3 - o.val ≤ 61 ∧ o.val ≤ bef t.val + min t.val 3 := by decide
theorem bef_mono : ∀ i j : Fin 18, i.val ≤ j.val → bef i.val ≤ bef j.val := by decide
theorem m3_nat (t : Nat) : m3 (t : Int) = ((min t 3 : Nat) : Int) := by unfold m3; split <;> omega
/-- Of a pair that is in range, what its number is, and back. -/
theorem sym_ok {t o : Nat} (ht : t ≤ 16) (ho : o ≤ min t 3) : ∃ n : Nat, symR t o = ((n : Int), 0) ∧ n ≤ 61 ∧ pairR n = ((t : Int), (o : Int), 0) ∧ ∀ size : Nat, t ≤ size → size ≤ 16 → n < bef (size + 1) := by
  obtain ⟨h1, h2, h3, h4⟩ := tok_fin ⟨t, by omega⟩ ⟨o, by omega⟩ ho
  simp only at h1 h2 h3 h4
  refine ⟨bef t + min t 3 - o, ?_, h3, ?_, fun size hs1 hs2 => ?_⟩
  · unfold symR
    rw [m3_nat, if_neg (by omega)]
    simp only [Int.toNat_natCast, Prod.mk.injEq, and_true]
    omega
  · unfold pairR
    rw [if_neg (by omega)]
    simp only [Int.toNat_natCast, h2]
  · have := bef_mono ⟨t + 1, by omega⟩ ⟨size + 1, by omega⟩ (by simp; omega)
    simp only at this
    omega
theorem num_pre {s : ByteArray} {a b : Nat} : num s a (b + 1) = 2 * num s a b + sb s (a + b) := rfl
theorem wu6 {K : Nat} (h : K ≤ 100) : IntKind.wrap .u64 (K : Int) = (K : Int) := wu _ (by omega)
section
variable {B : CallF} (hB : Silent B) (k : Nat) {S : Heap} {c K left sk : Nat}
include hB
theorem after1_c (h : Cod1 S c K (left + 1) sk) (hK : K ≤ 6) (hl : left ≤ 1000) (v : Int) (hv : v.natAbs ≤ 1000000) : ∃ S', Cn B (k + 1) f_spindleref19_Coder_after 0 [.ptr c 0, .int .i64 v] S = some (.tup [], S') ∧ Cod1 S' c (aftN K v.natAbs) left 0 ∧ Fr S S' [c] ∧ S'.next = S.next := by
  rw [c_spindleref19_Coder_after _ _ _ _ _ (hB.no _ _ _ _ (kn_no (by decide))), T_spindleref19_Coder_after]
  have w1 : IntKind.wrap .i64 (((left + 1 : Nat) : Int) - 1) = (left : Int) := by rw [wr _ (by omega)]; omega
  have e1 := put3_0 (x := .int .i64 (left : Int)) h.blk
  obtain ⟨S1, hS1⟩ : ∃ S1, S1 = S.set c (some [.int .i64 (left : Int), .int .i64 (K : Int), .int .i64 (sk : Int)]) := ⟨_, rfl⟩
  rw [← hS1] at e1
  have b1 : S1.blk c = some [.int .i64 (left : Int), .int .i64 (K : Int), .int .i64 (sk : Int)] := by rw [hS1, set_blk]
  have e2 := put3_2 (x := .int .i64 0) b1
  obtain ⟨S2, hS2⟩ : ∃ S2, S2 = S1.set c (some [.int .i64 (left : Int), .int .i64 (K : Int), .int .i64 0]) := ⟨_, rfl⟩
  rw [← hS2] at e2
  have b2 : S2.blk c = some [.int .i64 (left : Int), .int .i64 (K : Int), .int .i64 0] := by rw [hS2, set_blk]
  have n2 : S2.next = S.next := by rw [hS2, hS1]; rfl
  have f2 : Fr S S2 [c] := by rw [hS2, hS1]; exact ((Fr.refl S [c]).set (.inl (by simp)) _).set (.inl (by simp)) _
  -- the length is at least 1
  obtain ⟨S3, hsel, b3, f3, n3⟩ : ∃ S3, (if ((K : Int) == 0) = true then bO (putV (.ptr c 1) [.int .i64 1] S2) fun t21 => some ([AV.ptr c 0, .int .i64 v], t21) else some ([AV.ptr c 0, .int .i64 v], S2)) = some ([AV.ptr c 0, .int .i64 v], S3) ∧ S3.blk c = some [.int .i64 (left : Int), .int .i64 ((max K 1 : Nat) : Int), .int .i64 0] ∧ Fr S S3 [c] ∧ S3.next = S.next := by
    by_cases h0 : K = 0
    · subst h0
      have e3 := put3_1 (x := .int .i64 1) b2
      have z : (((0 : Nat) : Int) == 0) = true := rfl
      exact ⟨S2.set c (some [.int .i64 (left : Int), .int .i64 1, .int .i64 0]), by simp only [zB, decide_true, decide_false, Bool.false_eq_true, if_false, if_true, List.getElem?_cons_zero, List.getElem?_cons_succ, beq_self_eq_true, bne_self_eq_false, Int.reduceBNe, Int.reduceBEq, Int.reduceLT, Int.reduceGT, Int.reduceLE, Int.reduceGE, Nat.reduceAdd, Nat.reduceMul, Nat.reduceLeDiff, z, e3], by rw [set_blk]; rfl, f2.set (.inl (by simp)) _, by rw [set_next, n2]⟩
    · have c1 : ((K : Int) == 0) = false := by simp [h0]
      have hm : max K 1 = K := by omega
      exact ⟨S2, by simp only [zB, decide_true, decide_false, Bool.false_eq_true, if_false, if_true, List.getElem?_cons_zero, List.getElem?_cons_succ, beq_self_eq_true, bne_self_eq_false, Int.reduceBNe, Int.reduceBEq, Int.reduceLT, Int.reduceGT, Int.reduceLE, Int.reduceGE, Nat.reduceAdd, Nat.reduceMul, Nat.reduceLeDiff, c1], by rw [hm]; exact b2, f2, n2⟩
  have w2 : IntKind.wrap .i64 (((max K 1 : Nat) : Int) - 1) = ((max K 1 - 1 : Nat) : Int) := by rw [wr _ (by omega)]; omega
  have w3 : IntKind.wrap .u64 ((max K 1 - 1 : Nat) : Int) = ((max K 1 - 1 : Nat) : Int) := wu6 (by omega)
  have h3 := shl3 ⟨max K 1 - 1, by omega⟩
  simp only at h3
  have ha := absI' v hv
  unfold aftN
  by_cases g1 : v.natAbs > 3 * 2 ^ (max K 1 - 1)
  · have c1 : ((v.natAbs : Nat) : Int) > ((3 * 2 ^ (max K 1 - 1) : Nat) : Int) := by omega
    by_cases g2 : max K 1 < 6
    · have c2 : ((max K 1 : Nat) : Int) < 6 := by omega
      have w4 : IntKind.wrap .i64 (((max K 1 : Nat) : Int) + 1) = ((max K 1 + 1 : Nat) : Int) := by rw [wr _ (by omega)]; omega
      have e4 := put3_1 (x := .int .i64 ((max K 1 + 1 : Nat) : Int)) b3
      rw [if_pos ⟨g1, g2⟩]
      refine ⟨_, ?_, ⟨set_blk S3 c _, by rw [set_next, n3]; exact h.lt⟩, f3.set (.inl (by simp)) _, by rw [set_next, n3]⟩
      simp only [zB, decide_true, decide_false, Bool.false_eq_true, if_false, if_true, List.getElem?_cons_zero, List.getElem?_cons_succ, beq_self_eq_true, bne_self_eq_false, Int.reduceBNe, Int.reduceBEq, Int.reduceLT, Int.reduceGT, Int.reduceLE, Int.reduceGE, Nat.reduceAdd, Nat.reduceMul, Nat.reduceLeDiff, h.blk, w1, e1, e2, b2]
      rw [hsel]
      simp only [zB, decide_true, decide_false, Bool.false_eq_true, if_false, if_true, List.getElem?_cons_zero, List.getElem?_cons_succ, beq_self_eq_true, bne_self_eq_false, Int.reduceBNe, Int.reduceBEq, Int.reduceLT, Int.reduceGT, Int.reduceLE, Int.reduceGE, Nat.reduceAdd, Nat.reduceMul, Nat.reduceLeDiff, b3, w2, w3, aShl, h3, ha, c1, c2, w4, e4]; rfl
    · have c2 : ¬ ((max K 1 : Nat) : Int) < 6 := by omega
      rw [if_neg (fun hh => g2 hh.2)]
      refine ⟨S3, ?_, ⟨b3, by rw [n3]; exact h.lt⟩, f3, n3⟩
      simp only [zB, decide_true, decide_false, Bool.false_eq_true, if_false, if_true, List.getElem?_cons_zero, List.getElem?_cons_succ, beq_self_eq_true, bne_self_eq_false, Int.reduceBNe, Int.reduceBEq, Int.reduceLT, Int.reduceGT, Int.reduceLE, Int.reduceGE, Nat.reduceAdd, Nat.reduceMul, Nat.reduceLeDiff, h.blk, w1, e1, e2, b2]
      rw [hsel]
      simp only [zB, decide_true, decide_false, Bool.false_eq_true, if_false, if_true, List.getElem?_cons_zero, List.getElem?_cons_succ, beq_self_eq_true, bne_self_eq_false, Int.reduceBNe, Int.reduceBEq, Int.reduceLT, Int.reduceGT, Int.reduceLE, Int.reduceGE, Nat.reduceAdd, Nat.reduceMul, Nat.reduceLeDiff, b3, w2, w3, aShl, h3, ha, c1, c2]
  · have c1 : ¬ ((v.natAbs : Nat) : Int) > ((3 * 2 ^ (max K 1 - 1) : Nat) : Int) := by omega
    rw [if_neg (fun hh => g1 hh.1)]
    refine ⟨S3, ?_, ⟨b3, by rw [n3]; exact h.lt⟩, f3, n3⟩
    simp only [zB, decide_true, decide_false, Bool.false_eq_true, if_false, if_true, List.getElem?_cons_zero, List.getElem?_cons_succ, beq_self_eq_true, bne_self_eq_false, Int.reduceBNe, Int.reduceBEq, Int.reduceLT, Int.reduceGT, Int.reduceLE, Int.reduceGE, Nat.reduceAdd, Nat.reduceMul, Nat.reduceLeDiff, h.blk, w1, e1, e2, b2]
    rw [hsel]
    simp only [zB, decide_true, decide_false, Bool.false_eq_true, if_false, if_true, List.getElem?_cons_zero, List.getElem?_cons_succ, beq_self_eq_true, bne_self_eq_false, Int.reduceBNe, Int.reduceBEq, Int.reduceLT, Int.reduceGT, Int.reduceLE, Int.reduceGE, Nat.reduceAdd, Nat.reduceMul, Nat.reduceLeDiff, b3, w2, w3, aShl, h3, ha, c1]
theorem new1_c {total ones : Nat} (ht : total ≤ 16) (ho : ones ≤ min total 3) : ∃ S', Cn B (k + 2) f_spindleref19_New 0 [.int .i64 (total : Int), .int .i64 (ones : Int)] S = some (.tup [.ptr S.next 0, .int .i64 0], S') ∧ Cod1 S' S.next (k0N total ones) (total - ones) (s0N ones) ∧ Fr S S' [] := by
  rw [c_spindleref19_New _ _ _ _ _ (hB.no _ _ _ _ (kn_no (by decide))), T_spindleref19_New]
  obtain ⟨n, hn, _⟩ := sym_ok ht ho
  have e0 := symbol1_c hB k (S := S) total ones
  rw [hn] at e0
  have w1 : IntKind.wrap .i64 ((total : Int) - (ones : Int)) = ((total - ones : Nat) : Int) := by rw [wr _ (by omega)]; omega
  obtain ⟨S1, hS1⟩ : ∃ S1, S1 = S.alloc [.int .i64 ((total - ones : Nat) : Int), .int .i64 0, .int .i64 0] := ⟨_, rfl⟩
  have b1 : S1.blk S.next = some [.int .i64 ((total - ones : Nat) : Int), .int .i64 0, .int .i64 0] := by rw [hS1]; exact alloc_blk _ _
  have n1 : S1.next = S.next + 1 := by rw [hS1]; rfl
  have f1 : Fr S S1 [] := by rw [hS1]; exact Fr.alloc _ _ _
  have e1 := put3_1 (x := .int .i64 1) b1
  obtain ⟨S2, hS2⟩ : ∃ S2, S2 = S1.set S.next (some [.int .i64 ((total - ones : Nat) : Int), .int .i64 1, .int .i64 0]) := ⟨_, rfl⟩
  rw [← hS2] at e1
  have b2 : S2.blk S.next = some [.int .i64 ((total - ones : Nat) : Int), .int .i64 1, .int .i64 0] := by rw [hS2, set_blk]
  have n2 : S2.next = S.next + 1 := by rw [hS2]; exact n1
  have f2 : Fr S S2 [] := by rw [hS2]; exact f1.set (.inr (Nat.le_refl _)) _
  have e2 := put3_2 (x := .int .i64 2) b2
  have e3 := put3_2 (x := .int .i64 2) b1
  simp only [zB, decide_true, decide_false, Bool.false_eq_true, if_false, if_true, List.getElem?_cons_zero, List.getElem?_cons_succ, beq_self_eq_true, bne_self_eq_false, Int.reduceBNe, Int.reduceBEq, Int.reduceLT, Int.reduceGT, Int.reduceLE, Int.reduceGE, Nat.reduceAdd, Nat.reduceMul, Nat.reduceLeDiff, e0, w1, ← hS1]
  by_cases g1 : ones < 3
  · have d1 : (ones : Int) < 3 := by omega
    have hs0 : s0N ones = 2 := by unfold s0N; rw [if_pos g1]
    by_cases g2 : total > 10
    · have d2 : (total : Int) > 10 := by omega
      have hk0 : k0N total ones = 1 := by unfold k0N; rw [if_pos ⟨g2, g1⟩]
      rw [hk0, hs0]
      exact ⟨_, by simp only [zB, decide_true, decide_false, Bool.false_eq_true, if_false, if_true, List.getElem?_cons_zero, List.getElem?_cons_succ, beq_self_eq_true, bne_self_eq_false, Int.reduceBNe, Int.reduceBEq, Int.reduceLT, Int.reduceGT, Int.reduceLE, Int.reduceGE, Nat.reduceAdd, Nat.reduceMul, Nat.reduceLeDiff, d1, d2, e1, e2]; rfl, ⟨set_blk _ _ _, by rw [set_next, n2]; omega⟩, f2.set (.inr (Nat.le_refl _)) _⟩
    · have d2 : ¬ (total : Int) > 10 := by omega
      have hk0 : k0N total ones = 0 := by unfold k0N; rw [if_neg (fun hh => g2 hh.1)]
      rw [hk0, hs0]
      exact ⟨_, by simp only [zB, decide_true, decide_false, Bool.false_eq_true, if_false, if_true, List.getElem?_cons_zero, List.getElem?_cons_succ, beq_self_eq_true, bne_self_eq_false, Int.reduceBNe, Int.reduceBEq, Int.reduceLT, Int.reduceGT, Int.reduceLE, Int.reduceGE, Nat.reduceAdd, Nat.reduceMul, Nat.reduceLeDiff, d1, d2, e3]; rfl, ⟨set_blk _ _ _, by rw [set_next, n1]; omega⟩, f1.set (.inr (Nat.le_refl _)) _⟩
  · have d1 : ¬ (ones : Int) < 3 := by omega
    have hs0 : s0N ones = 0 := by unfold s0N; rw [if_neg g1]
    have hk0 : k0N total ones = 0 := by unfold k0N; rw [if_neg (fun hh => g1 hh.2)]
    rw [hk0, hs0]
    by_cases g2 : total > 10
    · have d2 : (total : Int) > 10 := by omega
      exact ⟨S1, by simp only [zB, decide_true, decide_false, Bool.false_eq_true, if_false, if_true, List.getElem?_cons_zero, List.getElem?_cons_succ, beq_self_eq_true, bne_self_eq_false, Int.reduceBNe, Int.reduceBEq, Int.reduceLT, Int.reduceGT, Int.reduceLE, Int.reduceGE, Nat.reduceAdd, Nat.reduceMul, Nat.reduceLeDiff, d1, d2], ⟨b1, by omega⟩, f1⟩
    · have d2 : ¬ (total : Int) > 10 := by omega
      exact ⟨S1, by simp only [zB, decide_true, decide_false, Bool.false_eq_true, if_false, if_true, List.getElem?_cons_zero, List.getElem?_cons_succ, beq_self_eq_true, bne_self_eq_false, Int.reduceBNe, Int.reduceBEq, Int.reduceLT, Int.reduceGT, Int.reduceLE, Int.reduceGE, Nat.reduceAdd, Nat.reduceMul, Nat.reduceLeDiff, d1, d2], ⟨b1, by omega⟩, f1⟩
end
theorem rst_mem : ∀ (l : List Int) (v : Int), v ∈ (rst l).1 → v ≠ 0 ∧ v ∈ l
  | [], v, h => by simp [rst] at h
  | x :: l, v, h => by
    have ih := rst_mem l v
    by_cases h0 : x = 0
    · simp only [rst, if_pos h0] at h
      exact ⟨(ih h).1, List.mem_cons_of_mem _ (ih h).2⟩
    · by_cases h1 : (rst l).1 = []
      · simp only [rst, if_neg h0, if_pos h1, List.mem_singleton] at h
        subst h; exact ⟨h0, List.mem_cons_self⟩
      · simp only [rst, if_neg h0, if_neg h1, List.mem_append, List.mem_singleton] at h
        rcases h with h | rfl
        · exact ⟨(ih h).1, List.mem_cons_of_mem _ (ih h).2⟩
        · exact ⟨h0, List.mem_cons_self⟩
structure Blk (l : List Int) : Prop where
  sz : sizedI (l.length : Int) = true
  rg : rngd l = true
theorem Blk.len {l : List Int} (h : Blk l) : l.length ≤ 16 ∧ 4 ≤ l.length := sized_le h.sz
theorem Blk.tot {l : List Int} (h : Blk l) : (rst l).1.length ≤ l.length ∧ (rst l).1.length ≤ 16 ∧ onesN (rst l).1 ≤ 3 ∧ onesN (rst l).1 ≤ (rst l).1.length := by
  have := (rst_sum l).1
  have h2 := onesG_le 3 (rst l).1
  have := h.len
  unfold onesN
  omega
theorem Blk.zr {l : List Int} (h : Blk l) : rZ l + (rst l).1.length ≤ l.length ∧ ((rst l).1 ≠ [] → (rst l).2.1.sum ≤ rZ l) := by
  have := (rst_sum l).1
  unfold rZ
  split
  · exact ⟨by omega, fun hh => by contradiction⟩
  · exact ⟨by omega, fun _ => by omega⟩
theorem Blk.mem {l : List Int} (h : Blk l) {v : Int} (hv : v ∈ (rst l).1) : v ≠ 0 ∧ -32768 ≤ v ∧ v ≤ 32768 := by
  obtain ⟨h1, h2⟩ := rst_mem l v hv
  have := List.all_eq_true.1 h.rg v h2
  refine ⟨h1, by simpa using this⟩
theorem Puts.of {S T : Heap} {p q q' : Nat} {bs bs' : List Bool} (h1 : Wr T p q' bs') (h2 : Fr S T [p, q]) (h3 : q' = q ∨ S.next ≤ q') : Puts S T p q q' bs bs' := ⟨h1, h2, h3⟩
theorem k0_le (t o : Nat) : k0N t o ≤ 6 := by unfold k0N; split <;> omega
theorem s0_le (o : Nat) : s0N o ≤ 2 := by unfold s0N; split <;> omega
theorem sel_0 {β : Type} (f : List AV → Heap → Option β) (fs : List (List AV → Heap → Option β)) (v : List AV) (S : Heap) : sel (f :: fs) 0 v S = f v S := (rfl)
theorem sel_1 {β : Type} (f g : List AV → Heap → Option β) (fs : List (List AV → Heap → Option β)) (v : List AV) (S : Heap) : sel (f :: g :: fs) 1 v S = g v S := (rfl)
theorem sel_2 {β : Type} (f g h : List AV → Heap → Option β) (fs : List (List AV → Heap → Option β)) (v : List AV) (S : Heap) : sel (f :: g :: h :: fs) 2 v S = h v S := (rfl)
def fill : List Int → List Nat → Nat → List Int → List Int
  | [], _, _, out => out
  | v :: L, B, pos, out => fill L B.tail (pos - 1 - B.headD 0) (out.set pos v)
theorem fill_shift : ∀ (L : List Int) (B : List Nat) (pos : Nat) (x : Int) (out : List Int), B.length = L.length - 1 → (L.length - 1) + B.sum ≤ pos → fill L B (pos + 1) (x :: out) = x :: fill L B pos out
  | [], B, pos, x, out, h1, h2 => rfl
  | [v], B, pos, x, out, h1, h2 => by simp [fill]
  | v :: w :: L, B, pos, x, out, h1, h2 => by
    cases B with
    | nil => simp at h1
    | cons b B =>
      simp only [List.length_cons, List.sum_cons] at h1 h2
      have e : pos + 1 - 1 - b = (pos - 1 - b) + 1 := by omega
      have ih := fill_shift (w :: L) B (pos - 1 - b) x (out.set pos v) (by simp only [List.length_cons]; omega) (by simp only [List.length_cons]; omega)
      simp only [fill, List.tail_cons, List.headD_cons, List.set_cons_succ] at ih ⊢
      rw [e]
      exact ih
theorem fill_app : ∀ (L : List Int) (B : List Nat) (pos : Nat) (out : List Int) (v : Int) (z : Nat), L ≠ [] → B.length = L.length - 1 → fill (L ++ [v]) (B ++ [z]) pos out = (fill L B pos out).set (pos - L.length - B.sum - z) v
  | [], B, pos, out, v, z, h0, h1 => absurd rfl h0
  | [w], B, pos, out, v, z, h0, h1 => by
    have : B = [] := List.length_eq_zero_iff.1 (by simpa using h1)
    subst this
    simp [fill]
  | w :: w2 :: L, B, pos, out, v, z, h0, h1 => by
    cases B with
    | nil => simp at h1
    | cons b B =>
      simp only [List.length_cons] at h1
      have ih := fill_app (w2 :: L) B (pos - 1 - b) (out.set pos w) v z (by simp) (by simp only [List.length_cons]; omega)
      have e : pos - 1 - b - (w2 :: L).length - B.sum - z = pos - (w :: w2 :: L).length - (b :: B).sum - z := by simp only [List.length_cons, List.sum_cons]; omega
      rw [e] at ih
      simp only [List.cons_append, fill, List.tail_cons, List.headD_cons] at ih ⊢
      exact ih
theorem rst_zero {l : List Int} (h : (rst l).1 = []) : l = List.replicate l.length 0 := by
  induction l with
  | nil => rfl
  | cons v l ih =>
    by_cases h0 : v = 0
    · have e : rst (v :: l) = ((rst l).1, (rst l).2.1, (rst l).2.2 + 1) := by simp only [rst, if_pos h0]
      rw [e] at h
      rw [h0, List.length_cons, List.replicate_succ, ← ih h]
    · exfalso
      by_cases h1 : (rst l).1 = []
      · have e : rst (v :: l) = ([v], [], 0) := by simp only [rst, if_neg h0, if_pos h1]
        rw [e] at h; simp at h
      · have e : rst (v :: l) = ((rst l).1 ++ [v], (rst l).2.1 ++ [(rst l).2.2], 0) := by simp only [rst, if_neg h0, if_neg h1]
        rw [e] at h; simp at h
theorem fill_rst : ∀ l : List Int, (rst l).1 ≠ [] → fill (rst l).1 (rst l).2.1 ((rst l).2.2 + ((rst l).1.length - 1) + (rst l).2.1.sum) (List.replicate l.length 0) = l
  | [], h => absurd rfl h
  | v :: l, h => by
    have hB := (rst_sum l).2
    by_cases h0 : v = 0
    · have e : rst (v :: l) = ((rst l).1, (rst l).2.1, (rst l).2.2 + 1) := by simp only [rst, if_pos h0]
      rw [e] at h ⊢
      have ih := fill_rst l h
      have := fill_shift (rst l).1 (rst l).2.1 ((rst l).2.2 + ((rst l).1.length - 1) + (rst l).2.1.sum) 0 (List.replicate l.length 0) hB (by omega)
      rw [ih] at this
      rw [h0, List.length_cons, List.replicate_succ]
      simp only
      rw [show (rst l).2.2 + 1 + ((rst l).1.length - 1) + (rst l).2.1.sum = (rst l).2.2 + ((rst l).1.length - 1) + (rst l).2.1.sum + 1 by omega]
      exact this
    · by_cases h1 : (rst l).1 = []
      · have e : rst (v :: l) = ([v], [], 0) := by simp only [rst, if_neg h0, if_pos h1]
        rw [e]
        have hz := rst_zero h1
        simp only [List.length_cons, List.replicate_succ, fill, List.length_nil, List.sum_nil]
        rw [show 0 + (0 + 1 - 1) + 0 = 0 from rfl, List.set_cons_zero, ← hz]
      · have e : rst (v :: l) = ((rst l).1 ++ [v], (rst l).2.1 ++ [(rst l).2.2], 0) := by simp only [rst, if_neg h0, if_neg h1]
        have hp := List.length_pos_iff.2 h1
        rw [e]
        have ih := fill_rst l h1
        have sh := fill_shift (rst l).1 (rst l).2.1 ((rst l).2.2 + ((rst l).1.length - 1) + (rst l).2.1.sum) 0 (List.replicate l.length 0) hB (by omega)
        rw [ih] at sh
        have ap := fill_app (rst l).1 (rst l).2.1 ((rst l).2.2 + ((rst l).1.length - 1) + (rst l).2.1.sum + 1) (0 :: List.replicate l.length 0) v (rst l).2.2 h1 hB
        rw [sh, show (rst l).2.2 + ((rst l).1.length - 1) + (rst l).2.1.sum + 1 - (rst l).1.length - (rst l).2.1.sum - (rst l).2.2 = 0 by omega, List.set_cons_zero] at ap
        simp only [List.length_cons, List.replicate_succ, List.length_append, List.length_nil, List.sum_append, List.sum_cons, List.sum_nil]
        rw [show 0 + ((rst l).1.length + (0 + 1) - 1) + ((rst l).2.1.sum + ((rst l).2.2 + 0)) = (rst l).2.2 + ((rst l).1.length - 1) + (rst l).2.1.sum + 1 by omega]
        exact ap
theorem setI2 : ∀ (B : List Int) (i : Nat) (v : Int), setCells (ints B) i [.int .i64 v] = ints (B.set i v) := by
  intro B i v
  simp only [setCells, ints, List.map_set]
theorem putI2 {T : Heap} {d : Nat} {B : List Int} {i : Nat} (v : Int) (h : T.blk d = some (ints B)) (hi : i < B.length) : putV (.ptr d (i * 1)) [.int .i64 v] T = some (T.set d (some (ints (B.set i v)))) := by
  rw [putV_p h (by rw [ints_len]; simp; omega), Nat.mul_one, setI2]
theorem idxI2 (d n : Nat) {i : Nat} (hi : i < n) : aIdx 1 (.hs d 0 n 1) (i : Int) = some (.ptr d (i * 1)) := by simp [aIdx, hi]
theorem ints_rep2 (n : Nat) : List.replicate n (AV.int .i64 0) = ints (List.replicate n 0) := by simp [ints]
theorem mk12 {n : Nat} (h : n ≤ 16) : (0 : Int) ≤ (n : Int) ∧ (n : Int) ≤ (n : Int) ∧ (n : Int) * ((8 : Nat) : Int) ≤ 2 ^ 44 ∧ (n : Int) ≤ 2 ^ 44 := by
  refine ⟨by omega, by omega, ?_, ?_⟩
  · have : (2 : Int) ^ 44 = 17592186044416 := by decide
    rw [this]; omega
  · have : (2 : Int) ^ 44 = 17592186044416 := by decide
    rw [this]; omega
theorem isl_is2 {l : List Int} (h : l ≠ []) : isl l = .is l.length (ints l) := by unfold isl; rw [if_neg h]
theorem sum_drop2 (M : List Nat) {i : Nat} (hi : i < M.length) : (M.drop i).sum = M[i] + (M.drop (i + 1)).sum := by rw [List.drop_eq_getElem_cons hi, List.sum_cons]
section
variable {B : CallF} (hB : Silent B) (k : Nat) {S : Heap}
include hB
theorem block_c {l : List Int} (hl : Blk l) {aM : AV} {dM : Nat} (hbM : IL S aM (natI (rst l).2.1) dM) : ∃ S', Cn B (k + 2) f_runs_Block 0 [.int .i64 (l.length : Int), .agg [isl (rst l).1, .int .i64 (rZ l : Int), aM]] S = some (.tup [isl l, .int .i64 0], S') ∧ Fr S S' [] := by
  rw [c_runs_Block _ _ _ _ _ (hB.no _ _ _ _ (kn_no (by decide))), T_runs_Block]
  have hll := hl.len
  have htot := hl.tot
  have hzr := hl.zr
  have hmem := fun v hv => hl.mem (v := v) hv
  have hsum := rst_sum l
  have hfill := fill_rst l
  have e1 := rsized_c hB k (S := S) (l.length : Int)
  rw [hl.sz] at e1
  have hrl : rngd (rst l).1 = true := by
    unfold rngd; rw [List.all_eq_true]; intro v hv; have := hmem v hv; simp; omega
  have hZ : (rst l).1 ≠ [] → rZ l = (rst l).2.2 + (rst l).2.1.sum := fun h => by unfold rZ; rw [if_neg h]
  have hZ0 : (rst l).1 = [] → rZ l = 0 := fun h => by unfold rZ; rw [if_pos h]
  have hz0 := rst_zero (l := l)
  obtain ⟨L, hL⟩ : ∃ L, L = (rst l).1 := ⟨_, rfl⟩
  obtain ⟨M, hM⟩ : ∃ M, M = (rst l).2.1 := ⟨_, rfl⟩
  obtain ⟨z, hz⟩ : ∃ z, z = (rst l).2.2 := ⟨_, rfl⟩
  obtain ⟨Z, hZZ⟩ : ∃ Z, Z = rZ l := ⟨_, rfl⟩
  rw [← hL] at htot hzr hmem hsum hfill hrl hZ hZ0 hz0 ⊢
  rw [← hM] at hzr hsum hfill hZ hbM
  rw [← hz] at hsum hfill hZ
  rw [← hZZ] at hzr hZ hZ0 ⊢
  have e2 := ranged_c hB k (isl_il S L 0) (by omega)
  rw [hrl] at e2
  have h1 := (isl_il S L 0).len
  have h2 := hbM.len
  rw [natI_len] at h2
  have c1 : ¬ (L.length : Int) > (l.length : Int) := by omega
  have w1 : (if (IntKind.wrap .i64 ((L.length : Int) - 1)) > 0 then IntKind.wrap .i64 ((L.length : Int) - 1) else 0) = ((L.length - 1 : Nat) : Int) := by
    rw [wr _ (by omega)]; split <;> omega
  have c2 : ((M.length : Int) != ((L.length - 1 : Nat) : Int)) = false := by rw [hsum.2]; simp
  have c3 : ¬ (Z : Int) < 0 := by omega
  have w2 : IntKind.wrap .i64 ((l.length : Int) - (L.length : Int)) = ((l.length - L.length : Nat) : Int) := by rw [wr _ (by omega)]; omega
  have c4 : ¬ (Z : Int) > ((l.length - L.length : Nat) : Int) := by omega
  obtain ⟨k1, k2, k3, k4⟩ := mk12 (n := l.length) (by omega)
  obtain ⟨d, hd⟩ : ∃ d, d = S.next := ⟨_, rfl⟩
  obtain ⟨S1, hS1⟩ : ∃ S1, S1 = S.alloc (ints (List.replicate l.length 0)) := ⟨_, rfl⟩
  have b1 : S1.blk d = some (ints (List.replicate l.length 0)) := by rw [hS1, hd]; exact alloc_blk _ _
  have n1 : d < S1.next := by rw [hS1, hd]; exact Nat.lt_succ_self _
  have f1 : Fr S S1 [] := by rw [hS1]; exact Fr.alloc _ _ _
  have hlne : l ≠ [] := fun h => by rw [h] at hll; simp at hll
  have fin : ∀ T : Heap, T.blk d = some (ints l) → d < T.next → Fr S T [] → ∃ S', fz 40 (.tup [.hs d 0 l.length 1, .int .i64 0]) T = some (.tup [isl l, .int .i64 0], S') ∧ Fr S S' [] := fun T hb hn hF => by
    have hR : HR T l d := fun _ => ⟨hb, hn⟩
    have hvv : hv l d = .hs d 0 l.length 1 := by unfold hv; rw [if_neg hlne]
    have e := fz_hv 37 hR
    rw [hvv] at e
    exact ⟨_, fz_tup (fzM_c e (fzM_c (fz_int 38 _ 0 _) rfl)), hF.kill (fun _ => .inr (by omega))⟩
  by_cases h0 : L = []
  · have c5 : ((L.length : Int) == 0) = true := by rw [h0]; rfl
    have c6 : ((Z : Int) != 0) = false := by rw [hZ0 h0]; rfl
    rw [← hz0 h0] at b1
    obtain ⟨S', e3, f3⟩ := fin S1 b1 n1 f1
    exact ⟨S', by simp only [zB, decide_true, decide_false, Bool.false_eq_true, if_false, if_true, List.getElem?_cons_zero, List.getElem?_cons_succ, beq_self_eq_true, bne_self_eq_false, Int.reduceBNe, Int.reduceBEq, Int.reduceLT, Int.reduceGT, Int.reduceLE, Int.reduceGE, Nat.reduceAdd, Nat.reduceMul, Nat.reduceLeDiff, List.length_cons, List.length_nil, h1, e1, e2, c1, h2, w1, c2, c3, w2, c4, c5, c6, k1, k2, k3, k4, Int.toNat_natCast, ints_rep2, ← hd, ← hS1, e3], f3⟩
  · have hLp := List.length_pos_iff.2 h0
    have c5 : ((L.length : Int) == 0) = false := by simp; exact h0
    have hZe := hZ h0
    have hfl := hfill h0
    have w3 : IntKind.wrap .i64 (IntKind.wrap .i64 ((L.length : Int) + (Z : Int)) - 1) = ((z + (L.length - 1) + M.sum : Nat) : Int) := by
      rw [wr ((L.length : Int) + (Z : Int)) (by omega), wr _ (by omega)]; omega
    simp only [zB, decide_true, decide_false, Bool.false_eq_true, if_false, if_true, List.getElem?_cons_zero, List.getElem?_cons_succ, beq_self_eq_true, bne_self_eq_false, Int.reduceBNe, Int.reduceBEq, Int.reduceLT, Int.reduceGT, Int.reduceLE, Int.reduceGE, Nat.reduceAdd, Nat.reduceMul, Nat.reduceLeDiff, List.length_cons, List.length_nil, h1, e1, e2, c1, h2, w1, c2, c3, w2, c4, c5, k1, k2, k3, k4, Int.toNat_natCast, ints_rep2, ← hd, ← hS1, w3]
    refine loop_meas (fun o => ∃ S', o = some (AV.tup [isl l, .int .i64 0], S') ∧ Fr S S' []) (fun m st => ∃ (i : Nat) (T : Heap) (out : List Int), i + m + 1 = L.length ∧ st = ([.agg [isl L, .int .i64 (Z : Int), aM], .hs d 0 l.length 1, .int .i64 (L.length : Int), .int .i64 ((z + m + (M.drop i).sum : Nat) : Int), isl L, .int .i64 (L.length : Int), .int .i64 (i : Int)], T) ∧
        T.blk d = some (ints out) ∧ out.length = l.length ∧ d < T.next ∧ Fr S T [] ∧ fill (L.drop i) (M.drop i) (z + m + (M.drop i).sum) out = l) (L.length - 1)
      ⟨0, S1, List.replicate l.length 0, by omega, rfl, b1, List.length_replicate, n1, f1, hfl⟩ ?_
    rintro m st ⟨i, T, out, him, rfl, hb, hol, hdT, hF, hfi⟩
    have hi : i < L.length := by omega
    have c6 : (i : Int) < (L.length : Int) := by omega
    obtain ⟨t, cs, o, x1, x2, x3⟩ := (isl_il T L 0).at hi
    have c7 : ¬ ((z + m + (M.drop i).sum : Nat) : Int) < 0 := by omega
    have hv0 := (hmem L[i] (List.getElem_mem hi)).1
    have c8 : (L[i] == 0) = false := by simp [hv0]
    have hpos : z + m + (M.drop i).sum < l.length := by
      have : (M.drop i).sum ≤ M.sum := by
        have := List.take_append_drop i M
        calc (M.drop i).sum ≤ (M.take i).sum + (M.drop i).sum := Nat.le_add_left _ _
          _ = M.sum := by rw [← List.sum_append, this]
      omega
    have e3 := idxI2 d l.length hpos
    have e4 := putI2 L[i] hb (i := z + m + (M.drop i).sum) (by omega)
    obtain ⟨T1, hT1⟩ : ∃ T1, T1 = T.set d (some (ints (out.set (z + m + (M.drop i).sum) L[i]))) := ⟨_, rfl⟩
    rw [← hT1] at e4
    have b2 : T1.blk d = some (ints (out.set (z + m + (M.drop i).sum) L[i])) := by rw [hT1, set_blk]
    have n2 : d < T1.next := by rw [hT1]; exact hdT
    have f2 : Fr S T1 [] := by rw [hT1]; exact hF.set (.inr (by omega)) _
    have w4 : IntKind.wrap .i64 ((i : Int) + 1) = ((i + 1 : Nat) : Int) := by rw [wr _ (by omega)]; omega
    rw [List.drop_eq_getElem_cons hi, fill] at hfi
    cases m with
    | zero =>
      have c9 : (((i + 1 : Nat) : Int) == (L.length : Int)) = true := by simp; omega
      rw [List.drop_eq_nil_of_le (by omega), fill] at hfi
      rw [hfi] at b2
      obtain ⟨S', e5, f5⟩ := fin T1 b2 n2 f2
      rw [Nat.add_zero] at c7 e3 e4
      exact .inl ⟨(2, [.hs d 0 l.length 1, .int .i64 0], T1), by simp only [zB, decide_true, decide_false, Bool.false_eq_true, if_false, if_true, List.getElem?_cons_zero, List.getElem?_cons_succ, beq_self_eq_true, bne_self_eq_false, Int.reduceBNe, Int.reduceBEq, Int.reduceLT, Int.reduceGT, Int.reduceLE, Int.reduceGE, Nat.reduceAdd, Nat.reduceMul, Nat.reduceLeDiff, c6, x1, x2, x3, c7, c8, e3, e4, w4, c9], S', by simp only [zB, decide_true, decide_false, Bool.false_eq_true, if_false, if_true, List.getElem?_cons_zero, List.getElem?_cons_succ, beq_self_eq_true, bne_self_eq_false, Int.reduceBNe, Int.reduceBEq, Int.reduceLT, Int.reduceGT, Int.reduceLE, Int.reduceGE, Nat.reduceAdd, Nat.reduceMul, Nat.reduceLeDiff, sel_2, e5], f5⟩
    | succ m =>
      have c9 : (((i + 1 : Nat) : Int) == (L.length : Int)) = false := by simp; omega
      have hiM : i < M.length := by omega
      have hi' : i < (natI M).length := by rw [natI_len]; exact hiM
      obtain ⟨t2, cs2, o2, y1, y2, y3⟩ := (hbM.fr f2 (by simp)).at hi'
      rw [natI_at hi'] at y3
      have hsd := sum_drop2 M hiM
      have hmz : (M.drop i).sum ≤ Z := by
        have := List.take_append_drop i M
        have h3 : (M.drop i).sum ≤ M.sum := by
          calc (M.drop i).sum ≤ (M.take i).sum + (M.drop i).sum := Nat.le_add_left _ _
            _ = M.sum := by rw [← List.sum_append, this]
        omega
      have c10 : ¬ ((M[i] : Nat) : Int) < 0 := by omega
      have c11 : ¬ ((M[i] : Nat) : Int) > (Z : Int) := by omega
      have w5 : IntKind.wrap .i64 (IntKind.wrap .i64 (((z + (m + 1) + (M.drop i).sum : Nat) : Int) - 1) - ((M[i] : Nat) : Int)) = ((z + m + (M.drop (i + 1)).sum : Nat) : Int) := by
        rw [wr (((z + (m + 1) + (M.drop i).sum : Nat) : Int) - 1) (by omega), wr _ (by omega)]; omega
      refine .inr ⟨m, ([.agg [isl L, .int .i64 (Z : Int), aM], .hs d 0 l.length 1, .int .i64 (L.length : Int), .int .i64 ((z + m + (M.drop (i + 1)).sum : Nat) : Int), isl L, .int .i64 (L.length : Int), .int .i64 ((i + 1 : Nat) : Int)], T1), by omega, by simp only [zB, decide_true, decide_false, Bool.false_eq_true, if_false, if_true, List.getElem?_cons_zero, List.getElem?_cons_succ, beq_self_eq_true, bne_self_eq_false, Int.reduceBNe, Int.reduceBEq, Int.reduceLT, Int.reduceGT, Int.reduceLE, Int.reduceGE, Nat.reduceAdd, Nat.reduceMul, Nat.reduceLeDiff, c6, x1, x2, x3, c7, c8, e3, e4, w4, c9, y1, y2, y3, c10, c11, w5], i + 1, T1, _, by omega, rfl, b2, by rw [List.length_set]; exact hol, n2, f2, ?_⟩
      rw [List.drop_eq_getElem_cons hiM, List.tail_cons, List.headD_cons, List.sum_cons] at hfi
      rw [show z + (m + 1) + (M[i] + (M.drop (i + 1)).sum) - 1 - M[i] = z + m + (M.drop (i + 1)).sum by omega] at hfi
      rw [hsd]; exact hfi
end
theorem fz_isl (d : Nat) (l : List Int) (S : Heap) : fz (d + 1) (isl l) S = some (isl l, S) := by unfold isl; split <;> rfl
section
variable {B : CallF} (hB : Silent B) (k : Nat) {S : Heap} {p : Nat} {s : ByteArray} {a : Nat}
include hB
theorem skip_c (n : Nat) : ∀ {S : Heap} {a : Nat}, Rdr S p s a → a + n ≤ 8 * s.size → ∃ S', Cn B (k + 3) f_vblock_skip 0 [.ptr p 0, .int .i64 (n : Int)] S = some (.tup [], S') ∧ Rdr S' p s (a + n) ∧ Fr S S' [p] := by
  intro S a hr hn
  rw [c_vblock_skip _ _ _ _ _ (hB.no _ _ _ _ (kn_no (by decide))), T_vblock_skip]
  have hsz := hr.sz
  simp only [zB, decide_true, decide_false, Bool.false_eq_true, if_false, if_true, List.getElem?_cons_zero, List.getElem?_cons_succ, beq_self_eq_true, bne_self_eq_false, Int.reduceBNe, Int.reduceBEq, Int.reduceLT, Int.reduceGT, Int.reduceLE, Int.reduceGE, Nat.reduceAdd, Nat.reduceMul, Nat.reduceLeDiff]
  refine loop_meas (fun o => ∃ S', o = some (AV.tup [], S') ∧ Rdr S' p s (a + n) ∧ Fr S S' [p]) (fun m st => ∃ (i : Nat) (T : Heap), i + m = n ∧ st = ([.ptr p 0, .int .i64 (m : Int)], T) ∧ Rdr T p s (a + i) ∧ Fr S T [p]) n ⟨0, S, by omega, rfl, hr, Fr.refl _ _⟩ ?_
  rintro m st ⟨i, T, him, rfl, hR, hF⟩
  by_cases hm : m = 0
  · subst hm
    have c1 : ¬ (((0 : Nat) : Int) > 0) := by omega
    have : i = n := by omega
    subst this
    exact .inl ⟨(0, [], T), by simp only [zB, decide_true, decide_false, Bool.false_eq_true, if_false, if_true, List.getElem?_cons_zero, List.getElem?_cons_succ, beq_self_eq_true, bne_self_eq_false, Int.reduceBNe, Int.reduceBEq, Int.reduceLT, Int.reduceGT, Int.reduceLE, Int.reduceGE, Nat.reduceAdd, Nat.reduceMul, Nat.reduceLeDiff, c1], T, by simp only [zB, decide_true, decide_false, Bool.false_eq_true, if_false, if_true, List.getElem?_cons_zero, List.getElem?_cons_succ, beq_self_eq_true, bne_self_eq_false, Int.reduceBNe, Int.reduceBEq, Int.reduceLT, Int.reduceGT, Int.reduceLE, Int.reduceGE, Nat.reduceAdd, Nat.reduceMul, Nat.reduceLeDiff, sel_0], hR, hF⟩
  · have c1 : (m : Int) > 0 := by omega
    have w1 : (if (64 : Int) < (m : Int) then (64 : Int) else (m : Int)) = ((min m 64 : Nat) : Int) := by split <;> omega
    obtain ⟨T1, e1, hR1, f1⟩ := u_ok hB k hR (min m 64) (by omega) (by omega)
    have w2 : IntKind.wrap .i64 ((m : Int) - ((min m 64 : Nat) : Int)) = ((m - min m 64 : Nat) : Int) := by rw [wr _ (by omega)]; omega
    exact .inr ⟨m - min m 64, ([.ptr p 0, .int .i64 ((m - min m 64 : Nat) : Int)], T1), by omega, by simp only [zB, decide_true, decide_false, Bool.false_eq_true, if_false, if_true, List.getElem?_cons_zero, List.getElem?_cons_succ, beq_self_eq_true, bne_self_eq_false, Int.reduceBNe, Int.reduceBEq, Int.reduceLT, Int.reduceGT, Int.reduceLE, Int.reduceGE, Nat.reduceAdd, Nat.reduceMul, Nat.reduceLeDiff, c1, w1, e1, w2], i + min m 64, T1, by omega, rfl, by rw [← Nat.add_assoc]; exact hR1, hF.trans f1 (fun j hj => .inl hj)⟩
end
theorem oneD_1 {β : Type} (f : Nat) (xs : List AV) (K0 : Option β) (K : List AV → Option β) : oneD [(f, xs)] f K0 K = K xs := by simp [oneD]
/-- What lasts while a block is read: the boxes, the reader and its copy. -/
structure RS (S : Heap) (p x bc : Nat) (s : ByteArray) (a : Nat) (T : Heap) (a' : Nat) (v : AV) : Prop where
  br : T.blk S.next = some [.ptr p 0]
  bb : T.blk (S.next + 1) = some [v]
  be : T.blk (S.next + 2) = some [.int .i64 0]
  bc' : T.blk bc = some [.ptr x 0]
  rx : Rdr T x s a'
  old : ∀ j, j < S.next → T.blk j = S.blk j
  nx : bc < T.next
  cx : T.cx = (S.cx.1, [(f_vblock_Read_1, [.ptr (S.next + 2) 0, .ptr (S.next + 1) 0, .ptr S.next 0, .ptr bc 0])])
  ox : S.next + 2 < x ∧ x < bc
theorem RS.gen {S : Heap} {p x bc : Nat} {s : ByteArray} {a : Nat} {T T' : Heap} {a' a'' : Nat} {v : AV} (h : RS S p x bc s a T a' v) (hc : T'.cx = T.cx) (hn : T.next ≤ T'.next) (hk : ∀ j, j ≤ bc → j ≠ x → T'.blk j = T.blk j) (hx : Rdr T' x s a'') : RS S p x bc s a T' a'' v := by
  have := h.ox
  exact ⟨(hk _ (by omega) (by omega)).trans h.br, (hk _ (by omega) (by omega)).trans h.bb, (hk _ (by omega) (by omega)).trans h.be, (hk _ (by omega) (by omega)).trans h.bc', hx, fun j hj => (hk j (by omega) (by omega)).trans (h.old j hj), by have := h.nx; omega, hc.trans h.cx, h.ox⟩
theorem RS.fr {S : Heap} {p x bc : Nat} {s : ByteArray} {a : Nat} {T T' : Heap} {a' a'' : Nat} {v : AV} (h : RS S p x bc s a T a' v) (f : Fr T T' [x]) (hx : Rdr T' x s a'') : RS S p x bc s a T' a'' v :=
  h.gen f.2.1 f.1 (fun j hj hjx => f.2.2 j (by have := h.nx; omega) (by simp; exact hjx)) hx
theorem RS.fr0 {S : Heap} {p x bc : Nat} {s : ByteArray} {a : Nat} {T T' : Heap} {a' : Nat} {v : AV} (h : RS S p x bc s a T a' v) (f : Fr T T' []) : RS S p x bc s a T' a' v :=
  h.gen f.2.1 f.1 (fun j hj hjx => f.2.2 j (by have := h.nx; omega) (by simp)) (h.rx.fr f (by simp))
theorem rdr_set {T : Heap} {x : Nat} {s : ByteArray} {a j : Nat} (h : Rdr T x s a) (hj : j ≠ x) (c : Option (List AV)) : Rdr (T.set j c) x s a := ⟨by rw [set_other _ _ (Ne.symm hj)]; exact h.blk, h.lt, h.sz, h.le⟩
theorem RS.sete {S : Heap} {p x bc : Nat} {s : ByteArray} {a : Nat} {T : Heap} {a' : Nat} {v : AV} (h : RS S p x bc s a T a' v) : putV (.ptr (S.next + 2) 0) [.int .i64 0] T = some (T.set (S.next + 2) (some [.int .i64 0])) ∧ RS S p x bc s a (T.set (S.next + 2) (some [.int .i64 0])) a' v := by
  have := h.ox
  refine ⟨put1_0' h.be, ⟨?_, ?_, set_blk _ _ _, ?_, rdr_set h.rx (by omega) _, fun j hj => ?_, h.nx, h.cx, h.ox⟩⟩
  · rw [set_other _ _ (by omega)]; exact h.br
  · rw [set_other _ _ (by omega)]; exact h.bb
  · rw [set_other _ _ (by omega)]; exact h.bc'
  · rw [set_other _ _ (by omega)]; exact h.old j hj
theorem RS.setb {S : Heap} {p x bc : Nat} {s : ByteArray} {a : Nat} {T : Heap} {a' : Nat} {v : AV} (h : RS S p x bc s a T a' v) (w : AV) : putV (.ptr (S.next + 1) 0) [w] T = some (T.set (S.next + 1) (some [w])) ∧ RS S p x bc s a (T.set (S.next + 1) (some [w])) a' w := by
  have := h.ox
  refine ⟨put1_0' h.bb, ⟨?_, set_blk _ _ _, ?_, ?_, rdr_set h.rx (by omega) _, fun j hj => ?_, h.nx, h.cx, h.ox⟩⟩
  · rw [set_other _ _ (by omega)]; exact h.br
  · rw [set_other _ _ (by omega)]; exact h.be
  · rw [set_other _ _ (by omega)]; exact h.bc'
  · rw [set_other _ _ (by omega)]; exact h.old j hj
section
variable {B : CallF} (hB : Silent B) (k : Nat) {S : Heap} {p : Nat} {s : ByteArray} {a : Nat}
include hB
/-- The end: the deferred call, and the results. -/
theorem read_end (G : Nat → Option (List AV)) (hr : Rdr S p s a) {x bc n : Nat} {l : List Int} {T : Heap} (h : RS S p x bc s a T (a + n) (isl l)) :
    ∃ T' S', T_vblock_Read_1 ctlV G (Cn B (k + 3)) (.ptr (S.next + 2) 0) (.ptr (S.next + 1) 0) (.ptr S.next 0) (.ptr bc 0) T = some (.tup [], T') ∧ T'.blk (S.next + 1) = some [isl l] ∧ T'.blk (S.next + 2) = some [.int .i64 0] ∧ S' = tidy S T' ∧ Rdr S' p s (a + n) ∧ Fr S S' [p] := by
  unfold T_vblock_Read_1
  have hox := h.ox
  have hplt := hr.lt
  have hRp : Rdr T p s a := ⟨(h.old p hplt).trans hr.blk, by have := h.nx; omega, hr.sz, hr.le⟩
  have e1 := pos_c hB (k + 2) h.rx
  have e2 := pos_c hB (k + 2) hRp
  have hsz := hr.sz
  have hle := h.rx.le
  have w1 : IntKind.wrap .i64 (((a + n : Nat) : Int) - (a : Int)) = (n : Int) := by rw [wr _ (by omega)]; omega
  obtain ⟨T', e3, hR', f3⟩ := skip_c hB k n hRp hle
  have z0 : ((0 : Int) != 0) = false := rfl
  refine ⟨T', tidy S T', by simp only [zB, decide_true, decide_false, Bool.false_eq_true, if_false, if_true, List.getElem?_cons_zero, List.getElem?_cons_succ, beq_self_eq_true, bne_self_eq_false, Int.reduceBNe, Int.reduceBEq, Int.reduceLT, Int.reduceGT, Int.reduceLE, Int.reduceGE, Nat.reduceAdd, Nat.reduceMul, Nat.reduceLeDiff, h.be, z0, h.br, h.bc', e1, e2, w1, e3], ?_, ?_, rfl, ⟨hR'.blk, hR'.lt, hR'.sz, hR'.le⟩, ?_⟩
  · exact (f3.get (by have := h.nx; omega) (by simp; omega)).trans h.bb
  · exact (f3.get (by have := h.nx; omega) (by simp; omega)).trans h.be
  · refine ⟨?_, rfl, fun j hj hn => ?_⟩
    · show S.next ≤ T'.next
      have := f3.1; have := h.nx; omega
    · show T'.blk j = S.blk j
      exact (f3.get (by have := h.nx; omega) hn).trans (h.old j hj)
end
theorem sel_1' {β : Type} (f g : List AV → Heap → Option β) (fs : List (List AV → Heap → Option β)) (v : List AV) (S : Heap) : sel (f :: g :: fs) 1 v S = g v S := (rfl)
/-- The level of a number. -/
def lvlI (n : Nat) : Int := if n % 2 = 1 then -((n / 2 + 1 : Nat) : Int) else ((n / 2 + 1 : Nat) : Int)
/-- What is read: the level and the place behind it, or the error. -/
def lvR (s : ByteArray) (a K sk : Nat) : Except Int (Int × Nat) := match lead s 16 a with
  | .error e => .error e
  | .ok P => if 8 * s.size < a + P + 1 + sufN K P then .error 5 else .ok (lvlI (baseN K P + num s (a + P + 1) (sufN K P) + sk), a + P + 1 + sufN K P)
def encL : Except Int (Int × Nat) → AV
  | .ok (v, _) => .tup [.int .i64 v, .int .i64 0]
  | .error e => .tup [.int .i64 0, .int .i64 e]
def posL (a : Nat) : Except Int (Int × Nat) → Nat
  | .ok (_, a') => a'
  | .error _ => a
theorem suf_le {K P : Nat} (hK : K ≤ 6) : sufN K P ≤ 12 := by unfold sufN; split; omega; split; omega; split <;> omega
theorem base_le {K P : Nat} (hK : K ≤ 6) (hP : P ≤ 15) : baseN K P ≤ 960 := by
  have := esc_le hK
  unfold baseN
  split
  · omega
  · split
    · have h1 : P * 2 ^ K ≤ 15 * 64 := Nat.mul_le_mul hP this.2.2.1
      omega
    · omega
theorem lvlI_abs (n : Nat) : (lvlI n).natAbs = n / 2 + 1 := by unfold lvlI; split <;> omega
section
variable {B : CallF} (hB : Silent B) (k : Nat) {S : Heap} {c K left sk : Nat}
include hB
theorem lreadF_c {p : Nat} {s : ByteArray} {a : Nat} (h : Cod S c K (left + 1) sk) (hr : Rdr S p s a) (hcp : c ≠ p) (hK : K ≤ 6) (hl : left ≤ 1000) (hs : sk ≤ 2) :
    ∃ S', Cn B (k + 4) f_level_Coder_Read 0 [.ptr c 0, .ptr p 0] S = some (encL (lvR s a K sk), S') ∧ Rdr S' p s (posL a (lvR s a K sk)) ∧ (match lvR s a K sk with | .ok (v, _) => Cod S' c (aftN K v.natAbs) left 0 | .error _ => Cod S' c K (left + 1) sk) ∧ Fr S S' [p, c] := by
  rw [c_level_Coder_Read _ _ _ _ _ (hB.no _ _ _ _ (kn_no (by decide))), T_level_Coder_Read]
  have hsz := hr.sz
  obtain ⟨S1, hS1⟩ : ∃ S1, S1 = S.alloc [.ptr c 0] := ⟨_, rfl⟩
  have f1 : Fr S S1 [] := by rw [hS1]; exact Fr.alloc _ _ _
  have b1 : S1.blk S.next = some [.ptr c 0] := by rw [hS1]; exact alloc_blk _ _
  have n1 : S1.next = S.next + 1 := by rw [hS1]; rfl
  have hc1 := h.fr f1 (by simp)
  have hr1 := hr.fr f1 (by simp)
  obtain ⟨S2, e2, r2, f2⟩ := rcopy_c hB (k + 2) hr1
  obtain ⟨x, hx⟩ : ∃ x, x = S1.next := ⟨_, rfl⟩
  rw [← hx] at e2 r2
  obtain ⟨y, hy⟩ : ∃ y, y = S2.next := ⟨_, rfl⟩
  obtain ⟨S3, hS3⟩ : ∃ S3, S3 = S2.alloc [.int .i64 0] := ⟨_, rfl⟩
  have b3 : S3.blk y = some [.int .i64 0] := by rw [hS3, hy]; exact alloc_blk _ _
  have n3 : S3.next = y + 1 := by rw [hS3, hy]; rfl
  have e3 := put1_0' (x := .int .i64 0) b3
  obtain ⟨S4, hS4⟩ : ∃ S4, S4 = S3.set y (some [.int .i64 0]) := ⟨_, rfl⟩
  rw [← hS4] at e3
  have b4 : S4.blk y = some [.int .i64 0] := by rw [hS4, set_blk]
  have n4 : S4.next = y + 1 := by rw [hS4]; exact n3
  have hxy : S2.next ≤ y := by omega
  have f24 : Fr S2 S4 [] := by rw [hS4, hS3]; exact (Fr.alloc S2 _ []).set (.inr hxy) _
  have cn0 : (((left + 1 : Nat) : Int) == 0) = false := by simp; omega
  have hca : cell (.ptr c 0) = true := rfl
  simp only [zB, decide_true, decide_false, Bool.false_eq_true, if_false, if_true, List.getElem?_cons_zero, List.getElem?_cons_succ, beq_self_eq_true, bne_self_eq_false, Int.reduceBNe, Int.reduceBEq, Int.reduceLT, Int.reduceGT, Int.reduceLE, Int.reduceGE, Nat.reduceAdd, Nat.reduceMul, Nat.reduceLeDiff, hca, ← hS1, b1, hc1.blk, cn0, e2, ← hy, ← hS3, e3]
  have hltx := r2.lt
  have hn12 := f2.1
  have hclt := h.lt
  have hplt := hr.lt
  have fail : ∀ (T : Heap) (e : Int), Fr S2 T [x] → lvR s a K sk = .error e → ∃ S', some (AV.tup [.int .i64 0, .int .i64 e], T) = some (encL (lvR s a K sk), S') ∧ Rdr S' p s (posL a (lvR s a K sk)) ∧ (match lvR s a K sk with | .ok (v, _) => Cod S' c (aftN K v.natAbs) left 0 | .error _ => Cod S' c K (left + 1) sk) ∧ Fr S S' [p, c] := by
    intro T e hFT he
    rw [he]
    have hFS : Fr S T [] := (f1.trans f2 (fun j hj => by simp at hj)).trans hFT (fun j hj => .inr (by simp at hj; omega))
    exact ⟨T, rfl, hr.fr hFS (by simp), h.fr hFS (by simp), hFS.nil⟩
  refine loop_meas (fun o => ∃ S', o = some (encL (lvR s a K sk), S') ∧ Rdr S' p s (posL a (lvR s a K sk)) ∧ (match lvR s a K sk with | .ok (v, _) => Cod S' c (aftN K v.natAbs) left 0 | .error _ => Cod S' c K (left + 1) sk) ∧ Fr S S' [p, c])
    (fun m st => ∃ (i : Nat) (T : Heap), i + m = 15 ∧ st = ([.ptr p 0, .ptr S.next 0, .ptr x 0, .ptr y 0], T) ∧ Rdr T x s (a + i) ∧ T.blk y = some [.int .i64 (i : Int)] ∧ Fr S2 T [x] ∧ y < T.next ∧ lead s 16 a = (lead s (m + 1) (a + i)).map (· + i)) 15
    ⟨0, S4, by omega, rfl, r2.fr f24 (by simp), b4, f24.weak (fun j hj => by simp at hj), by omega, by cases lead s 16 a <;> rfl⟩ ?_
  rintro m st ⟨i, T, him, rfl, hRx, hby, hFT, hyT, hld⟩
  rw [lead_succ s m (a + i)] at hld
  by_cases hsh : 8 * s.size ≤ a + i
  · rw [if_pos hsh] at hld
    have e4 := bit_short hB k hRx (by have := hRx.le; omega)
    have hlv : lvR s a K sk = .error 5 := by unfold lvR; rw [hld]; rfl
    have z5 : ((5 : Int) != 0) = true := rfl
    refine .inl ⟨(1, [.int .i64 0, .int .i64 5], T), by simp only [zB, decide_true, decide_false, Bool.false_eq_true, if_false, if_true, List.getElem?_cons_zero, List.getElem?_cons_succ, beq_self_eq_true, bne_self_eq_false, Int.reduceBNe, Int.reduceBEq, Int.reduceLT, Int.reduceGT, Int.reduceLE, Int.reduceGE, Nat.reduceAdd, Nat.reduceMul, Nat.reduceLeDiff, e4, z5], ?_⟩
    simp only [zB, decide_true, decide_false, Bool.false_eq_true, if_false, if_true, List.getElem?_cons_zero, List.getElem?_cons_succ, beq_self_eq_true, bne_self_eq_false, Int.reduceBNe, Int.reduceBEq, Int.reduceLT, Int.reduceGT, Int.reduceLE, Int.reduceGE, Nat.reduceAdd, Nat.reduceMul, Nat.reduceLeDiff, sel_1']
    exact fail T 5 hFT hlv
  rw [if_neg hsh] at hld
  obtain ⟨T1, e4, hRx1, fT1⟩ := bit_ok hB k hRx (by omega)
  have hby1 : T1.blk y = some [.int .i64 (i : Int)] := (fT1.get hyT (by simp; omega)).trans hby
  have hyT1 : y < T1.next := Nat.lt_of_lt_of_le hyT fT1.1
  have hFT1 : Fr S2 T1 [x] := hFT.trans fT1 (fun j hj => .inl hj)
  have z00 : ((0 : Int) != 0) = false := rfl
  by_cases hbit : sb s (a + i) = 1
  · rw [if_pos hbit] at hld
    have hld' : lead s 16 a = .ok i := by rw [hld]; simp [Except.map]
    rw [hbit] at e4
    have z1 : (((1 : Nat) : Int) == 1) = true := rfl
    refine .inl ⟨(0, [.ptr p 0, .ptr S.next 0, .ptr x 0, .ptr y 0], T1), by simp only [zB, decide_true, decide_false, Bool.false_eq_true, if_false, if_true, List.getElem?_cons_zero, List.getElem?_cons_succ, beq_self_eq_true, bne_self_eq_false, Int.reduceBNe, Int.reduceBEq, Int.reduceLT, Int.reduceGT, Int.reduceLE, Int.reduceGE, Nat.reduceAdd, Nat.reduceMul, Nat.reduceLeDiff, e4, z00, z1], ?_⟩
    have hS2c : Cod S2 c K (left + 1) sk := hc1.fr f2 (by simp)
    have hTc : Cod T1 c K (left + 1) sk := hS2c.fr hFT1 (by simp; omega)
    have hS2b : S2.blk S.next = some [.ptr c 0] := (f2.get (by omega) (by simp)).trans b1
    have hTb : T1.blk S.next = some [.ptr c 0] := (hFT1.get (by omega) (by simp; omega)).trans hS2b
    have e5 := read1_c' hB (k + 1) hTc hby1 hTb hK (show i ≤ 15 by omega)
    have hsuf := suf_le (P := i) hK
    have hbase := base_le hK (show i ≤ 15 by omega)
    obtain ⟨w, hw⟩ : ∃ w, w = sufN K i := ⟨_, rfl⟩
    rw [← hw] at e5 hsuf
    by_cases hU : 8 * s.size < a + i + 1 + w
    · have hlv : lvR s a K sk = .error 5 := by unfold lvR; rw [hld']; simp only [← hw]; rw [if_pos hU]
      have e6 := u_short hB (k + 1) hRx1 w (by omega) (by omega)
      have z5 : ((5 : Int) != 0) = true := rfl
      simp only [zB, decide_true, decide_false, Bool.false_eq_true, if_false, if_true, List.getElem?_cons_zero, List.getElem?_cons_succ, beq_self_eq_true, bne_self_eq_false, Int.reduceBNe, Int.reduceBEq, Int.reduceLT, Int.reduceGT, Int.reduceLE, Int.reduceGE, Nat.reduceAdd, Nat.reduceMul, Nat.reduceLeDiff, sel_0', e5, e6, z5]
      exact fail T1 5 hFT1 hlv
    · obtain ⟨N, hN⟩ : ∃ N, N = baseN K i + num s (a + i + 1) w := ⟨_, rfl⟩
      have hlv : lvR s a K sk = .ok (lvlI (N + sk), a + i + 1 + w) := by unfold lvR; rw [hld']; simp only [← hw]; rw [if_neg hU, hN]
      rw [hlv]
      obtain ⟨T2, e6, hRx2, fT2⟩ := u_ok hB (k + 1) hRx1 w (by omega) (by omega)
      have hFl := num_lt s (a + i + 1) w
      obtain ⟨F, hF⟩ : ∃ F, F = num s (a + i + 1) w := ⟨_, rfl⟩
      rw [← hF] at e6 hFl hN
      have hFb : F < 4096 := by
        have : 2 ^ w ≤ 2 ^ 12 := Nat.pow_le_pow_right (by omega) hsuf
        omega
      have hTc2 : Cod T2 c K (left + 1) sk := hTc.fr fT2 (by simp; omega)
      have hTb2 : T2.blk S.next = some [.ptr c 0] := (fT2.get (by have := hFT1.1; omega) (by simp; omega)).trans hTb
      have hby2 : T2.blk y = some [.int .i64 (i : Int)] := (fT2.get hyT1 (by simp; omega)).trans hby1
      have w1 : IntKind.wrap .i64 (F : Int) = (F : Int) := wr _ (by omega)
      have w2 : IntKind.wrap .i64 ((baseN K i : Int) + (F : Int)) = (N : Int) := by rw [wr _ (by omega)]; omega
      have w3 : IntKind.wrap .i64 ((N : Int) + (sk : Int)) = ((N + sk : Nat) : Int) := by rw [wr _ (by omega)]; omega
      have hFS : Fr S T2 [] := ((f1.trans f2 (fun j hj => by simp at hj)).trans hFT1 (fun j hj => .inr (by simp at hj; omega))).trans fT2 (fun j hj => .inr (by simp at hj; omega))
      have hR2 : Rdr T2 p s a := hr.fr hFS (by simp)
      obtain ⟨T3, e7, hR3, fT3⟩ := u_ok hB (k + 1) hR2 (i + 1 + w) (by omega) (by omega)
      have hTc3 : Cod T3 c K (left + 1) sk := hTc2.fr fT3 (by simp; exact hcp)
      have hTb3 : T3.blk S.next = some [.ptr c 0] := (fT3.get (by have := hFS.1; have := hFT1.1; have := fT2.1; omega) (by simp; omega)).trans hTb2
      have hab := lvlI_abs (N + sk)
      obtain ⟨T4, e8, hC4, fT4, n4'⟩ := next_c hB (k + 1) hTc3 hK hl (lvlI (N + sk)) (by omega)
      have w4 : IntKind.wrap .i64 (IntKind.wrap .i64 ((i : Int) + 1) + (w : Int)) = ((i + 1 + w : Nat) : Int) := by rw [wr ((i : Int) + 1) (by omega), wr _ (by omega)]; omega
      have w5 : IntKind.wrap .i64 (Int.tdiv ((N + sk : Nat) : Int) 2) = (((N + sk) / 2 : Nat) : Int) := by rw [tdiv2, wr _ (by omega)]
      have w6 : IntKind.wrap .i64 ((((N + sk) / 2 : Nat) : Int) + 1) = (((N + sk) / 2 + 1 : Nat) : Int) := by rw [wr _ (by omega)]; omega
      have hfin : Rdr T4 p s (a + i + 1 + w) ∧ Cod T4 c (aftN K (lvlI (N + sk)).natAbs) left 0 ∧ Fr S T4 [p, c] := by
        refine ⟨?_, hC4, ((hFS.weak (l' := [p, c]) (fun j hj => by simp at hj)).trans fT3 (fun j hj => .inl (by simp at hj ⊢; simp [hj]))).trans fT4 (fun j hj => .inl (by simp at hj ⊢; simp [hj]))⟩
        have := hR3.fr fT4 (by simp; exact Ne.symm hcp)
        rw [show a + (i + 1 + w) = a + i + 1 + w by omega] at this
        exact this
      refine ⟨T4, ?_, hfin⟩
      unfold lvlI at e8
      by_cases hodd : (N + sk) % 2 = 1
      · rw [if_pos hodd] at e8
        have c2 : (Int.tmod ((N + sk : Nat) : Int) 2 == 1) = true := by rw [tmod2, hodd]; rfl
        have w7 : IntKind.wrap .i64 (0 - (((N + sk) / 2 + 1 : Nat) : Int)) = -(((N + sk) / 2 + 1 : Nat) : Int) := by rw [wr _ (by omega)]; omega
        simp only [encL, lvlI, if_pos hodd]
        simp only [zB, decide_true, decide_false, Bool.false_eq_true, if_false, if_true, List.getElem?_cons_zero, List.getElem?_cons_succ, beq_self_eq_true, bne_self_eq_false, Int.reduceBNe, Int.reduceBEq, Int.reduceLT, Int.reduceGT, Int.reduceLE, Int.reduceGE, Nat.reduceAdd, Nat.reduceMul, Nat.reduceLeDiff, sel_0', e5, e6, z00, w1, w2, hTb2, hTc2.blk, w3, c2, w5, w6, w7, hby2, w4, e7, hTb3, e8]
      · rw [if_neg hodd] at e8
        have c2 : (Int.tmod ((N + sk : Nat) : Int) 2 == 1) = false := by rw [tmod2]; simp; omega
        simp only [encL, lvlI, if_neg hodd]
        simp only [zB, decide_true, decide_false, Bool.false_eq_true, if_false, if_true, List.getElem?_cons_zero, List.getElem?_cons_succ, beq_self_eq_true, bne_self_eq_false, Int.reduceBNe, Int.reduceBEq, Int.reduceLT, Int.reduceGT, Int.reduceLE, Int.reduceGE, Nat.reduceAdd, Nat.reduceMul, Nat.reduceLeDiff, sel_0', e5, e6, z00, w1, w2, hTb2, hTc2.blk, w3, c2, w5, w6, hby2, w4, e7, hTb3, e8]
  · rw [if_neg hbit] at hld
    have hb0 : sb s (a + i) = 0 := by have := sb_lt s (a + i); omega
    rw [hb0] at e4
    have w1 : IntKind.wrap .i64 ((i : Int) + 1) = ((i + 1 : Nat) : Int) := by rw [wr _ (by omega)]; omega
    have e5 := put1_0' (x := .int .i64 ((i + 1 : Nat) : Int)) hby1
    have z1 : (((0 : Nat) : Int) == 1) = false := rfl
    obtain ⟨T2, hT2⟩ : ∃ T2, T2 = T1.set y (some [.int .i64 ((i + 1 : Nat) : Int)]) := ⟨_, rfl⟩
    rw [← hT2] at e5
    have b2 : T2.blk y = some [.int .i64 ((i + 1 : Nat) : Int)] := by rw [hT2, set_blk]
    have hFT2 : Fr S2 T2 [x] := by rw [hT2]; exact hFT1.set (.inr (by omega)) _
    cases m with
    | zero =>
      have hlv : lvR s a K sk = .error 4 := by unfold lvR; rw [hld]; rfl
      have c1 : ((i + 1 : Nat) : Int) > 15 := by omega
      refine .inl ⟨(1, [.int .i64 0, .int .i64 4], T2), by simp only [zB, decide_true, decide_false, Bool.false_eq_true, if_false, if_true, List.getElem?_cons_zero, List.getElem?_cons_succ, beq_self_eq_true, bne_self_eq_false, Int.reduceBNe, Int.reduceBEq, Int.reduceLT, Int.reduceGT, Int.reduceLE, Int.reduceGE, Nat.reduceAdd, Nat.reduceMul, Nat.reduceLeDiff, e4, z00, z1, hby1, w1, e5, b2, c1], ?_⟩
      simp only [zB, decide_true, decide_false, Bool.false_eq_true, if_false, if_true, List.getElem?_cons_zero, List.getElem?_cons_succ, beq_self_eq_true, bne_self_eq_false, Int.reduceBNe, Int.reduceBEq, Int.reduceLT, Int.reduceGT, Int.reduceLE, Int.reduceGE, Nat.reduceAdd, Nat.reduceMul, Nat.reduceLeDiff, sel_1']
      exact fail T2 4 hFT2 hlv
    | succ m =>
      have c1 : ¬ (((i + 1 : Nat) : Int) > 15) := by omega
      refine .inr ⟨m, ([.ptr p 0, .ptr S.next 0, .ptr x 0, .ptr y 0], T2), by omega, by simp only [zB, decide_true, decide_false, Bool.false_eq_true, if_false, if_true, List.getElem?_cons_zero, List.getElem?_cons_succ, beq_self_eq_true, bne_self_eq_false, Int.reduceBNe, Int.reduceBEq, Int.reduceLT, Int.reduceGT, Int.reduceLE, Int.reduceGE, Nat.reduceAdd, Nat.reduceMul, Nat.reduceLeDiff, e4, z00, z1, hby1, w1, e5, b2, c1], i + 1, T2, by omega, rfl, ?_, b2, hFT2, by rw [hT2]; exact hyT1, ?_⟩
      · rw [hT2]; exact hRx1.fr ((Fr.refl T1 [y]).set (.inl (by simp)) _) (by simp; omega)
      · rw [hld, map_map']; rfl
end
/-- So many levels that are 1 or -1, one bit each. -/
def onR (s : ByteArray) : Nat → Nat → Except Int (List Int × Nat)
  | 0, a => .ok ([], a)
  | n + 1, a => if 8 * s.size ≤ a then .error 5 else match onR s n (a + 1) with
    | .error e => .error e
    | .ok (L, a') => .ok ((if sb s a = 1 then -1 else 1) :: L, a')
/-- So many levels, one after another. -/
def lvsR (s : ByteArray) : Nat → Nat → Nat → Nat → Except Int (List Int × Nat)
  | 0, a, _, _ => .ok ([], a)
  | n + 1, a, K, sk => match lvR s a K sk with
    | .error e => .error e
    | .ok (v, a') => match lvsR s n a' (aftN K v.natAbs) 0 with
      | .error e => .error e
      | .ok (L, a'') => .ok (v :: L, a'')
/-- All levels: the ones, and the others. -/
def levR (s : ByteArray) (a total ones : Nat) : Except Int (List Int × Nat) := match onR s ones a with
  | .error e => .error e
  | .ok (L, a') => match lvsR s (total - ones) a' (k0N total ones) (s0N ones) with
    | .error e => .error e
    | .ok (M, a'') => .ok (L ++ M, a'')
theorem lvR_good {s : ByteArray} {a K sk : Nat} {v : Int} {a' : Nat} (hK : K ≤ 6) (hs : sk ≤ 2) (ha : a ≤ 8 * s.size) (h : lvR s a K sk = .ok (v, a')) : v ≠ 0 ∧ v.natAbs ≤ 3000 ∧ a' ≤ 8 * s.size := by
  unfold lvR at h
  split at h
  · cases h
  · rename_i P hP
    have hlo := lead_ok hP
    split at h
    · cases h
    · rename_i hU
      have hv := congrArg (fun x => match x with | .ok (v, a') => (v, a') | .error _ => (0, 0)) h
      simp only [Prod.mk.injEq] at hv
      obtain ⟨hv1, hv2⟩ := hv
      have hab := lvlI_abs (baseN K P + num s (a + P + 1) (sufN K P) + sk)
      rw [hv1] at hab
      have hb := base_le hK (show P ≤ 15 by omega)
      have hsu := suf_le (P := P) hK
      have hn := num_lt s (a + P + 1) (sufN K P)
      have hp : 2 ^ sufN K P ≤ 2 ^ 12 := Nat.pow_le_pow_right (by omega) hsu
      refine ⟨fun h0 => by rw [h0] at hab; simp at hab, by omega, by omega⟩
def preL (X : List Int) : Except Int (List Int × Nat) → Except Int (List Int × Nat)
  | .ok (L, a') => .ok (X ++ L, a')
  | .error e => .error e
theorem preL_nil (r : Except Int (List Int × Nat)) : preL [] r = r := by cases r <;> rfl
theorem preL_app (X Y : List Int) (r : Except Int (List Int × Nat)) : preL X (preL Y r) = preL (X ++ Y) r := by cases r <;> simp [preL]
theorem onR_succ (s : ByteArray) (n a : Nat) (h : ¬ 8 * s.size ≤ a) : onR s (n + 1) a = preL [if sb s a = 1 then -1 else 1] (onR s n (a + 1)) := by
  rw [onR, if_neg h]
  cases onR s n (a + 1) <;> rfl
theorem lvsR_succ (s : ByteArray) (n a K sk : Nat) {v : Int} {a' : Nat} (h : lvR s a K sk = .ok (v, a')) : lvsR s (n + 1) a K sk = preL [v] (lvsR s n a' (aftN K v.natAbs) 0) := by
  rw [lvsR, h]
  simp only
  cases lvsR s n a' (aftN K v.natAbs) 0 <;> rfl
theorem bit3 (b : Nat) (h : b < 2) : IntKind.wrap .i64 (1 - IntKind.wrap .i64 (2 * IntKind.wrap .i64 (b : Int))) = if b = 1 then -1 else 1 := by
  match b, h with
  | 0, _ => decide
  | 1, _ => decide
/-- The outcome: the row and where the reader is, or the error. -/
def LOut (S : Heap) (p : Nat) (s : ByteArray) (r : Except Int (List Int × Nat)) (o : Option (AV × Heap)) : Prop := match r with
  | .ok (L, a') => ∃ S', o = some (.tup [isl L, .int .i64 0], S') ∧ Rdr S' p s a' ∧ Fr S S' [p]
  | .error e => ∃ S' b, o = some (.tup [.nils, .int .i64 e], S') ∧ Rdr S' p s b ∧ Fr S S' [p]
theorem fz_nt (e : Int) (S : Heap) : fz 40 (.tup [.nils, .int .i64 e]) S = some (.tup [.nils, .int .i64 e], S) := (rfl)
theorem lvR_err {s : ByteArray} {a K sk : Nat} {e : Int} (h : lvR s a K sk = .error e) : e ≠ 0 := by
  unfold lvR at h
  split at h
  · rename_i e' he
    have := lead_err he
    have h2 : e' = e := by injection h
    omega
  · split at h
    · have h2 : (5 : Int) = e := by injection h
      omega
    · cases h
section
variable {B : CallF} (hB : Silent B) (k : Nat) {S : Heap} {p : Nat} {s : ByteArray} {a : Nat}
include hB
theorem levelsF_c (hr : Rdr S p s a) {total ones : Nat} (ht : total ≤ 16) (ho : ones ≤ 3) (hto : ones ≤ total) :
    LOut S p s (levR s a total ones) (Cn B (k + 5) f_vblock_levels 0 [.ptr p 0, .int .i64 (total : Int), .int .i64 (ones : Int)] S) := by
  rw [c_vblock_levels _ _ _ _ _ _ (hB.no _ _ _ _ (kn_no (by decide))), T_vblock_levels]
  have hplt := hr.lt
  simp only [zB, decide_true, decide_false, Bool.false_eq_true, if_false, if_true, List.getElem?_cons_zero, List.getElem?_cons_succ, beq_self_eq_true, bne_self_eq_false, Int.reduceBNe, Int.reduceBEq, Int.reduceLT, Int.reduceGT, Int.reduceLE, Int.reduceGE, Nat.reduceAdd, Nat.reduceMul, Nat.reduceLeDiff]
  refine loop_meas (LOut S p s (levR s a total ones)) (fun m st => ∃ (i : Nat) (X : List Int) (T : Heap) (q : Nat), i + m = ones ∧ X.length = i ∧ st = ([.ptr p 0, .int .i64 (total : Int), .int .i64 (ones : Int), hv X q, .int .i64 (ones : Int), .int .i64 (i : Int)], T) ∧
      Rdr T p s (a + i) ∧ HR T X q ∧ (X ≠ [] → S.next ≤ q) ∧ Fr S T [p] ∧ onR s ones a = preL X (onR s m (a + i))) ones ⟨0, [], S, 0, by omega, rfl, rfl, hr, fun h => absurd rfl h, fun h => absurd rfl h, Fr.refl _ _, (preL_nil _).symm⟩ ?_
  rintro m st ⟨i, X, T, q, him, hXl, rfl, hR, hH, hq, hF, hon⟩
  cases m with
  | succ m =>
    have c1 : (i : Int) < (ones : Int) := by omega
    by_cases hsh : 8 * s.size ≤ a + i
    · have e1 := bit_short hB (k + 1) hR (by have := hR.le; omega)
      have z5 : ((5 : Int) != 0) = true := rfl
      refine .inl ⟨(1, [.nils, .int .i64 5], T), by simp only [zB, decide_true, decide_false, Bool.false_eq_true, if_false, if_true, List.getElem?_cons_zero, List.getElem?_cons_succ, beq_self_eq_true, bne_self_eq_false, Int.reduceBNe, Int.reduceBEq, Int.reduceLT, Int.reduceGT, Int.reduceLE, Int.reduceGE, Nat.reduceAdd, Nat.reduceMul, Nat.reduceLeDiff, c1, e1, z5], ?_⟩
      have hlev : levR s a total ones = .error 5 := by unfold levR; rw [hon, onR, if_pos hsh]; rfl
      rw [hlev]
      exact ⟨T, _, by simp only [zB, decide_true, decide_false, Bool.false_eq_true, if_false, if_true, List.getElem?_cons_zero, List.getElem?_cons_succ, beq_self_eq_true, bne_self_eq_false, Int.reduceBNe, Int.reduceBEq, Int.reduceLT, Int.reduceGT, Int.reduceLE, Int.reduceGE, Nat.reduceAdd, Nat.reduceMul, Nat.reduceLeDiff, sel_1, fz_nt], hR, hF⟩
    · obtain ⟨T1, e1, hR1, f1⟩ := bit_ok hB (k + 1) hR (by omega)
      have w1 := bit3 (sb s (a + i)) (sb_lt _ _)
      have hH1 := hH.fr f1 (fun h => by have := hq h; simp; omega)
      obtain ⟨T2, e2, hH2, n2, x2, o2⟩ := appI (if sb s (a + i) = 1 then -1 else 1) hH1 (by omega)
      have hpn := hR1.lt
      have hF1 : Fr S T1 [p] := hF.trans f1 (fun j hj => .inl hj)
      have hsn := hF1.1
      have hk : ∀ j, j < S.next → T2.blk j = T1.blk j := fun j hj => o2 j (by omega) (by
        by_cases hn : X = []
        · exact .inr hn
        · exact .inl (by have := hq hn; omega))
      have w2 : IntKind.wrap .i64 ((i : Int) + 1) = ((i + 1 : Nat) : Int) := by rw [wr _ (by omega)]; omega
      have z0 : ((0 : Int) != 0) = false := rfl
      refine .inr ⟨m, ([.ptr p 0, .int .i64 (total : Int), .int .i64 (ones : Int), hv (X ++ [if sb s (a + i) = 1 then -1 else 1]) T1.next, .int .i64 (ones : Int), .int .i64 ((i + 1 : Nat) : Int)], T2), by omega, by simp only [zB, decide_true, decide_false, Bool.false_eq_true, if_false, if_true, List.getElem?_cons_zero, List.getElem?_cons_succ, beq_self_eq_true, bne_self_eq_false, Int.reduceBNe, Int.reduceBEq, Int.reduceLT, Int.reduceGT, Int.reduceLE, Int.reduceGE, Nat.reduceAdd, Nat.reduceMul, Nat.reduceLeDiff, c1, e1, z0, w1, e2, w2], i + 1, X ++ [if sb s (a + i) = 1 then -1 else 1], T2, T1.next, by omega, by simp [hXl], rfl, ⟨(hk p hplt).trans hR1.blk, by omega, hR1.sz, by have := hR1.le; omega⟩, hH2, fun _ => hsn, ⟨by omega, x2.trans hF1.2.1, fun j hj hn => (hk j hj).trans (hF1.2.2 j hj hn)⟩, ?_⟩
      rw [hon, onR_succ s m (a + i) hsh, preL_app]; rfl
  | zero =>
    have hi : i = ones := by omega
    subst hi
    have c1 : ¬ ((i : Int) < (i : Int)) := by omega
    have hon' : onR s i a = .ok (X, a + i) := by rw [hon]; simp [onR, preL]
    refine .inl ⟨(0, [.ptr p 0, .int .i64 (total : Int), .int .i64 (i : Int), hv X q], T), by simp only [zB, decide_true, decide_false, Bool.false_eq_true, if_false, if_true, List.getElem?_cons_zero, List.getElem?_cons_succ, beq_self_eq_true, bne_self_eq_false, Int.reduceBNe, Int.reduceBEq, Int.reduceLT, Int.reduceGT, Int.reduceLE, Int.reduceGE, Nat.reduceAdd, Nat.reduceMul, Nat.reduceLeDiff, c1], ?_⟩
    obtain ⟨T1, e1, hC, f1⟩ := new_c hB (k + 3) (S := T) ht ho hto
    obtain ⟨cp, hcp⟩ : ∃ cp, cp = T.next := ⟨_, rfl⟩
    rw [← hcp] at e1 hC
    have hcS : S.next ≤ cp := by have := hF.1; omega
    have z0 : ((0 : Int) != 0) = false := rfl
    simp only [zB, decide_true, decide_false, Bool.false_eq_true, if_false, if_true, List.getElem?_cons_zero, List.getElem?_cons_succ, beq_self_eq_true, bne_self_eq_false, Int.reduceBNe, Int.reduceBEq, Int.reduceLT, Int.reduceGT, Int.reduceLE, Int.reduceGE, Nat.reduceAdd, Nat.reduceMul, Nat.reduceLeDiff, sel_0, e1]
    have hF1 : Fr S T1 [p] := hF.trans f1 (fun j hj => by simp at hj)
    refine loop_meas (LOut S p s (levR s a total i)) (fun m st => ∃ (X2 : List Int) (U : Heap) (q kk ss pos : Nat), X2.length + m = total ∧ st = ([.ptr p 0, .int .i64 (total : Int), hv X2 q, .ptr cp 0], U) ∧
        Rdr U p s pos ∧ HR U X2 q ∧ (X2 ≠ [] → S.next ≤ q ∧ q ≠ cp) ∧ Cod U cp kk m ss ∧ kk ≤ 6 ∧ ss ≤ 2 ∧ Fr S U [p] ∧ levR s a total i = preL X2 (lvsR s m pos kk ss)) (total - i)
      ⟨X, T1, q, _, _, a + i, by omega, rfl, hR.fr f1 (by simp), hH.fr f1 (fun _ => by simp), fun h => ⟨hq h, by have := (hH h).2; omega⟩, hC, k0_le _ _, s0_le _, hF1, by
        unfold levR; rw [hon']; simp only; cases lvsR s (total - i) (a + i) (k0N total i) (s0N i) <;> rfl⟩ ?_
    rintro m st ⟨X2, U, q, kk, ss, pos, hml, rfl, hRU, hHU, hqU, hCU, hkk, hss, hFU, hlev⟩
    have hlU := hv_len X2 q
    cases m with
    | succ m =>
      have c2 : (X2.length : Int) < (total : Int) := by omega
      have hcpp : cp ≠ p := by omega
      obtain ⟨U1, e2, hR1, hC1, f2⟩ := lreadF_c hB k hCU hRU hcpp hkk (by omega) hss
      have hF2 : Fr S U1 [p] := hFU.trans f2 (fun j hj => by
        simp only [List.mem_cons, List.not_mem_nil, or_false] at hj ⊢
        rcases hj with rfl | rfl
        · exact .inl rfl
        · exact .inr hcS)
      cases hlr : lvR s pos kk ss with
      | error e =>
        rw [hlr] at e2 hR1 hC1
        have he := lvR_err hlr
        have ze : (e != 0) = true := by simp [he]
        simp only [encL] at e2
        have hle : levR s a total i = .error e := by rw [hlev, lvsR, hlr]; rfl
        rw [hle]
        refine .inl ⟨(1, [.nils, .int .i64 e], U1), by simp only [zB, decide_true, decide_false, Bool.false_eq_true, if_false, if_true, List.getElem?_cons_zero, List.getElem?_cons_succ, beq_self_eq_true, bne_self_eq_false, Int.reduceBNe, Int.reduceBEq, Int.reduceLT, Int.reduceGT, Int.reduceLE, Int.reduceGE, Nat.reduceAdd, Nat.reduceMul, Nat.reduceLeDiff, hlU, c2, e2, ze], ?_⟩
        exact ⟨U1, _, by simp only [zB, decide_true, decide_false, Bool.false_eq_true, if_false, if_true, List.getElem?_cons_zero, List.getElem?_cons_succ, beq_self_eq_true, bne_self_eq_false, Int.reduceBNe, Int.reduceBEq, Int.reduceLT, Int.reduceGT, Int.reduceLE, Int.reduceGE, Nat.reduceAdd, Nat.reduceMul, Nat.reduceLeDiff, sel_1, fz_nt], hR1, hF2⟩
      | ok va =>
        obtain ⟨v, a'⟩ := va
        rw [hlr] at e2 hR1 hC1
        simp only [encL] at e2
        simp only [posL] at hR1
        simp only at hC1
        have hH1 := hHU.fr f2 (fun h => by have := hqU h; simp; exact ⟨by omega, this.2⟩)
        obtain ⟨U2, e3, hH2, n2, x2, o2⟩ := appI v hH1 (by omega)
        have hsn := hF2.1
        have hkS : ∀ j, j < S.next → U2.blk j = U1.blk j := fun j hj => o2 j (by omega) (by
          by_cases hn : X2 = []
          · exact .inr hn
          · exact .inl (by have := hqU hn; omega))
        have hcl := hC1.lt
        have hrl := hR1.lt
        refine .inr ⟨m, ([.ptr p 0, .int .i64 (total : Int), hv (X2 ++ [v]) U1.next, .ptr cp 0], U2), by omega, by simp only [zB, decide_true, decide_false, Bool.false_eq_true, if_false, if_true, List.getElem?_cons_zero, List.getElem?_cons_succ, beq_self_eq_true, bne_self_eq_false, Int.reduceBNe, Int.reduceBEq, Int.reduceLT, Int.reduceGT, Int.reduceLE, Int.reduceGE, Nat.reduceAdd, Nat.reduceMul, Nat.reduceLeDiff, hlU, c2, e2, z0, e3], X2 ++ [v], U2, U1.next, aftN kk v.natAbs, 0, a', by simp; omega, rfl, ⟨(hkS p hplt).trans hR1.blk, by omega, hR1.sz, hR1.le⟩, hH2, fun _ => ⟨hsn, by omega⟩, ⟨?_, by omega⟩, (aft_le hkk _).1, by omega, ⟨by omega, x2.trans hF2.2.1, fun j hj hn => (hkS j hj).trans (hF2.2.2 j hj hn)⟩, ?_⟩
        · rw [o2 cp (by omega) (by
            by_cases hn : X2 = []
            · exact .inr hn
            · exact .inl (Ne.symm (hqU hn).2))]
          exact hC1.blk
        · rw [hlev, lvsR_succ s m pos kk ss hlr, preL_app]
    | zero =>
      have c2 : ¬ ((X2.length : Int) < (total : Int)) := by omega
      have hle : levR s a total i = .ok (X2, pos) := by rw [hlev]; simp [lvsR, preL]
      rw [hle]
      have e4 : fz 40 (.tup [hv X2 q, .int .i64 0]) U = some (.tup [isl X2, .int .i64 0], kill U X2 q) := fz_tup (fzM_c (fz_hv 37 hHU) (fzM_c (fz_int 38 _ 0 _) rfl))
      have hFk : Fr S (kill U X2 q) [p] := hFU.kill (fun h => .inr (hqU h).1)
      refine .inl ⟨(0, [hv X2 q], U), by simp only [zB, decide_true, decide_false, Bool.false_eq_true, if_false, if_true, List.getElem?_cons_zero, List.getElem?_cons_succ, beq_self_eq_true, bne_self_eq_false, Int.reduceBNe, Int.reduceBEq, Int.reduceLT, Int.reduceGT, Int.reduceLE, Int.reduceGE, Nat.reduceAdd, Nat.reduceMul, Nat.reduceLeDiff, hlU, c2], kill U X2 q, by simp only [zB, decide_true, decide_false, Bool.false_eq_true, if_false, if_true, List.getElem?_cons_zero, List.getElem?_cons_succ, beq_self_eq_true, bne_self_eq_false, Int.reduceBNe, Int.reduceBEq, Int.reduceLT, Int.reduceGT, Int.reduceLE, Int.reduceGE, Nat.reduceAdd, Nat.reduceMul, Nat.reduceLeDiff, sel_0, e4], ?_, hFk⟩
      have hkb : (kill U X2 q).blk p = U.blk p := by
        unfold kill
        split
        · rfl
        · rename_i hn
          exact set_other _ _ (by have := (hqU hn).1; omega)
      have hkn : (kill U X2 q).next = U.next := by unfold kill; split <;> rfl
      exact ⟨hkb.trans hRU.blk, by rw [hkn]; exact hRU.lt, hRU.sz, hRU.le⟩
end
theorem pair_o : ∀ v : Fin 62, (pairL.getD v.val (0, 0)).2 ≤ min (pairL.getD v.val (0, 0)).1 3 := by decide
theorem zerR_in {s : ByteArray} {a : Nat} {size total : Int} (h : (zerR s a size total).2.1 = 0) : ∃ Z : Nat, (zerR s a size total).1 = (Z : Int) ∧ (Z : Int) ≤ size - total := by
  unfold zerR at h ⊢
  by_cases g1 : sizedI size = false ∨ total < 1 ∨ total > size
  · rw [if_pos g1] at h; cases h
  rw [if_neg g1] at h ⊢
  simp only [not_or] at g1
  have hs := (sizedI_iff size).1 (by simpa using g1.1)
  obtain ⟨m, hm⟩ := Int.eq_ofNat_of_zero_le (show 0 ≤ size - total by omega)
  rw [hm] at h ⊢
  rw [Int.toNat_natCast] at h ⊢
  obtain ⟨q1, q2, q3, q4, q5, q6⟩ := cut_facts ⟨m, by omega⟩
  simp only at q1 q2 q3 q4 q5 q6
  have hD : cutD m = 2 ^ (cutB m + 1) - (m + 1) := rfl
  by_cases g2 : 8 * s.size < a + cutB m
  · rw [if_pos g2] at h; cases h
  rw [if_neg g2] at h ⊢
  by_cases g3 : num s a (cutB m) < cutD m
  · rw [if_pos g3] at h ⊢
    exact ⟨num s a (cutB m), rfl, by omega⟩
  rw [if_neg g3] at h ⊢
  by_cases g4 : 8 * s.size < a + cutB m + 1
  · rw [if_pos g4] at h; cases h
  rw [if_neg g4] at h ⊢
  have hn := num_lt s a (cutB m + 1)
  have hpre := num_pre (s := s) (a := a) (b := cutB m)
  refine ⟨num s a (cutB m + 1) - cutD m, ?_, ?_⟩
  · show ((num s a (cutB m + 1) : Nat) : Int) - (cutD m : Nat) = _
    omega
  · omega
theorem runR_in {s : ByteArray} {a : Nat} {left : Int} (ha : a ≤ 8 * s.size) (h : (runR s a left).2.1 = 0) : ∃ n : Nat, (runR s a left).1 = (n : Int) ∧ (n : Int) ≤ left := by
  unfold runR at h ⊢
  by_cases g1 : left < 0 ∨ left > 15
  · rw [if_pos g1] at h; cases h
  rw [if_neg g1] at h ⊢
  simp only [not_or] at g1
  cases hr : runN s left.toNat a with
  | none => rw [hr] at h; cases h
  | some n =>
    have := runN_ok ha hr
    exact ⟨n, rfl, by omega⟩
theorem tokR_in {s : ByteArray} {a : Nat} {cls size : Int} (h : (tokR s a cls size).2.2.1 = 0) : ∃ t o : Nat, (tokR s a cls size).1 = (t : Int) ∧ (tokR s a cls size).2.1 = (o : Int) ∧ (t : Int) ≤ size ∧ o ≤ min t 3 ∧ sizedI size = true := by
  unfold tokR at h ⊢
  by_cases g1 : cls < 0 ∨ cls > 4 ∨ sizedI size = false
  · rw [if_pos g1] at h; cases h
  rw [if_neg g1] at h ⊢
  simp only [not_or] at g1
  have hsz : sizedI size = true := by simpa using g1.2.2
  cases hn : numR s cls.toNat a with
  | error e =>
    rw [hn] at h
    simp only at h
    have := numR_err hn
    omega
  | ok va =>
    obtain ⟨v, a'⟩ := va
    rw [hn] at h
    simp only at h ⊢
    by_cases g2 : v ≥ bef (size.toNat + 1)
    · rw [if_pos g2] at h; cases h
    rw [if_neg g2]
    have hb := bef_le size hsz
    have hv : v < 62 := by omega
    obtain ⟨q1, q2, q3⟩ := tok_same ⟨v, hv⟩
    have q4 := pair_o ⟨v, hv⟩
    simp only at q1 q2 q3 q4
    refine ⟨(pairL.getD v (0, 0)).1, (pairL.getD v (0, 0)).2, ?_, ?_, ?_, q4, hsz⟩
    · unfold pairR; rw [if_neg (by omega)]; simp
    · unfold pairR; rw [if_neg (by omega)]; simp
    · rcases (sizedI_iff size).1 hsz with rfl | rfl | rfl
      · have : ¬ v ≥ bef 5 := g2
        have := (not_congr q1).1 this
        simp only [Decidable.not_not] at this
        omega
      · have : ¬ v ≥ bef 16 := g2
        have := (not_congr q2).1 this
        simp only [Decidable.not_not] at this
        omega
      · have : ¬ v ≥ bef 17 := g2
        have := (not_congr q3).1 this
        simp only [Decidable.not_not] at this
        omega
/-- An error is met: it is laid down, the row is none, and what the deferred call then leaves. -/
theorem read_fail {B : CallF} (k : Nat) (G : Nat → Option (List AV)) {S : Heap} {p : Nat} {s : ByteArray} {a : Nat} (hr : Rdr S p s a) {x bc a' : Nat} {T : Heap} {v : AV} (h : RS S p x bc s a T a' v) (e : Int) (he : e ≠ 0) :
    ∃ T0 T1 T2 T3 S', putV (.ptr (S.next + 2) 0) [.int .i64 e] T = some T0 ∧ T0.blk (S.next + 2) = some [.int .i64 e] ∧ putV (.ptr (S.next + 1) 0) [.nils] T0 = some T1 ∧ T1.blk (S.next + 2) = some [.int .i64 e] ∧ putV (.ptr (S.next + 2) 0) [.int .i64 e] T1 = some T2 ∧
      T_vblock_Read_1 ctlV G (Cn B k) (.ptr (S.next + 2) 0) (.ptr (S.next + 1) 0) (.ptr S.next 0) (.ptr bc 0) T2 = some (.tup [], T3) ∧ T2.cx = T.cx ∧ T3.blk (S.next + 1) = some [.nils] ∧ T3.blk (S.next + 2) = some [.int .i64 e] ∧
      S' = tidy S T3 ∧ Rdr S' p s a ∧ Fr S S' [p] := by
  have hox := h.ox
  have hplt := hr.lt
  have hnx := h.nx
  have e0 := put1_0' (x := .int .i64 e) h.be
  obtain ⟨T0, hT0⟩ : ∃ T0, T0 = T.set (S.next + 2) (some [.int .i64 e]) := ⟨_, rfl⟩
  rw [← hT0] at e0
  have b0 : T0.blk (S.next + 2) = some [.int .i64 e] := by rw [hT0, set_blk]
  have b0' : T0.blk (S.next + 1) = some [v] := by rw [hT0, set_other _ _ (by omega)]; exact h.bb
  have e1 := put1_0' (x := .nils) b0'
  obtain ⟨T1, hT1⟩ : ∃ T1, T1 = T0.set (S.next + 1) (some [.nils]) := ⟨_, rfl⟩
  rw [← hT1] at e1
  have b1' : T1.blk (S.next + 2) = some [.int .i64 e] := by rw [hT1, set_other _ _ (by omega)]; exact b0
  have e2 := put1_0' (x := .int .i64 e) b1'
  obtain ⟨T2, hT2⟩ : ∃ T2, T2 = T1.set (S.next + 2) (some [.int .i64 e]) := ⟨_, rfl⟩
  rw [← hT2] at e2
  have b1 : T2.blk (S.next + 1) = some [.nils] := by rw [hT2, set_other _ _ (by omega), hT1, set_blk]
  have b2 : T2.blk (S.next + 2) = some [.int .i64 e] := by rw [hT2, set_blk]
  have e3 := put1_0' (x := .nils) b1
  obtain ⟨T3, hT3⟩ : ∃ T3, T3 = T2.set (S.next + 1) (some [.nils]) := ⟨_, rfl⟩
  rw [← hT3] at e3
  have ze : (e != 0) = true := by simp [he]
  have old : ∀ j, j < S.next → T3.blk j = S.blk j := fun j hj => by
    rw [hT3, set_other _ _ (by omega), hT2, set_other _ _ (by omega), hT1, set_other _ _ (by omega), hT0, set_other _ _ (by omega)]; exact h.old j hj
  have hn3 : T3.next = T.next := by rw [hT3, hT2, hT1, hT0]; rfl
  refine ⟨T0, T1, T2, T3, tidy S T3, e0, b0, e1, b1', e2, ?_, by rw [hT2, hT1, hT0]; rfl, by rw [hT3, set_blk], by rw [hT3, set_other _ _ (by omega)]; exact b2, rfl, ⟨(old p hplt).trans hr.blk, ?_, hr.sz, hr.le⟩, ?_, rfl, fun j hj _ => old j hj⟩
  · unfold T_vblock_Read_1
    simp only [zB, decide_true, decide_false, Bool.false_eq_true, if_false, if_true, List.getElem?_cons_zero, List.getElem?_cons_succ, beq_self_eq_true, bne_self_eq_false, Int.reduceBNe, Int.reduceBEq, Int.reduceLT, Int.reduceGT, Int.reduceLE, Int.reduceGE, Nat.reduceAdd, Nat.reduceMul, Nat.reduceLeDiff, b2, ze, e3]
  · show p < T3.next; omega
  · show S.next ≤ T3.next; omega
/-- So many runs of zeros, one after another. -/
def runsR (s : ByteArray) : Nat → Nat → Nat → Except Int (List Nat × Nat)
  | 0, _, a => .ok ([], a)
  | n + 1, left, a => if left = 0 then (match runsR s n 0 a with
      | .error e => .error e
      | .ok (M, a') => .ok (0 :: M, a'))
    else if (runR s a left).2.1 ≠ 0 then .error (runR s a left).2.1 else (match runsR s n (left - (runR s a left).1.toNat) (runR s a left).2.2 with
      | .error e => .error e
      | .ok (M, a') => .ok ((runR s a left).1.toNat :: M, a'))
/-- What is read: the block and the place behind it, or the error. -/
def readR (s : ByteArray) (a : Nat) (cls size : Int) : Except Int (List Int × Nat) :=
  if cls < 0 ∨ cls > 4 ∨ sizedI size = false then .error 3 else
  if (tokR s a cls size).2.2.1 ≠ 0 then .error (tokR s a cls size).2.2.1 else
  if (tokR s a cls size).1 = 0 then .ok (List.replicate size.toNat 0, (tokR s a cls size).2.2.2) else
  match levR s (tokR s a cls size).2.2.2 (tokR s a cls size).1.toNat (tokR s a cls size).2.1.toNat with
  | .error e => .error e
  | .ok (L, a1) => if (zerR s a1 size (tokR s a cls size).1).2.1 ≠ 0 then .error (zerR s a1 size (tokR s a cls size).1).2.1 else
    match runsR s ((tokR s a cls size).1.toNat - 1) (zerR s a1 size (tokR s a cls size).1).1.toNat (zerR s a1 size (tokR s a cls size).1).2.2 with
    | .error e => .error e
    | .ok (M, a3) => .ok (fill L M ((zerR s a1 size (tokR s a cls size).1).1.toNat + L.length - 1) (List.replicate size.toNat 0), a3)
theorem rst_zeros : ∀ (z : Nat) (l : List Int), rst (List.replicate z 0 ++ l) = ((rst l).1, (rst l).2.1, (rst l).2.2 + z)
  | 0, l => by simp
  | z + 1, l => by
    rw [List.replicate_succ, List.cons_append]
    have ih := rst_zeros z l
    have e : rst ((0 : Int) :: (List.replicate z 0 ++ l)) = ((rst (List.replicate z 0 ++ l)).1, (rst (List.replicate z 0 ++ l)).2.1, (rst (List.replicate z 0 ++ l)).2.2 + 1) := by simp only [rst, if_true]
    rw [e, ih]; rfl
theorem rst_rep (n : Nat) : rst (List.replicate n (0 : Int)) = ([], [], n) := by
  have := rst_zeros n []
  rw [List.append_nil] at this
  rw [this]; simp [rst]
theorem rst_has : ∀ (k : Nat) (L : List Int) (M : List Nat) (z n : Nat), L.length = k → L ≠ [] → (∀ v ∈ L, v ≠ 0) → M.length = L.length - 1 → L.length + M.sum + z ≤ n → ∃ l : List Int, l.length = n ∧ rst l = (L, M, z) ∧ ∀ v ∈ l, v = 0 ∨ v ∈ L
  | 0, L, M, z, n, hk, h0, hv, hM, hn => absurd (List.length_eq_zero_iff.1 hk) h0
  | k + 1, L, M, z, n, hk, h0, hv, hM, hn => by
    rcases List.eq_nil_or_concat L with h | ⟨L', v, hL⟩
    · exact absurd h h0
    rw [List.concat_eq_append] at hL
    subst hL
    have hv0 : v ≠ 0 := hv v (by simp)
    by_cases h1 : L' = []
    · subst h1
      have hM0 : M = [] := List.length_eq_zero_iff.1 (by simpa using hM)
      subst hM0
      simp only [List.nil_append, List.length_cons, List.length_nil, List.sum_nil] at hn
      refine ⟨List.replicate z 0 ++ v :: List.replicate (n - z - 1) 0, by simp; omega, ?_, fun w hw => ?_⟩
      · rw [rst_zeros]
        have e : rst (v :: List.replicate (n - z - 1) 0) = ([v], [], 0) := by
          have hr := rst_rep (n - z - 1)
          simp only [rst, if_neg hv0, hr, if_true]
        rw [e]; simp
      · rcases List.mem_append.1 hw with h | h
        · exact .inl (List.mem_replicate.1 h).2
        · rcases List.mem_cons.1 h with h | h
          · exact .inr (by simp [h])
          · exact .inl (List.mem_replicate.1 h).2
    · have hp := List.length_pos_iff.2 h1
      rcases List.eq_nil_or_concat M with h | ⟨M', b, hMe⟩
      · rw [h] at hM; simp at hM; omega
      rw [List.concat_eq_append] at hMe
      subst hMe
      simp only [List.length_append, List.length_cons, List.length_nil, List.sum_append, List.sum_cons, List.sum_nil] at hk hM hn
      obtain ⟨l, q1, q2, q3⟩ := rst_has k L' M' b (n - z - 1) (by omega) h1 (fun w hw => hv w (by simp [hw])) (by omega) (by omega)
      refine ⟨List.replicate z 0 ++ v :: l, by simp [q1]; omega, ?_, fun w hw => ?_⟩
      · rw [rst_zeros]
        have e : rst (v :: l) = (L' ++ [v], M' ++ [b], 0) := by
          simp only [rst, if_neg hv0, q2, if_neg h1]
        rw [e]; simp
      · rcases List.mem_append.1 hw with h | h
        · exact .inl (List.mem_replicate.1 h).2
        · rcases List.mem_cons.1 h with h | h
          · exact .inr (by simp [h])
          · rcases q3 w h with h | h
            · exact .inl h
            · exact .inr (by simp [h])
theorem rUe_mono {s : ByteArray} {a v a' : Nat} (h : rUe s a = .ok (v, a')) : a ≤ a' := by
  unfold rUe at h
  split at h
  · cases h
  · split at h
    · cases h
    · injection h with h
      have := (Prod.mk.inj h).2
      omega
theorem rUk_mono {s : ByteArray} {k a v a' : Nat} (h : rUk s k a = .ok (v, a')) : a ≤ a' := by
  unfold rUk at h
  split at h
  · cases h
  · rename_i w b hw
    have := rUe_mono hw
    split at h
    · cases h
    · injection h with h
      have := (Prod.mk.inj h).2
      omega
theorem numR_mono {s : ByteArray} {c a v a' : Nat} (h : numR s c a = .ok (v, a')) : a ≤ a' := by
  unfold numR at h
  split at h
  · unfold rU at h
    split at h
    · cases h
    · injection h with h
      have := (Prod.mk.inj h).2
      omega
  · exact rUk_mono h
theorem tokR_mono (s : ByteArray) (a : Nat) (cls size : Int) : a ≤ (tokR s a cls size).2.2.2 := by
  unfold tokR
  split
  · exact Nat.le_refl _
  · cases hn : numR s cls.toNat a with
    | error e => exact Nat.le_refl _
    | ok x =>
      obtain ⟨v, a'⟩ := x
      have := numR_mono hn
      simp only
      split
      · exact Nat.le_refl _
      · exact this
theorem oneD_0 {β : Type} (f : Nat) (K0 : Option β) (K : List AV → Option β) : oneD [] f K0 K = K0 := rfl
/-- The outcome of reading a block. -/
def BOut (S : Heap) (p : Nat) (s : ByteArray) (a : Nat) (r : Except Int (List Int × Nat)) (o : Option (AV × Heap)) : Prop := match r with
  | .ok (l, a') => ∃ S', o = some (.tup [isl l, .int .i64 0], S') ∧ Rdr S' p s a' ∧ Fr S S' [p]
  | .error e => ∃ S', o = some (.tup [.nils, .int .i64 e], S') ∧ Rdr S' p s a ∧ Fr S S' [p]
section
variable {B : CallF} (hB : Silent B) (k : Nat) {S : Heap} {p : Nat} {s : ByteArray} {a : Nat}
include hB
theorem readTok_c (hr : Rdr S p s a) {cls size : Int} (hc : ¬ (cls < 0 ∨ cls > 4)) (hsz' : sizedI size = true) (he : (tokR s a cls size).2.2.1 ≠ 0 ∨ (tokR s a cls size).1 = 0) :
    BOut S p s a (readR s a cls size) (Cn B (k + 10) f_vblock_Read 0 [.ptr p 0, .int .i64 cls, .int .i64 size] S) := by
  rw [c_vblock_Read _ _ _ _ _ _ (hB.no _ _ _ _ (kn_no (by decide))), T_vblock_Read]
  have hplt := hr.lt
  have hca : cell (.ptr p 0) = true := rfl
  have n2 : ∀ n : Nat, n + 1 + 1 = n + 2 := fun _ => rfl
  have on : (openD S).next = S.next := rfl
  obtain ⟨U, hU⟩ : ∃ U, U = (((openD S).alloc [.ptr p 0]).alloc [.nils]).alloc [.int .i64 0] := ⟨_, rfl⟩
  have un : U.next = S.next + 3 := by rw [hU]; rfl
  have ub : ∀ j, j < S.next → U.blk j = S.blk j := fun j hj => by
    rw [hU, alloc_other _ _ (by show j ≠ S.next + 1 + 1; omega), alloc_other _ _ (by show j ≠ S.next + 1; omega), alloc_other _ _ (by show j ≠ S.next; omega)]; rfl
  have u0 : U.blk S.next = some [.ptr p 0] := by
    rw [hU, alloc_other _ _ (by show S.next ≠ S.next + 1 + 1; omega), alloc_other _ _ (by show S.next ≠ S.next + 1; omega)]; exact alloc_blk (openD S) _
  have u1 : U.blk (S.next + 1) = some [.nils] := by
    rw [hU, alloc_other _ _ (by show S.next + 1 ≠ S.next + 1 + 1; omega)]; exact alloc_blk ((openD S).alloc _) _
  have u2 : U.blk (S.next + 2) = some [.int .i64 0] := by rw [hU]; exact alloc_blk (((openD S).alloc _).alloc _) _
  have ux : U.cx = (S.cx.1, []) := by rw [hU]; rfl
  have hRU : Rdr U p s a := ⟨(ub p hplt).trans hr.blk, by omega, hr.sz, hr.le⟩
  have c1 : ¬ cls < 0 := by omega
  have c2 : ¬ cls > 4 := by omega
  have e1 := vsized_c hB (k + 8) (S := U) size
  rw [hsz'] at e1
  obtain ⟨V, e2, rV, fV⟩ := rcopy_c hB (k + 8) hRU
  have vn := fV.1
  obtain ⟨x, hx⟩ : ∃ x, x = U.next := ⟨_, rfl⟩
  rw [← hx] at e2 rV
  have hxlt := rV.lt
  obtain ⟨bc, hbc⟩ : ∃ bc, bc = V.next := ⟨_, rfl⟩
  obtain ⟨V1, hV1⟩ : ∃ V1, V1 = V.alloc [.nilp] := ⟨_, rfl⟩
  have v1b : V1.blk bc = some [.nilp] := by rw [hV1, hbc]; exact alloc_blk _ _
  have e3 := put1_0' (x := .ptr x 0) v1b
  obtain ⟨W, hW⟩ : ∃ W, W = V1.set bc (some [.ptr x 0]) := ⟨_, rfl⟩
  rw [← hW] at e3
  have wk : ∀ j, j < bc → W.blk j = V.blk j := fun j hj => by rw [hW, set_other _ _ (by omega), hV1, alloc_other _ _ (by omega)]
  have hcx2 : cell (.ptr x 0) = true := rfl
  obtain ⟨P, hP⟩ : ∃ P, P = pushD W f_vblock_Read_1 [.ptr (S.next + 2) 0, .ptr (S.next + 1) 0, .ptr S.next 0, .ptr bc 0] := ⟨_, rfl⟩
  have pk : ∀ j, P.blk j = W.blk j := fun j => by rw [hP]; rfl
  have hRS : RS S p x bc s a P a .nils := by
    refine ⟨?_, ?_, ?_, ?_, ⟨?_, ?_, rV.sz, rV.le⟩, fun j hj => ?_, ?_, ?_, ⟨by omega, by omega⟩⟩
    · rw [pk, wk _ (by omega)]; exact (fV.get (by omega) (by simp)).trans u0
    · rw [pk, wk _ (by omega)]; exact (fV.get (by omega) (by simp)).trans u1
    · rw [pk, wk _ (by omega)]; exact (fV.get (by omega) (by simp)).trans u2
    · rw [pk, hW, set_blk]
    · rw [pk, wk _ (by omega)]; exact rV.blk
    · rw [hP, hW, hV1]; show x < V.next + 1; omega
    · rw [pk, wk _ (by omega)]; exact (fV.get (by omega) (by simp)).trans (ub j hj)
    · rw [hP, hW, hV1]; show bc < V.next + 1; omega
    · have wx : W.cx = (S.cx.1, []) := by rw [hW, hV1]; exact fV.2.1.trans ux
      rw [hP]; unfold pushD; rw [wx]
  obtain ⟨P1, e4, r4, f4⟩ := token_c hB k hRS.rx cls size
  have hRS1 := hRS.fr f4 r4
  have hg : ¬ (cls < 0 ∨ cls > 4 ∨ sizedI size = false) := by rw [hsz']; simp; omega
  by_cases te : (tokR s a cls size).2.2.1 ≠ 0
  · have hrr : readR s a cls size = .error (tokR s a cls size).2.2.1 := by unfold readR; rw [if_neg hg, if_pos te]
    rw [hrr]
    obtain ⟨T0, T1, T2, T3, S', q0, q1, q2, q3, q4, q5, q6, q7, q8, q9, q10, q11⟩ := read_fail (B := B) (k + 9) (fun _ => none) hr hRS1 _ te
    have ze : ((tokR s a cls size).2.2.1 != 0) = true := by simp [te]
    have hcx1 := q6.trans hRS1.cx
    have ffz : fz 40 (.tup [.nils, .int .i64 (tokR s a cls size).2.2.1]) T3 = some (.tup [.nils, .int .i64 (tokR s a cls size).2.2.1], T3) := rfl
    refine ⟨S', ?_, q10, q11⟩
    simp only [zB, decide_true, decide_false, Bool.false_eq_true, if_false, if_true, List.getElem?_cons_zero, List.getElem?_cons_succ, beq_self_eq_true, bne_self_eq_false, Int.reduceBNe, Int.reduceBEq, Int.reduceLT, Int.reduceGT, Int.reduceLE, Int.reduceGE, Nat.reduceAdd, Nat.reduceMul, Nat.reduceLeDiff, hca, on, alloc_next, n2, ← hU, u0, c1, c2, e1, e2, ← hbc, ← hV1, hcx2, List.all_cons, List.all_nil, e3, ← hP, hRS.bc', e4, q0, q1, ze, q2, q3, q4, hcx1, oneD_1, q5, q7, q8, ffz, q9]
  · have te0 : (tokR s a cls size).2.2.1 = 0 := by simpa using te
    have t0 : (tokR s a cls size).1 = 0 := he.resolve_left te
    have hrr : readR s a cls size = .ok (List.replicate size.toNat 0, (tokR s a cls size).2.2.2) := by unfold readR; rw [if_neg hg, if_neg te, if_pos t0]
    rw [hrr]
    obtain ⟨n, hn⟩ := Int.eq_ofNat_of_zero_le (show 0 ≤ size by rcases (sizedI_iff size).1 hsz' with h | h | h <;> omega)
    have hn16 : n ≤ 16 ∧ 4 ≤ n := by rcases (sizedI_iff size).1 hsz' with h | h | h <;> omega
    rw [te0] at e4
    obtain ⟨e5, hRS2⟩ := hRS1.sete
    obtain ⟨P2, hP2⟩ : ∃ P2, P2 = P1.set (S.next + 2) (some [.int .i64 0]) := ⟨_, rfl⟩
    rw [← hP2] at e5 hRS2
    obtain ⟨l, hl⟩ : ∃ l, l = List.replicate size.toNat (0 : Int) := ⟨_, rfl⟩
    rw [← hl]
    have hll : l.length = n := by rw [hl, List.length_replicate, hn]; rfl
    have hlne : l ≠ [] := fun h => by rw [h] at hll; simp at hll; omega
    have his : isl l = .is n (List.replicate n (.int .i64 0)) := by rw [isl_is2 hlne, hll, ints_rep2, hl, hn]; rfl
    obtain ⟨k1, k2, k3, k4⟩ := mk12 (n := n) (by omega)
    have c3 : ((tokR s a cls size).1 == 0) = true := by rw [t0]; rfl
    have z0 : ((0 : Int) != 0) = false := rfl
    obtain ⟨e6, hRS3⟩ := hRS2.setb (isl l)
    obtain ⟨P3, hP3⟩ : ∃ P3, P3 = P2.set (S.next + 1) (some [isl l]) := ⟨_, rfl⟩
    rw [← hP3] at e6 hRS3
    obtain ⟨e7, hRS4⟩ := hRS3.sete
    obtain ⟨P4, hP4⟩ : ∃ P4, P4 = P3.set (S.next + 2) (some [.int .i64 0]) := ⟨_, rfl⟩
    rw [← hP4] at e7 hRS4
    have hle : a ≤ (tokR s a cls size).2.2.2 := tokR_mono s a cls size
    obtain ⟨m, hm⟩ := Nat.le.dest hle
    rw [← hm] at hRS4
    obtain ⟨T', S', q1, q2, q3, q4, q5, q6⟩ := read_end hB (k + 6) (fun _ => none) hr hRS4
    rw [hm] at q5
    have hx4 := hRS4.cx
    rw [his] at e6
    have ffz : ∀ T : Heap, fz 40 (.tup [isl l, .int .i64 0]) T = some (.tup [isl l, .int .i64 0], T) := fun T => fz_tup (fzM_c (fz_isl 38 l T) (fzM_c (fz_int 38 _ 0 _) rfl))
    refine ⟨S', ?_, q5, q6⟩
    rw [hn] at e1 e4 c3 ⊢
    simp only [zB, decide_true, decide_false, Bool.false_eq_true, if_false, if_true, List.getElem?_cons_zero, List.getElem?_cons_succ, beq_self_eq_true, bne_self_eq_false, Int.reduceBNe, Int.reduceBEq, Int.reduceLT, Int.reduceGT, Int.reduceLE, Int.reduceGE, Nat.reduceAdd, Nat.reduceMul, Nat.reduceLeDiff, hca, on, alloc_next, n2, ← hU, u0, c1, c2, e1, e2, ← hbc, ← hV1, hcx2, List.all_cons, List.all_nil, e3, ← hP, hRS.bc', e4, e5, hRS2.be, z0, c3, k1, k2, k3, k4, Int.toNat_natCast, e6, e7, hx4, oneD_1, q1, q2, q3, ffz, q4]
end
section
variable {B : CallF} (hB : Silent B) (k : Nat) {S : Heap}
include hB
theorem possible_c {l : List Int} (hl : Blk l) {aL aM : AV} {dL dM : Nat} (hbL : IL S aL (rst l).1 dL) (hbM : IL S aM (natI (rst l).2.1) dM) : Cn B (k + 1) f_spindleref17_possible 0 [.int .i64 (l.length : Int), .agg [aL, .int .i64 (rZ l : Int), aM]] S = some (.bool true, S) := by
  rw [c_spindleref17_possible _ _ _ _ _ (hB.no _ _ _ _ (kn_no (by decide))), T_spindleref17_possible]
  have hll := hl.len
  have htot := hl.tot
  have hzr := hl.zr
  have hmem := fun v hv => hl.mem (v := v) hv
  have hsum := rst_sum l
  have hZ0 : (rst l).1 = [] → rZ l = 0 := fun h => by unfold rZ; rw [if_pos h]
  obtain ⟨L, hL⟩ : ∃ L, L = (rst l).1 := ⟨_, rfl⟩
  obtain ⟨M, hM⟩ : ∃ M, M = (rst l).2.1 := ⟨_, rfl⟩
  obtain ⟨Z, hZZ⟩ : ∃ Z, Z = rZ l := ⟨_, rfl⟩
  rw [← hL] at htot hzr hmem hsum hZ0 hbL
  rw [← hM] at hzr hsum hbM
  rw [← hZZ] at hzr hZ0 ⊢
  have h1 := hbL.len
  have h2 := hbM.len
  rw [natI_len] at h2
  have c1 : ¬ (L.length : Int) > (l.length : Int) := by omega
  have w1 : (if (IntKind.wrap .i64 ((L.length : Int) - 1)) > 0 then IntKind.wrap .i64 ((L.length : Int) - 1) else 0) = ((L.length - 1 : Nat) : Int) := by
    rw [wr _ (by omega)]; split <;> omega
  have c2 : ((M.length : Int) != ((L.length - 1 : Nat) : Int)) = false := by rw [hsum.2]; simp
  have c3 : ¬ (Z : Int) < 0 := by omega
  have w2 : IntKind.wrap .i64 ((l.length : Int) - (L.length : Int)) = ((l.length - L.length : Nat) : Int) := by rw [wr _ (by omega)]; omega
  have c4 : ¬ (Z : Int) > ((l.length - L.length : Nat) : Int) := by omega
  have hsel : (if ((L.length : Int) == 0) = true then some ([AV.agg [aL, .int .i64 (Z : Int), aM], .int .i64 (L.length : Int), .bool ((Z : Int) != 0)], S) else some ([AV.agg [aL, .int .i64 (Z : Int), aM], .int .i64 (L.length : Int), .bool false], S)) = some ([AV.agg [aL, .int .i64 (Z : Int), aM], .int .i64 (L.length : Int), .bool false], S) := by
    by_cases h0 : L = []
    · have : ((Z : Int) != 0) = false := by rw [hZ0 h0]; rfl
      rw [this, ite_self]
    · rw [if_neg (by simp; exact h0)]
  simp only [zB, decide_true, decide_false, Bool.false_eq_true, if_false, if_true, List.getElem?_cons_zero, List.getElem?_cons_succ, beq_self_eq_true, bne_self_eq_false, Int.reduceBNe, Int.reduceBEq, Int.reduceLT, Int.reduceGT, Int.reduceLE, Int.reduceGE, Nat.reduceAdd, Nat.reduceMul, Nat.reduceLeDiff, List.length_cons, List.length_nil, h1, c1, h2, w1, c2, c3, w2, c4, hsel]
  have hMs : M.sum ≤ Z := by
    by_cases h0 : L = []
    · have : M = [] := List.length_eq_zero_iff.1 (by rw [hsum.2, h0]; rfl)
      rw [this]; simp
    · exact hzr.2 h0
  refine loop_meas (fun o => o = some (AV.bool true, S)) (fun m st => ∃ i left : Nat, i + m = M.length ∧ st = ([.agg [aL, .int .i64 (Z : Int), aM], .int .i64 (L.length : Int), .int .i64 (left : Int), .int .i64 (i : Int)], S) ∧ (M.drop i).sum ≤ left ∧ left ≤ Z) M.length ⟨0, Z, by omega, rfl, by rw [List.drop_zero]; exact hMs, Nat.le_refl _⟩ ?_
  rintro m st ⟨i, left, him, rfl, hsm, hlz⟩
  cases m with
  | succ m =>
    have hi : i < M.length := by omega
    have c5 : (i : Int) < (M.length : Int) := by omega
    have hi' : i < (natI M).length := by rw [natI_len]; exact hi
    obtain ⟨t, cs, o, x1, x2, x3⟩ := hbM.at hi'
    rw [natI_at hi'] at x3
    rw [List.drop_eq_getElem_cons hi, List.sum_cons] at hsm
    have c6 : ¬ ((M[i] : Nat) : Int) < 0 := by omega
    have c7 : ¬ ((M[i] : Nat) : Int) > (left : Int) := by omega
    have w3 : IntKind.wrap .i64 ((left : Int) - ((M[i] : Nat) : Int)) = ((left - M[i] : Nat) : Int) := by rw [wr _ (by omega)]; omega
    have w4 : IntKind.wrap .i64 ((i : Int) + 1) = ((i + 1 : Nat) : Int) := by rw [wr _ (by omega)]; omega
    exact .inr ⟨m, ([.agg [aL, .int .i64 (Z : Int), aM], .int .i64 (L.length : Int), .int .i64 ((left - M[i] : Nat) : Int), .int .i64 ((i + 1 : Nat) : Int)], S), by omega, by simp only [zB, decide_true, decide_false, Bool.false_eq_true, if_false, if_true, List.getElem?_cons_zero, List.getElem?_cons_succ, beq_self_eq_true, bne_self_eq_false, Int.reduceBNe, Int.reduceBEq, Int.reduceLT, Int.reduceGT, Int.reduceLE, Int.reduceGE, Nat.reduceAdd, Nat.reduceMul, Nat.reduceLeDiff, h2, c5, x1, x2, x3, c6, c7, w3, w4], i + 1, left - M[i], by omega, rfl, by omega, by omega⟩
  | zero =>
    have c5 : ¬ ((i : Int) < (M.length : Int)) := by omega
    refine .inl ⟨(0, [.agg [aL, .int .i64 (Z : Int), aM], .int .i64 (L.length : Int)], S), by simp only [zB, decide_true, decide_false, Bool.false_eq_true, if_false, if_true, List.getElem?_cons_zero, List.getElem?_cons_succ, beq_self_eq_true, bne_self_eq_false, Int.reduceBNe, Int.reduceBEq, Int.reduceLT, Int.reduceGT, Int.reduceLE, Int.reduceGE, Nat.reduceAdd, Nat.reduceMul, Nat.reduceLeDiff, h2, c5], ?_⟩
    simp only [zB, decide_true, decide_false, Bool.false_eq_true, if_false, if_true, List.getElem?_cons_zero, List.getElem?_cons_succ, beq_self_eq_true, bne_self_eq_false, Int.reduceBNe, Int.reduceBEq, Int.reduceLT, Int.reduceGT, Int.reduceLE, Int.reduceGE, Nat.reduceAdd, Nat.reduceMul, Nat.reduceLeDiff, sel_0]
    refine loop_meas (fun o => o = some (AV.bool true, S)) (fun m st => ∃ i : Nat, i + m = L.length ∧ st = ([.agg [aL, .int .i64 (Z : Int), aM], .int .i64 (L.length : Int), .int .i64 (i : Int)], S)) L.length ⟨0, by omega, rfl⟩ ?_
    rintro m st ⟨i, him, rfl⟩
    cases m with
    | succ m =>
      have hi : i < L.length := by omega
      have c6 : (i : Int) < (L.length : Int) := by omega
      obtain ⟨t, cs, o, x1, x2, x3⟩ := hbL.at hi
      have hv0 := (hmem L[i] (List.getElem_mem hi)).1
      have c7 : (L[i] == 0) = false := by simp [hv0]
      have w4 : IntKind.wrap .i64 ((i : Int) + 1) = ((i + 1 : Nat) : Int) := by rw [wr _ (by omega)]; omega
      exact .inr ⟨m, ([.agg [aL, .int .i64 (Z : Int), aM], .int .i64 (L.length : Int), .int .i64 ((i + 1 : Nat) : Int)], S), by omega, by simp only [zB, decide_true, decide_false, Bool.false_eq_true, if_false, if_true, List.getElem?_cons_zero, List.getElem?_cons_succ, beq_self_eq_true, bne_self_eq_false, Int.reduceBNe, Int.reduceBEq, Int.reduceLT, Int.reduceGT, Int.reduceLE, Int.reduceGE, Nat.reduceAdd, Nat.reduceMul, Nat.reduceLeDiff, c6, x1, x2, x3, c7, w4], i + 1, by omega, rfl⟩
    | zero =>
      have c6 : ¬ ((i : Int) < (L.length : Int)) := by omega
      exact .inl ⟨(0, [], S), by simp only [zB, decide_true, decide_false, Bool.false_eq_true, if_false, if_true, List.getElem?_cons_zero, List.getElem?_cons_succ, beq_self_eq_true, bne_self_eq_false, Int.reduceBNe, Int.reduceBEq, Int.reduceLT, Int.reduceGT, Int.reduceLE, Int.reduceGE, Nat.reduceAdd, Nat.reduceMul, Nat.reduceLeDiff, c6], by simp only [zB, decide_true, decide_false, Bool.false_eq_true, if_false, if_true, List.getElem?_cons_zero, List.getElem?_cons_succ, beq_self_eq_true, bne_self_eq_false, Int.reduceBNe, Int.reduceBEq, Int.reduceLT, Int.reduceGT, Int.reduceLE, Int.reduceGE, Nat.reduceAdd, Nat.reduceMul, Nat.reduceLeDiff, sel_0]⟩
theorem block1_c {l : List Int} (hl : Blk l) {aL aM : AV} {dL dM : Nat} (hbL : IL S aL (rst l).1 dL) (hbM : IL S aM (natI (rst l).2.1) dM) : ∃ S', Cn B (k + 2) f_spindleref17_Block 0 [.int .i64 (l.length : Int), .agg [aL, .int .i64 (rZ l : Int), aM]] S = some (.tup [isl l, .int .i64 0], S') ∧ Fr S S' [] := by
  rw [c_spindleref17_Block _ _ _ _ _ (hB.no _ _ _ _ (kn_no (by decide))), T_spindleref17_Block]
  have hll := hl.len
  have htot := hl.tot
  have hzr := hl.zr
  have hmem := fun v hv => hl.mem (v := v) hv
  have hsum := rst_sum l
  have hfill := fill_rst l
  have e1 := rsized1_c hB k (S := S) (l.length : Int)
  rw [hl.sz] at e1
  have hrl : rngd (rst l).1 = true := by
    unfold rngd; rw [List.all_eq_true]; intro v hv; have := hmem v hv; simp; omega
  have hZ : (rst l).1 ≠ [] → rZ l = (rst l).2.2 + (rst l).2.1.sum := fun h => by unfold rZ; rw [if_neg h]
  have hZ0 : (rst l).1 = [] → rZ l = 0 := fun h => by unfold rZ; rw [if_pos h]
  have hz0 := rst_zero (l := l)
  have e3 := possible_c hB k hl hbL hbM
  obtain ⟨L, hL⟩ : ∃ L, L = (rst l).1 := ⟨_, rfl⟩
  obtain ⟨M, hM⟩ : ∃ M, M = (rst l).2.1 := ⟨_, rfl⟩
  obtain ⟨z, hz⟩ : ∃ z, z = (rst l).2.2 := ⟨_, rfl⟩
  obtain ⟨Z, hZZ⟩ : ∃ Z, Z = rZ l := ⟨_, rfl⟩
  rw [← hL] at htot hzr hmem hsum hfill hrl hZ hZ0 hz0 hbL
  rw [← hM] at hzr hsum hfill hZ hbM
  rw [← hz] at hsum hfill hZ
  rw [← hZZ] at hzr hZ hZ0 e3 ⊢
  have e2 := ranged1_c hB k hbL (by omega)
  rw [hrl] at e2
  have h1 := hbL.len
  obtain ⟨k1, k2, k3, k4⟩ := mk12 (n := l.length) (by omega)
  obtain ⟨d, hd⟩ : ∃ d, d = S.next := ⟨_, rfl⟩
  obtain ⟨S1, hS1⟩ : ∃ S1, S1 = S.alloc (ints (List.replicate l.length 0)) := ⟨_, rfl⟩
  have b1 : S1.blk d = some (ints (List.replicate l.length 0)) := by rw [hS1, hd]; exact alloc_blk _ _
  have n1 : d < S1.next := by rw [hS1, hd]; exact Nat.lt_succ_self _
  have f1 : Fr S S1 [] := by rw [hS1]; exact Fr.alloc _ _ _
  have hlne : l ≠ [] := fun h => by rw [h] at hll; simp at hll
  have fin : ∀ T : Heap, T.blk d = some (ints l) → d < T.next → Fr S T [] → ∃ S', fz 40 (.tup [.hs d 0 l.length 1, .int .i64 0]) T = some (.tup [isl l, .int .i64 0], S') ∧ Fr S S' [] := fun T hb hn hF => by
    have hR : HR T l d := fun _ => ⟨hb, hn⟩
    have hvv : hv l d = .hs d 0 l.length 1 := by unfold hv; rw [if_neg hlne]
    have e := fz_hv 37 hR
    rw [hvv] at e
    exact ⟨_, fz_tup (fzM_c e (fzM_c (fz_int 38 _ 0 _) rfl)), hF.kill (fun _ => .inr (by omega))⟩
  obtain ⟨at0, hat0⟩ : ∃ at0 : Int, IntKind.wrap .i64 (IntKind.wrap .i64 ((Z : Int) + (L.length : Int)) - 1) = at0 := ⟨_, rfl⟩
  simp only [zB, decide_true, decide_false, Bool.false_eq_true, if_false, if_true, List.getElem?_cons_zero, List.getElem?_cons_succ, beq_self_eq_true, bne_self_eq_false, Int.reduceBNe, Int.reduceBEq, Int.reduceLT, Int.reduceGT, Int.reduceLE, Int.reduceGE, Nat.reduceAdd, Nat.reduceMul, Nat.reduceLeDiff, List.length_cons, List.length_nil, e1, e2, take3, e3, h1, k1, k2, k3, k4, Int.toNat_natCast, ints_rep2, ← hd, ← hS1, hat0]
  by_cases h0 : L = []
  · rw [← hz0 h0] at b1
    obtain ⟨S', e4, f4⟩ := fin S1 b1 n1 f1
    have hL0 : L.length = 0 := by rw [h0]; rfl
    refine loop_meas (fun o => ∃ S', o = some (AV.tup [isl l, .int .i64 0], S') ∧ Fr S S' []) (fun m st => m = 0 ∧ st = ([.agg [aL, .int .i64 (Z : Int), aM], .hs d 0 l.length 1, .int .i64 at0, .int .i64 0], S1)) 0 ⟨rfl, rfl⟩ ?_
    rintro m st ⟨_, rfl⟩
    have h1' := (hbL.fr f1 (by simp)).len
    have c1 : ¬ ((0 : Int) < (L.length : Int)) := by omega
    exact .inl ⟨(0, [.hs d 0 l.length 1], S1), by simp only [zB, decide_true, decide_false, Bool.false_eq_true, if_false, if_true, List.getElem?_cons_zero, List.getElem?_cons_succ, beq_self_eq_true, bne_self_eq_false, Int.reduceBNe, Int.reduceBEq, Int.reduceLT, Int.reduceGT, Int.reduceLE, Int.reduceGE, Nat.reduceAdd, Nat.reduceMul, Nat.reduceLeDiff, h1, c1], S', by simp only [zB, decide_true, decide_false, Bool.false_eq_true, if_false, if_true, List.getElem?_cons_zero, List.getElem?_cons_succ, beq_self_eq_true, bne_self_eq_false, Int.reduceBNe, Int.reduceBEq, Int.reduceLT, Int.reduceGT, Int.reduceLE, Int.reduceGE, Nat.reduceAdd, Nat.reduceMul, Nat.reduceLeDiff, sel_0, e4], f4⟩
  · have hLp := List.length_pos_iff.2 h0
    have hZe := hZ h0
    have hfl := hfill h0
    have w3 : at0 = ((z + (L.length - 1) + M.sum : Nat) : Int) := by
      rw [← hat0, wr ((Z : Int) + (L.length : Int)) (by omega), wr _ (by omega)]; omega
    rw [w3]
    refine loop_meas (fun o => ∃ S', o = some (AV.tup [isl l, .int .i64 0], S') ∧ Fr S S' []) (fun m st => ∃ (i : Nat) (T : Heap) (out : List Int) (ps : Int), i + m = L.length ∧ st = ([.agg [aL, .int .i64 (Z : Int), aM], .hs d 0 l.length 1, .int .i64 ps, .int .i64 (i : Int)], T) ∧
        T.blk d = some (ints out) ∧ out.length = l.length ∧ d < T.next ∧ Fr S T [] ∧ (m ≠ 0 → ps = ((z + (m - 1) + (M.drop i).sum : Nat) : Int)) ∧ fill (L.drop i) (M.drop i) (z + (m - 1) + (M.drop i).sum) out = l) L.length
      ⟨0, S1, List.replicate l.length 0, _, by omega, rfl, b1, List.length_replicate, n1, f1, fun _ => rfl, hfl⟩ ?_
    rintro m st ⟨i, T, out, ps, him, rfl, hb, hol, hdT, hF, hps, hfi⟩
    have hbLT := hbL.fr hF (by simp)
    cases m with
    | zero =>
      have c6 : ¬ ((i : Int) < (L.length : Int)) := by omega
      rw [List.drop_eq_nil_of_le (by omega), fill] at hfi
      rw [hfi] at hb
      obtain ⟨S', e5, f5⟩ := fin T hb hdT hF
      exact .inl ⟨(0, [.hs d 0 l.length 1], T), by simp only [zB, decide_true, decide_false, Bool.false_eq_true, if_false, if_true, List.getElem?_cons_zero, List.getElem?_cons_succ, beq_self_eq_true, bne_self_eq_false, Int.reduceBNe, Int.reduceBEq, Int.reduceLT, Int.reduceGT, Int.reduceLE, Int.reduceGE, Nat.reduceAdd, Nat.reduceMul, Nat.reduceLeDiff, h1, c6], S', by simp only [zB, decide_true, decide_false, Bool.false_eq_true, if_false, if_true, List.getElem?_cons_zero, List.getElem?_cons_succ, beq_self_eq_true, bne_self_eq_false, Int.reduceBNe, Int.reduceBEq, Int.reduceLT, Int.reduceGT, Int.reduceLE, Int.reduceGE, Nat.reduceAdd, Nat.reduceMul, Nat.reduceLeDiff, sel_0, e5], f5⟩
    | succ m =>
      have hi : i < L.length := by omega
      have c6 : (i : Int) < (L.length : Int) := by omega
      have hps := hps (by omega)
      rw [Nat.add_sub_cancel] at hps hfi
      subst hps
      obtain ⟨t, cs, o, x1, x2, x3⟩ := hbLT.at hi
      have hdr : (M.drop i).sum ≤ M.sum := by
        have := List.take_append_drop i M
        calc (M.drop i).sum ≤ (M.take i).sum + (M.drop i).sum := Nat.le_add_left _ _
          _ = M.sum := by rw [← List.sum_append, this]
      have hpos : z + m + (M.drop i).sum < l.length := by omega
      have e5 := idxI2 d l.length hpos
      have e6 := putI2 L[i] hb (i := z + m + (M.drop i).sum) (by omega)
      obtain ⟨T1, hT1⟩ : ∃ T1, T1 = T.set d (some (ints (out.set (z + m + (M.drop i).sum) L[i]))) := ⟨_, rfl⟩
      rw [← hT1] at e6
      have b2 : T1.blk d = some (ints (out.set (z + m + (M.drop i).sum) L[i])) := by rw [hT1, set_blk]
      have n2 : d < T1.next := by rw [hT1]; exact hdT
      have f2 : Fr S T1 [] := by rw [hT1]; exact hF.set (.inr (by omega)) _
      have h2 := (hbM.fr f2 (by simp)).len
      rw [natI_len] at h2
      have w4 : IntKind.wrap .i64 ((i : Int) + 1) = ((i + 1 : Nat) : Int) := by rw [wr _ (by omega)]; omega
      rw [List.drop_eq_getElem_cons hi, fill] at hfi
      by_cases hiM : i < M.length
      · have c7 : (i : Int) < (M.length : Int) := by omega
        have hi' : i < (natI M).length := by rw [natI_len]; exact hiM
        obtain ⟨t2, cs2, o2, y1, y2, y3⟩ := (hbM.fr f2 (by simp)).at hi'
        rw [natI_at hi'] at y3
        have hsd := sum_drop2 M hiM
        have w5 : IntKind.wrap .i64 (((z + m + (M.drop i).sum : Nat) : Int) - IntKind.wrap .i64 (1 + ((M[i] : Nat) : Int))) = ((z + (m - 1) + (M.drop (i + 1)).sum : Nat) : Int) := by
          rw [wr (1 + ((M[i] : Nat) : Int)) (by omega), wr _ (by omega)]; omega
        refine .inr ⟨m, ([.agg [aL, .int .i64 (Z : Int), aM], .hs d 0 l.length 1, .int .i64 ((z + (m - 1) + (M.drop (i + 1)).sum : Nat) : Int), .int .i64 ((i + 1 : Nat) : Int)], T1), by omega, by simp only [zB, decide_true, decide_false, Bool.false_eq_true, if_false, if_true, List.getElem?_cons_zero, List.getElem?_cons_succ, beq_self_eq_true, bne_self_eq_false, Int.reduceBNe, Int.reduceBEq, Int.reduceLT, Int.reduceGT, Int.reduceLE, Int.reduceGE, Nat.reduceAdd, Nat.reduceMul, Nat.reduceLeDiff, h1, c6, x1, x2, x3, e5, e6, h2, c7, y1, y2, y3, w5, w4], i + 1, T1, _, _, by omega, rfl, b2, by rw [List.length_set]; exact hol, n2, f2, fun _ => rfl, ?_⟩
        rw [List.drop_eq_getElem_cons hiM, List.tail_cons, List.headD_cons, List.sum_cons] at hfi
        rw [show z + m + (M[i] + (M.drop (i + 1)).sum) - 1 - M[i] = z + (m - 1) + (M.drop (i + 1)).sum by omega] at hfi
        rw [hsd]; exact hfi
      · have c7 : ¬ (i : Int) < (M.length : Int) := by omega
        have hm0 : m = 0 := by omega
        refine .inr ⟨m, ([.agg [aL, .int .i64 (Z : Int), aM], .hs d 0 l.length 1, .int .i64 ((z + m + (M.drop i).sum : Nat) : Int), .int .i64 ((i + 1 : Nat) : Int)], T1), by omega, by simp only [zB, decide_true, decide_false, Bool.false_eq_true, if_false, if_true, List.getElem?_cons_zero, List.getElem?_cons_succ, beq_self_eq_true, bne_self_eq_false, Int.reduceBNe, Int.reduceBEq, Int.reduceLT, Int.reduceGT, Int.reduceLE, Int.reduceGE, Nat.reduceAdd, Nat.reduceMul, Nat.reduceLeDiff, h1, c6, x1, x2, x3, e5, e6, h2, c7, w4], i + 1, T1, _, _, by omega, rfl, b2, by rw [List.length_set]; exact hol, n2, f2, fun h => absurd hm0 h, ?_⟩
        rw [List.drop_eq_nil_of_le (show L.length ≤ i + 1 by omega), fill] at hfi ⊢
        exact hfi
end
end Go.Ab.tV
