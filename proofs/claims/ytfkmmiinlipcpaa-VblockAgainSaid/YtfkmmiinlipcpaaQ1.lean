/- Part 1 of what the statement needs; no condition beyond what each theorem says. -/
import Derived.Test.YtfkmmiinlipcpaaQLB
set_option maxRecDepth 100000
set_option linter.unusedSimpArgs false
set_option linter.unusedVariables false
set_option linter.unusedSectionVars false
namespace Go.Ab.tV
open Go Go.Proofs
theorem bloop {step : LSt → Option (LSt ⊕ (Nat × LSt))} {s : LSt} {α : Type} {f : Nat × LSt → Option α} :
    bO (ctlV.loop step s) f = (match step s with | some (.inl s') => bO (ctlV.loop step s') f | some (.inr x) => f x | none => none) := by
  show bO (loopW step s) f = _
  cases h : step s with
  | none =>
    have : loopW step s = none := by
      unfold loopW
      rw [dif_neg]
      rintro ⟨x, hx⟩
      cases hx with
      | done k => rw [h] at k; cases k
      | cont k _ => rw [h] at k; cases k
    rw [this]; rfl
  | some y =>
    cases y with
    | inl s' => simp only; rw [loopW_cont h]; rfl
    | inr x => simp only; rw [loopW_done h]; rfl
theorem loop_meas {step : LSt → Option (LSt ⊕ (Nat × LSt))} {α : Type} {f : Nat × LSt → Option α} {s0 : LSt} (W : Option α → Prop) (P : Nat → LSt → Prop) (m0 : Nat) (h0 : P m0 s0)
    (hs : ∀ m s, P m s → (∃ x, step s = some (.inr x) ∧ W (f x)) ∨ (∃ m' s', m' < m ∧ step s = some (.inl s') ∧ P m' s')) : W (bO (ctlV.loop step s0) f) := by
  induction m0 using Nat.strongRecOn generalizing s0 with
  | ind m ih =>
    rcases hs m s0 h0 with ⟨x, h1, h2⟩ | ⟨m', s', h1, h2, h3⟩
    · rw [bloop, h1]; exact h2
    · rw [bloop, h2]; exact ih m' h1 h3
def Fr (S S' : Heap) (l : List Nat) : Prop := S.next ≤ S'.next ∧ S'.cx = S.cx ∧ ∀ j, j < S.next → j ∉ l → S'.blk j = S.blk j
theorem Fr.refl (S : Heap) (l : List Nat) : Fr S S l := ⟨Nat.le_refl _, rfl, fun _ _ _ => rfl⟩
theorem Fr.trans {S T U : Heap} {l l' : List Nat} (h1 : Fr S T l) (h2 : Fr T U l') (h : ∀ j ∈ l', j ∈ l ∨ S.next ≤ j) : Fr S U l :=
  ⟨Nat.le_trans h1.1 h2.1, h2.2.1.trans h1.2.1, fun j hj hn => (h2.2.2 j (Nat.lt_of_lt_of_le hj h1.1) fun hm => by rcases h j hm with h | h; exact hn h; omega).trans (h1.2.2 j hj hn)⟩
theorem Fr.weak {S T : Heap} {l l' : List Nat} (h : Fr S T l) (hl : ∀ j ∈ l, j ∈ l' ∨ S.next ≤ j) : Fr S T l' := (Fr.refl S l').trans h hl
theorem Fr.nil {S T : Heap} {l : List Nat} (h : Fr S T []) : Fr S T l := h.weak fun j hj => by simp at hj
theorem Fr.alloc (S : Heap) (c : List AV) (l : List Nat) : Fr S (S.alloc c) l := ⟨Nat.le_succ _, rfl, fun j hj _ => by simp only [Heap.alloc]; rw [if_neg (by omega)]⟩
theorem Fr.set {S T : Heap} {l : List Nat} (h : Fr S T l) {i : Nat} (hi : i ∈ l ∨ S.next ≤ i) (c : Option (List AV)) : Fr S (T.set i c) l :=
  ⟨h.1, h.2.1, fun j hj hn => by
    have : ¬ j = i := fun e => by subst e; rcases hi with h | h; exact hn h; omega
    simp only [Heap.set]; rw [if_neg this]; exact h.2.2 j hj hn⟩
theorem Fr.alloc' {S T : Heap} {l : List Nat} (h : Fr S T l) (c : List AV) : Fr S (T.alloc c) l := h.trans (Fr.alloc T c []) (fun j hj => by simp at hj)
theorem Fr.get {S T : Heap} {l : List Nat} (h : Fr S T l) {j : Nat} (hj : j < S.next) (hn : j ∉ l) : T.blk j = S.blk j := h.2.2 j hj hn
theorem set_next (S : Heap) (i : Nat) (c : Option (List AV)) : (S.set i c).next = S.next := (rfl)
theorem alloc_next (S : Heap) (c : List AV) : (S.alloc c).next = S.next + 1 := (rfl)
theorem alloc_blk (S : Heap) (c : List AV) : (S.alloc c).blk S.next = some c := by simp [Heap.alloc]
theorem set_blk (S : Heap) (i : Nat) (c : Option (List AV)) : (S.set i c).blk i = c := by simp [Heap.set]
theorem set_other (S : Heap) {i j : Nat} (c : Option (List AV)) (h : j ≠ i) : (S.set i c).blk j = S.blk j := by simp [Heap.set, h]
theorem alloc_other (S : Heap) {j : Nat} (c : List AV) (h : j ≠ S.next) : (S.alloc c).blk j = S.blk j := by simp [Heap.alloc, h]
theorem putV_p {i o : Nat} {vs cs : List AV} {S : Heap} (h : S.blk i = some cs) (hl : o + vs.length ≤ cs.length) : putV (.ptr i o) vs S = some (S.set i (some (setCells cs o vs))) := by
  simp only [putV, h, if_pos hl]
theorem aShl (k : IntKind) (x : Int) (y : Nat) : aShift .shl k x (y : Int) = some (.int k (shlI k x y)) := by
  unfold aShift; rw [if_neg (by omega)]
theorem aShr (k : IntKind) (x : Int) (y : Nat) : aShift .shr k x (y : Int) = some (.int k (shrI k x y)) := by
  unfold aShift; rw [if_neg (by omega)]
theorem ba_get (s : ByteArray) (i : Nat) : s[i]? = s.data[i]? := by
  by_cases h : i < s.size
  · rw [getElem?_pos s i h, getElem?_pos s.data i h]; rfl
  · rw [getElem?_neg s i h, getElem?_neg s.data i h]
/-- The functions of which something is known beforehand, computed by the kernel, and for which arguments. -/
def knownF : List Nat := [f_spindlelaw18_known, f_spindlelaw20_known, f_spindlelaw34_awake, f_spindleref18_pairs, f_vlc_cut, f_spindleref18_cut, f_vlc_Pair, f_spindleref18_Pair, f_spindleref18_Symbol]
def knA (f : Nat) (args : List AV) : Bool := match args with
  | [] => decide (f ∈ [f_spindlelaw18_known, f_spindlelaw20_known, f_spindlelaw34_awake, f_spindleref18_pairs])
  | [.int .i64 n] => (decide (f ∈ [f_vlc_cut, f_spindleref18_cut]) && decide (0 ≤ n) && decide (n ≤ 15)) || (decide (f ∈ [f_vlc_Pair, f_spindleref18_Pair]) && decide (0 ≤ n) && decide (n ≤ 61))
  | [.int .i64 a, .int .i64 b] => decide (f ∈ [f_spindleref18_Symbol]) && decide (0 ≤ a) && decide (a ≤ 16) && decide (0 ≤ b) && decide (b ≤ 3)
  | _ => false
def kn (f : Nat) (args : List AV) : Bool := decide (f ∈ knownF) && knA f args
theorem kn_no {f : Nat} {args : List AV} (h : f ∉ knownF) : kn f args = false := by simp [kn, h]
/-- What is known beforehand: of the known calls what the kernel computes, of others nothing. -/
structure Silent (B : CallF) : Prop where
  no : ∀ f way args S, kn f args = false → B f way args S = none
  yes : ∀ f args S, kn f args = true → B f 0 args S = locC (tabN (rows (ctlF 1000)) 60) f 0 args S
noncomputable def chk (f : Nat) (args : List AV) (v : AV) : Bool := (match tabN (rows (ctlF 1000)) 60 f 0 args S0 with | some r => r.1.beq v | none => false) && noId v && noIdL args && kn f args
theorem chk_c {B : CallF} (hB : Silent B) {f : Nat} {args : List AV} {v : AV} (h : chk f args v = true) (k : Nat) (S : Heap) : Cn B k f 0 args S = some (v, S) := by
  simp only [chk, Bool.and_eq_true] at h
  obtain ⟨⟨⟨h1, h2⟩, h3⟩, h4⟩ := h
  have hb : B f 0 args S = some (v, S) := by
    rw [hB.yes _ _ _ h4]
    unfold locC
    rw [if_pos h3]
    split at h1
    · rename_i r hr
      rw [hr]
      have := AV.beq_eq _ _ h1
      simp only [this, h2, if_true]
    · cases h1
  cases k with
  | zero => exact hb
  | succ k => simp only [Cn, callN, hb]
structure Rdr (S : Heap) (p : Nat) (s : ByteArray) (a : Nat) : Prop where
  blk : S.blk p = some [.str s, .int .i64 (a : Int)]
  lt : p < S.next
  sz : s.size ≤ 1099511627776
  le : a ≤ 8 * s.size
theorem Rdr.fr {S T : Heap} {p : Nat} {s : ByteArray} {a : Nat} {l : List Nat} (h : Rdr S p s a) (f : Fr S T l) (hp : p ∉ l) : Rdr T p s a :=
  ⟨(f.get h.lt hp).trans h.blk, Nat.lt_of_lt_of_le h.lt f.1, h.sz, h.le⟩
theorem Rdr.put {S : Heap} {p : Nat} {s : ByteArray} {a : Nat} (h : Rdr S p s a) (x : Int) : putV (.ptr p 1) [.int .i64 x] S = some (S.set p (some [.str s, .int .i64 x])) := by
  rw [putV_p h.blk (by simp)]; rfl
theorem Rdr.set {S : Heap} {p : Nat} {s : ByteArray} {a : Nat} (h : Rdr S p s a) {a' : Nat} (ha : a' ≤ 8 * s.size) : Rdr (S.set p (some [.str s, .int .i64 (a' : Int)])) p s a' :=
  ⟨set_blk _ _ _, h.lt, h.sz, ha⟩
section
variable {B : CallF} (hB : Silent B) (k : Nat) {S : Heap} {p : Nat} {s : ByteArray} {a : Nat} (h : Rdr S p s a)
include hB h
theorem left_c : Cn B (k + 1) f_bits_Reader_Left 0 [.ptr p 0] S = some (.int .i64 ((8 * s.size - a : Nat) : Int), S) := by
  rw [c_bits_Reader_Left _ _ _ _ (hB.no _ _ _ _ (kn_no (by decide))), T_bits_Reader_Left]
  have := h.sz
  have := h.le
  have w1 : IntKind.wrap .i64 (8 * (s.size : Int)) = 8 * s.size := wr _ (by omega)
  have w2 : IntKind.wrap .i64 (8 * (s.size : Int) - a) = ((8 * s.size - a : Nat) : Int) := by rw [wr _ (by omega)]; omega
  simp only [zB, decide_true, decide_false, Bool.false_eq_true, if_false, if_true, List.getElem?_cons_zero, List.getElem?_cons_succ, beq_self_eq_true, bne_self_eq_false, Int.reduceBNe, Int.reduceBEq, Int.reduceLT, Int.reduceGT, Int.reduceLE, Int.reduceGE, Nat.reduceAdd, Nat.reduceMul, Nat.reduceLeDiff, h.blk, w1, w2]
theorem pos_c : Cn B (k + 1) f_bits_Reader_Pos 0 [.ptr p 0] S = some (.int .i64 (a : Int), S) := by
  rw [c_bits_Reader_Pos _ _ _ _ (hB.no _ _ _ _ (kn_no (by decide))), T_bits_Reader_Pos]
  simp only [zB, decide_true, decide_false, Bool.false_eq_true, if_false, if_true, List.getElem?_cons_zero, List.getElem?_cons_succ, beq_self_eq_true, bne_self_eq_false, Int.reduceBNe, Int.reduceBEq, Int.reduceLT, Int.reduceGT, Int.reduceLE, Int.reduceGE, Nat.reduceAdd, Nat.reduceMul, Nat.reduceLeDiff, h.blk]
theorem u_ok (n : Nat) (hn : n ≤ 64) (hL : a + n ≤ 8 * s.size) :
    ∃ S', Cn B (k + 2) f_bits_Reader_U 0 [.ptr p 0, .int .i64 (n : Int)] S = some (.tup [.int .u64 ((num s a n : Nat) : Int), .int .i64 0], S') ∧ Rdr S' p s (a + n) ∧ Fr S S' [p] := by
  rw [c_bits_Reader_U _ _ _ _ _ (hB.no _ _ _ _ (kn_no (by decide))), T_bits_Reader_U]
  have e1 := left_c hB k h
  have c1 : ¬ ((n : Int) < 0) := by omega
  have c2 : ¬ ((n : Int) > 64) := by omega
  have c3 : ¬ ((n : Int) > ((8 * s.size - a : Nat) : Int)) := by omega
  simp only [zB, decide_true, decide_false, Bool.false_eq_true, if_false, if_true, List.getElem?_cons_zero, List.getElem?_cons_succ, beq_self_eq_true, bne_self_eq_false, Int.reduceBNe, Int.reduceBEq, Int.reduceLT, Int.reduceGT, Int.reduceLE, Int.reduceGE, Nat.reduceAdd, Nat.reduceMul, Nat.reduceLeDiff, c1, c2, e1, c3]
  refine loop_meas (fun o => ∃ S', o = some (AV.tup [.int .u64 ((num s a n : Nat) : Int), .int .i64 0], S') ∧ Rdr S' p s (a + n) ∧ Fr S S' [p])
    (fun m st => ∃ d T, d + m = n ∧ st = ([.ptr p 0, .int .i64 (m : Int), .int .u64 ((num s a d : Nat) : Int)], T) ∧ Rdr T p s (a + d) ∧ Fr S T [p]) n ⟨0, S, by omega, by simp [num], h, Fr.refl S _⟩ ?_
  rintro m st ⟨d, T, hd, rfl, hT, hF⟩
  by_cases hm : m = 0
  · subst hm
    have : d = n := by omega
    subst this
    have c4 : ¬ (((0 : Nat) : Int) > 0) := by omega
    refine .inl ⟨(0, [.int .u64 ((num s a d : Nat) : Int)], T), by simp only [zB, decide_true, decide_false, Bool.false_eq_true, if_false, if_true, List.getElem?_cons_zero, List.getElem?_cons_succ, beq_self_eq_true, bne_self_eq_false, Int.reduceBNe, Int.reduceBEq, Int.reduceLT, Int.reduceGT, Int.reduceLE, Int.reduceGE, Nat.reduceAdd, Nat.reduceMul, Nat.reduceLeDiff, c4], T, by simp only [zB, decide_true, decide_false, Bool.false_eq_true, if_false, if_true, List.getElem?_cons_zero, List.getElem?_cons_succ, beq_self_eq_true, bne_self_eq_false, Int.reduceBNe, Int.reduceBEq, Int.reduceLT, Int.reduceGT, Int.reduceLE, Int.reduceGE, Nat.reduceAdd, Nat.reduceMul, Nat.reduceLeDiff, sel], hT, hF⟩
  · have hsz := h.sz
    have hle := hT.le
    have c4 : (m : Int) > 0 := by omega
    obtain ⟨b, hb⟩ : ∃ b, s.data[(a + d) / 8]? = some b := by
      have : (a + d) / 8 < s.data.size := by have : s.size = s.data.size := rfl; omega
      exact ⟨_, Array.getElem?_eq_getElem this⟩
    obtain ⟨r, hr⟩ : ∃ r, r = (a + d) % 8 := ⟨_, rfl⟩
    obtain ⟨kk, hk⟩ : ∃ kk, kk = min (8 - r) m := ⟨_, rfl⟩
    have w3 : IntKind.wrap .i64 (8 - Int.tmod ((a + d : Nat) : Int) 8) = ((8 - r : Nat) : Int) := by rw [tmodL, ← hr, wr _ (by omega)]; omega
    have w4 : (if ((8 - r : Nat) : Int) < (m : Int) then ((8 - r : Nat) : Int) else (m : Int)) = (kk : Int) := by split <;> omega
    have w5 : IntKind.wrap .i64 (8 - ((8 - r : Nat) : Int)) = (r : Int) := by rw [wr _ (by omega)]; omega
    have w6 : IntKind.wrap .i64 (8 - (kk : Int)) = ((8 - kk : Nat) : Int) := by rw [wr _ (by omega)]; omega
    have w7 : IntKind.wrap .i64 (Int.tdiv ((a + d : Nat) : Int) 8) = (((a + d) / 8 : Nat) : Int) := by rw [tdivL, wr _ (by omega)]
    have w8 : (0 : Int) ≤ (((a + d) / 8 : Nat) : Int) := by omega
    have w9 : IntKind.wrap .i64 (((a + d : Nat) : Int) + (kk : Int)) = ((a + (d + kk) : Nat) : Int) := by rw [wr _ (by omega)]; omega
    have w10 : IntKind.wrap .i64 ((m : Int) - (kk : Int)) = ((m - kk : Nat) : Int) := by rw [wr _ (by omega)]; omega
    have hnum := num_lt s a d
    have hbyte := num_lt s (a + d) kk
    have hp1 : num s a d * 2 ^ kk + num s (a + d) kk < 18446744073709551616 := by
      have h1 := num_add s a d kk
      have h2 := num_lt s a (d + kk)
      have h3 : 2 ^ (d + kk) ≤ 2 ^ 64 := Nat.pow_le_pow_right (by omega) (by omega)
      omega
    have hv : orI .u64 (shlI .u64 ((num s a d : Nat) : Int) (kk : Int)) (IntKind.wrap .u64 (shrI .u8 (shlI .u8 ((UInt8.toNat b : Nat) : Int) (r : Int)) ((8 - kk : Nat) : Int))) = ((num s a (d + kk) : Nat) : Int) := by
      have hb2 := num_byte hb kk (by omega)
      rw [← hr] at hb2
      have hlt : num s (a + d) kk < 256 := by
        rw [hb2]; exact Nat.lt_of_le_of_lt (Nat.div_le_self _ _) (Nat.mod_lt _ (by omega))
      rw [shl8 _ _ (by omega), shr8 _ _ (by omega), ← hb2, wu _ (by omega), shl64 _ _ (by omega) (by omega), or64 _ _ (by omega) (by omega), or_mul _ _ _ hbyte, num_add]
    refine .inr ⟨m - kk, _, by omega, by simp only [zB, decide_true, decide_false, Bool.false_eq_true, if_false, if_true, List.getElem?_cons_zero, List.getElem?_cons_succ, beq_self_eq_true, bne_self_eq_false, Int.reduceBNe, Int.reduceBEq, Int.reduceLT, Int.reduceGT, Int.reduceLE, Int.reduceGE, Nat.reduceAdd, Nat.reduceMul, Nat.reduceLeDiff, c4, hT.blk, w3, w4, w5, w6, w7, w8, w9, w10, ba_get, Int.toNat_natCast, hb, aShl, aShr, hT.put, hv], d + kk, T.set p (some [.str s, .int .i64 ((a + (d + kk) : Nat) : Int)]), by omega, rfl, hT.set (by omega), hF.set (.inl (by simp)) _⟩
theorem u_short (n : Nat) (hn : n ≤ 64) (hL : 8 * s.size < a + n) : Cn B (k + 2) f_bits_Reader_U 0 [.ptr p 0, .int .i64 (n : Int)] S = some (.tup [.int .u64 0, .int .i64 5], S) := by
  rw [c_bits_Reader_U _ _ _ _ _ (hB.no _ _ _ _ (kn_no (by decide))), T_bits_Reader_U]
  have e1 := left_c hB k h
  have := h.le
  have c1 : ¬ ((n : Int) < 0) := by omega
  have c2 : ¬ ((n : Int) > 64) := by omega
  have c3 : ((n : Int) > ((8 * s.size - a : Nat) : Int)) := by omega
  simp only [zB, decide_true, decide_false, Bool.false_eq_true, if_false, if_true, List.getElem?_cons_zero, List.getElem?_cons_succ, beq_self_eq_true, bne_self_eq_false, Int.reduceBNe, Int.reduceBEq, Int.reduceLT, Int.reduceGT, Int.reduceLE, Int.reduceGE, Nat.reduceAdd, Nat.reduceMul, Nat.reduceLeDiff, c1, c2, e1, c3]
theorem bit_ok (hL : a < 8 * s.size) : ∃ S', Cn B (k + 3) f_bits_Reader_Bit 0 [.ptr p 0] S = some (.tup [.int .u8 ((sb s a : Nat) : Int), .int .i64 0], S') ∧ Rdr S' p s (a + 1) ∧ Fr S S' [p] := by
  rw [c_bits_Reader_Bit _ _ _ _ (hB.no _ _ _ _ (kn_no (by decide))), T_bits_Reader_Bit]
  obtain ⟨S', e, h1, h2⟩ := u_ok hB k h 1 (by omega) (by omega)
  have hs := sb_lt s a
  have w1 : IntKind.wrap .u8 ((num s a 1 : Nat) : Int) = ((sb s a : Nat) : Int) := by
    simp only [num, Nat.mul_zero, Nat.zero_add, Nat.add_zero]; exact wb _ (by omega)
  rw [show (((1 : Nat)) : Int) = 1 from rfl] at e
  exact ⟨S', by simp only [zB, decide_true, decide_false, Bool.false_eq_true, if_false, if_true, List.getElem?_cons_zero, List.getElem?_cons_succ, beq_self_eq_true, bne_self_eq_false, Int.reduceBNe, Int.reduceBEq, Int.reduceLT, Int.reduceGT, Int.reduceLE, Int.reduceGE, Nat.reduceAdd, Nat.reduceMul, Nat.reduceLeDiff, e, w1], h1, h2⟩
theorem bit_short (hL : a = 8 * s.size) : Cn B (k + 3) f_bits_Reader_Bit 0 [.ptr p 0] S = some (.tup [.int .u8 0, .int .i64 5], S) := by
  rw [c_bits_Reader_Bit _ _ _ _ (hB.no _ _ _ _ (kn_no (by decide))), T_bits_Reader_Bit]
  have e := u_short hB k h 1 (by omega) (by omega)
  rw [show (((1 : Nat)) : Int) = 1 from rfl] at e
  have w1 : IntKind.wrap .u8 0 = 0 := wb _ (by omega)
  simp only [zB, decide_true, decide_false, Bool.false_eq_true, if_false, if_true, List.getElem?_cons_zero, List.getElem?_cons_succ, beq_self_eq_true, bne_self_eq_false, Int.reduceBNe, Int.reduceBEq, Int.reduceLT, Int.reduceGT, Int.reduceLE, Int.reduceGE, Nat.reduceAdd, Nat.reduceMul, Nat.reduceLeDiff, e, w1]
theorem rcopy_c : ∃ S', Cn B (k + 1) f_bits_Reader_Copy 0 [.ptr p 0] S = some (.ptr S.next 0, S') ∧ Rdr S' S.next s a ∧ Fr S S' [] := by
  rw [c_bits_Reader_Copy _ _ _ _ (hB.no _ _ _ _ (kn_no (by decide))), T_bits_Reader_Copy]
  have t2 : ∀ x y : AV, List.take 2 (List.drop 0 [x, y]) = [x, y] := fun _ _ => rfl
  have hp : ∀ c : List AV, c.length = 2 → ∀ x y : AV, putV (.ptr S.next 0) [x, y] (S.alloc c) = some ((S.alloc c).set S.next (some [x, y])) := fun c hc x y => by
    rw [putV_p (alloc_blk S c) (by simp [hc])]
    match c, hc with
    | [_, _], _ => rfl
  refine ⟨(S.alloc [.str ByteArray.empty, .int .i64 0]).set S.next (some [.str s, .int .i64 (a : Int)]), ?_, ⟨set_blk _ _ _, by rw [set_next, alloc_next]; omega, h.sz, h.le⟩, (Fr.alloc S _ _).set (.inr (Nat.le_refl _)) _⟩
  simp only [zB, decide_true, decide_false, Bool.false_eq_true, if_false, if_true, List.getElem?_cons_zero, List.getElem?_cons_succ, beq_self_eq_true, bne_self_eq_false, Int.reduceBNe, Int.reduceBEq, Int.reduceLT, Int.reduceGT, Int.reduceLE, Int.reduceGE, Nat.reduceAdd, Nat.reduceMul, Nat.reduceLeDiff, h.blk, t2, hp [.str ByteArray.empty, .int .i64 0] rfl, List.length_cons, List.length_nil, List.all_cons, List.all_nil, cell, Bool.and_true, Bool.and_self]
end
def lead (s : ByteArray) : Nat → Nat → Except Int Nat
  | 0, _ => .error 4
  | f + 1, a => if 8 * s.size ≤ a then .error 5 else if sb s a = 1 then .ok 0 else (lead s f (a + 1)).map (· + 1)
theorem lead_succ (s : ByteArray) (f a : Nat) : lead s (f + 1) a = if 8 * s.size ≤ a then .error 5 else if sb s a = 1 then .ok 0 else (lead s f (a + 1)).map (· + 1) := rfl
theorem map_map' (x : Except Int Nat) (i : Nat) : (x.map (· + 1)).map (· + i) = x.map (· + (i + 1)) := by
  cases x with
  | error e => rfl
  | ok v => simp only [Except.map]; congr 1; omega
theorem lead_ok {s : ByteArray} : ∀ {f a z : Nat}, lead s f a = .ok z → z < f ∧ a + z + 1 ≤ 8 * s.size ∧ num s a (z + 1) = 1
  | 0, a, z, h => by cases h
  | f + 1, a, z, h => by
    unfold lead at h
    split at h
    · cases h
    · split at h
      · rename_i h1 h2
        cases h
        exact ⟨by omega, by omega, by simp [num, h2]⟩
      · rename_i h1 h2
        cases hl : lead s f (a + 1) with
        | error e => rw [hl] at h; cases h
        | ok w =>
          rw [hl] at h
          simp only [Except.map, Except.ok.injEq] at h
          subst h
          obtain ⟨h3, h4, h5⟩ := lead_ok hl
          have := sb_lt s a
          have h6 : sb s a = 0 := by omega
          exact ⟨by omega, by omega, by rw [num_succ, h6, h5]; omega⟩
def encLen : Except Int Nat → AV
  | .ok z => .tup [.int .i64 ((2 * z + 1 : Nat) : Int), .int .i64 0]
  | .error e => .tup [.int .i64 0, .int .i64 e]
section
variable {B : CallF} (hB : Silent B) (k : Nat) {S : Heap} {p : Nat} {s : ByteArray} {a : Nat} (h : Rdr S p s a)
include hB h
theorem length_c : ∃ S', Cn B (k + 4) f_golomb_length 0 [.ptr p 0] S = some (encLen (lead s 32 a), S') ∧ Fr S S' [] := by
  rw [c_golomb_length _ _ _ _ (hB.no _ _ _ _ (kn_no (by decide))), T_golomb_length]
  obtain ⟨S1, e1, h1, f1⟩ := rcopy_c hB (k + 2) h
  simp only [zB, decide_true, decide_false, Bool.false_eq_true, if_false, if_true, List.getElem?_cons_zero, List.getElem?_cons_succ, beq_self_eq_true, bne_self_eq_false, Int.reduceBNe, Int.reduceBEq, Int.reduceLT, Int.reduceGT, Int.reduceLE, Int.reduceGE, Nat.reduceAdd, Nat.reduceMul, Nat.reduceLeDiff, e1]
  refine loop_meas (fun o => ∃ S', o = some (encLen (lead s 32 a), S') ∧ Fr S S' [])
    (fun m st => ∃ i T, i + m = 32 ∧ i ≤ 31 ∧ st = ([.ptr S.next 0, .int .i64 (i : Int)], T) ∧ Rdr T S.next s (a + i) ∧ Fr S T [] ∧ lead s 32 a = (lead s m (a + i)).map (· + i)) 32 ⟨0, S1, by omega, by omega, rfl, h1, f1, ?_⟩ ?_
  · cases lead s 32 (a + 0) <;> rfl
  rintro m st ⟨i, T, hi, hi', rfl, hT, hF, hl⟩
  obtain ⟨m, rfl⟩ : ∃ m', m = m' + 1 := ⟨m - 1, by omega⟩
  rw [lead_succ s m (a + i)] at hl
  have hle := hT.le
  by_cases hs : 8 * s.size ≤ a + i
  · rw [if_pos hs] at hl
    have e2 := bit_short hB k hT (by omega)
    refine .inl ⟨(1, [.int .i64 0, .int .i64 5], T), by simp only [zB, decide_true, decide_false, Bool.false_eq_true, if_false, if_true, List.getElem?_cons_zero, List.getElem?_cons_succ, beq_self_eq_true, bne_self_eq_false, Int.reduceBNe, Int.reduceBEq, Int.reduceLT, Int.reduceGT, Int.reduceLE, Int.reduceGE, Nat.reduceAdd, Nat.reduceMul, Nat.reduceLeDiff, e2], T, by simp only [zB, decide_true, decide_false, Bool.false_eq_true, if_false, if_true, List.getElem?_cons_zero, List.getElem?_cons_succ, beq_self_eq_true, bne_self_eq_false, Int.reduceBNe, Int.reduceBEq, Int.reduceLT, Int.reduceGT, Int.reduceLE, Int.reduceGE, Nat.reduceAdd, Nat.reduceMul, Nat.reduceLeDiff, sel, hl, Except.map, encLen], hF⟩
  · rw [if_neg hs] at hl
    obtain ⟨T', e2, h2, f2⟩ := bit_ok hB k hT (by omega)
    have hF' := hF.trans f2 (fun j hj => by simp at hj; omega)
    by_cases hb : sb s (a + i) = 1
    · rw [if_pos hb] at hl
      have w1 : IntKind.wrap .i64 (2 * (i : Int)) = 2 * i := wr _ (by omega)
      have w2 : IntKind.wrap .i64 (2 * (i : Int) + 1) = ((2 * i + 1 : Nat) : Int) := by rw [wr _ (by omega)]; omega
      refine .inl ⟨(0, [.int .i64 (i : Int)], T'), by simp only [zB, decide_true, decide_false, Bool.false_eq_true, if_false, if_true, List.getElem?_cons_zero, List.getElem?_cons_succ, beq_self_eq_true, bne_self_eq_false, Int.reduceBNe, Int.reduceBEq, Int.reduceLT, Int.reduceGT, Int.reduceLE, Int.reduceGE, Nat.reduceAdd, Nat.reduceMul, Nat.reduceLeDiff, e2, hb, Int.natCast_one], T', by simp only [zB, decide_true, decide_false, Bool.false_eq_true, if_false, if_true, List.getElem?_cons_zero, List.getElem?_cons_succ, beq_self_eq_true, bne_self_eq_false, Int.reduceBNe, Int.reduceBEq, Int.reduceLT, Int.reduceGT, Int.reduceLE, Int.reduceGE, Nat.reduceAdd, Nat.reduceMul, Nat.reduceLeDiff, sel, hl, Except.map, encLen, w1, w2], hF'⟩
    · rw [if_neg hb, map_map'] at hl
      have hb0 : sb s (a + i) = 0 := by have := sb_lt s (a + i); omega
      have w1 : IntKind.wrap .i64 ((i : Int) + 1) = ((i + 1 : Nat) : Int) := by rw [wr _ (by omega)]; omega
      by_cases hm : m = 0
      · subst hm
        have hz : lead s 0 (a + i + 1) = .error 4 := rfl
        have c1 : ((i + 1 : Nat) : Int) > 31 := by omega
        refine .inl ⟨(1, [.int .i64 0, .int .i64 4], T'), by simp only [zB, decide_true, decide_false, Bool.false_eq_true, if_false, if_true, List.getElem?_cons_zero, List.getElem?_cons_succ, beq_self_eq_true, bne_self_eq_false, Int.reduceBNe, Int.reduceBEq, Int.reduceLT, Int.reduceGT, Int.reduceLE, Int.reduceGE, Nat.reduceAdd, Nat.reduceMul, Nat.reduceLeDiff, e2, hb0, w1, c1, Int.natCast_zero], T', by simp only [zB, decide_true, decide_false, Bool.false_eq_true, if_false, if_true, List.getElem?_cons_zero, List.getElem?_cons_succ, beq_self_eq_true, bne_self_eq_false, Int.reduceBNe, Int.reduceBEq, Int.reduceLT, Int.reduceGT, Int.reduceLE, Int.reduceGE, Nat.reduceAdd, Nat.reduceMul, Nat.reduceLeDiff, sel, hl, hz, Except.map, encLen], hF'⟩
      · have c1 : ¬ ((i + 1 : Nat) : Int) > 31 := by omega
        refine .inr ⟨m, ([.ptr S.next 0, .int .i64 ((i + 1 : Nat) : Int)], T'), by omega, by simp only [zB, decide_true, decide_false, Bool.false_eq_true, if_false, if_true, List.getElem?_cons_zero, List.getElem?_cons_succ, beq_self_eq_true, bne_self_eq_false, Int.reduceBNe, Int.reduceBEq, Int.reduceLT, Int.reduceGT, Int.reduceLE, Int.reduceGE, Nat.reduceAdd, Nat.reduceMul, Nat.reduceLeDiff, e2, hb0, w1, c1, Int.natCast_zero], i + 1, T', by omega, by omega, rfl, h2, hF', hl⟩
end
/-- A number read, and where the reader is then; or an error. -/
abbrev Rn := Except Int (Nat × Nat)
def Rn.pos (a : Nat) : Rn → Nat
  | .ok (_, a') => a'
  | .error _ => a
def encU : Rn → AV
  | .ok (v, _) => .tup [.int .u64 (v : Int), .int .i64 0]
  | .error e => .tup [.int .u64 0, .int .i64 e]
/-- What a value is that was read, or not. -/
def resUk (r : Rn) (v : AV) : Prop := match r with
  | .ok (x, _) => v = .tup [.int .u64 (x : Int), .int .i64 0]
  | .error e => ∃ x, v = .tup [.int .u64 x, .int .i64 e]
def rU (s : ByteArray) (n a : Nat) : Rn := if 8 * s.size < a + n then .error 5 else .ok (num s a n, a + n)
def rUe (s : ByteArray) (a : Nat) : Rn := match lead s 32 a with
  | .error e => .error e
  | .ok z => if 8 * s.size < a + z + 1 + z then .error 5 else .ok (2 ^ z + num s (a + z + 1) z - 1, a + z + 1 + z)
def rUk (s : ByteArray) (k a : Nat) : Rn := match rUe s a with
  | .error e => .error e
  | .ok (v, a') => if 8 * s.size < a' + k then .error 5 else .ok (v * 2 ^ k + num s a' k, a' + k)
theorem lead_err {s : ByteArray} : ∀ {f a : Nat} {e : Int}, lead s f a = .error e → e = 4 ∨ e = 5
  | 0, a, e, h => by cases h; exact .inl rfl
  | f + 1, a, e, h => by
    unfold lead at h
    split at h
    · cases h; exact .inr rfl
    · split at h
      · cases h
      · cases hl : lead s f (a + 1) with
        | error e' => rw [hl] at h; cases h; exact lead_err hl
        | ok w => rw [hl] at h; cases h
theorem rUe_ok {s : ByteArray} {a v a' : Nat} (h : rUe s a = .ok (v, a')) : a < a' ∧ a' ≤ 8 * s.size ∧ v < 4294967295 := by
  unfold rUe at h
  split at h
  · cases h
  · rename_i z hz
    obtain ⟨h1, h2, _⟩ := lead_ok hz
    split at h
    · cases h
    · cases h
      have h3 := num_lt s (a + z + 1) z
      have h4 : 2 ^ z ≤ 2 ^ 31 := Nat.pow_le_pow_right (by omega) (by omega)
      exact ⟨by omega, by omega, by omega⟩
theorem rUe_err {s : ByteArray} {a : Nat} {e : Int} (h : rUe s a = .error e) : e = 4 ∨ e = 5 := by
  unfold rUe at h
  split at h
  · rename_i e' he; cases h; exact lead_err he
  · split at h
    · cases h; exact .inr rfl
    · cases h
theorem rUk_ok {s : ByteArray} {k a v a' : Nat} (h : rUk s k a = .ok (v, a')) : a < a' ∧ a' ≤ 8 * s.size ∧ v < 4294967295 * 2 ^ k := by
  unfold rUk at h
  split at h
  · cases h
  · rename_i w b hw
    obtain ⟨h1, h2, h3⟩ := rUe_ok hw
    split at h
    · cases h
    · cases h
      have h4 := num_lt s b k
      refine ⟨by omega, by omega, ?_⟩
      have h5 : (w + 1) * 2 ^ k ≤ 4294967295 * 2 ^ k := Nat.mul_le_mul_right _ (by omega)
      rw [Nat.add_mul, Nat.one_mul] at h5
      omega
theorem rUk_err {s : ByteArray} {k a : Nat} {e : Int} (h : rUk s k a = .error e) : e = 4 ∨ e = 5 := by
  unfold rUk at h
  split at h
  · rename_i e' he; cases h; exact rUe_err he
  · split at h
    · cases h; exact .inr rfl
    · cases h
section
variable {B : CallF} (hB : Silent B) (k : Nat) {S : Heap} {p : Nat} {s : ByteArray} {a : Nat} (h : Rdr S p s a)
include hB h
theorem u_c (n : Nat) (hn : n ≤ 64) : ∃ S', Cn B (k + 2) f_bits_Reader_U 0 [.ptr p 0, .int .i64 (n : Int)] S = some (encU (rU s n a), S') ∧ Rdr S' p s ((rU s n a).pos a) ∧ Fr S S' [p] := by
  unfold rU
  by_cases hL : 8 * s.size < a + n
  · rw [if_pos hL]
    exact ⟨S, u_short hB k h n hn hL, h, Fr.refl S _⟩
  · rw [if_neg hL]
    exact u_ok hB k h n hn (by omega)
theorem ue_c : ∃ S', Cn B (k + 5) f_golomb_Ue 0 [.ptr p 0] S = some (encU (rUe s a), S') ∧ Rdr S' p s ((rUe s a).pos a) ∧ Fr S S' [p] := by
  rw [c_golomb_Ue _ _ _ _ (hB.no _ _ _ _ (kn_no (by decide))), T_golomb_Ue]
  obtain ⟨S1, e1, f1⟩ := length_c hB k h
  have h1 := h.fr f1 (by simp)
  unfold rUe
  cases hl : lead s 32 a with
  | error e =>
    rw [hl] at e1
    have he := lead_err hl
    have c1 : (e != 0) = true := by rcases he with rfl | rfl <;> rfl
    exact ⟨S1, by simp only [zB, decide_true, decide_false, Bool.false_eq_true, if_false, if_true, List.getElem?_cons_zero, List.getElem?_cons_succ, beq_self_eq_true, bne_self_eq_false, Int.reduceBNe, Int.reduceBEq, Int.reduceLT, Int.reduceGT, Int.reduceLE, Int.reduceGE, Nat.reduceAdd, Nat.reduceMul, Nat.reduceLeDiff, e1, encLen, c1, encU], h1, f1.nil⟩
  | ok z =>
    rw [hl] at e1
    obtain ⟨l1, l2, l3⟩ := lead_ok hl
    simp only
    by_cases hL : 8 * s.size < a + z + 1 + z
    · rw [if_pos hL]
      have e2 := u_short hB (k + 2) h1 (2 * z + 1) (by omega) (by omega)
      exact ⟨S1, by simp only [zB, decide_true, decide_false, Bool.false_eq_true, if_false, if_true, List.getElem?_cons_zero, List.getElem?_cons_succ, beq_self_eq_true, bne_self_eq_false, Int.reduceBNe, Int.reduceBEq, Int.reduceLT, Int.reduceGT, Int.reduceLE, Int.reduceGE, Nat.reduceAdd, Nat.reduceMul, Nat.reduceLeDiff, e1, encLen, e2, encU], h1, f1.nil⟩
    · rw [if_neg hL]
      obtain ⟨S2, e2, h2, f2⟩ := u_ok hB (k + 2) h1 (2 * z + 1) (by omega) (by omega)
      have hn : num s a (2 * z + 1) = 2 ^ z + num s (a + z + 1) z := by
        rw [show 2 * z + 1 = z + 1 + z by omega, num_add, l3, show a + (z + 1) = a + z + 1 by omega]; omega
      have h3 := num_lt s (a + z + 1) z
      have h4 : 2 ^ z ≤ 2 ^ 31 := Nat.pow_le_pow_right (by omega) (by omega)
      have h5 : 0 < 2 ^ z := Nat.pow_pos (by omega)
      have w1 : IntKind.wrap .u64 (((2 ^ z + num s (a + z + 1) z : Nat) : Int) - 1) = ((2 ^ z + num s (a + z + 1) z - 1 : Nat) : Int) := by rw [wu _ (by omega)]; omega
      rw [hn] at e2
      refine ⟨S2, by simp only [zB, decide_true, decide_false, Bool.false_eq_true, if_false, if_true, List.getElem?_cons_zero, List.getElem?_cons_succ, beq_self_eq_true, bne_self_eq_false, Int.reduceBNe, Int.reduceBEq, Int.reduceLT, Int.reduceGT, Int.reduceLE, Int.reduceGE, Nat.reduceAdd, Nat.reduceMul, Nat.reduceLeDiff, e1, encLen, e2, encU, w1], ?_, f1.nil.trans f2 (fun j hj => .inl hj)⟩
      rw [show a + (2 * z + 1) = a + z + 1 + z by omega] at h2
      exact h2
theorem uk1_c {q : Nat} {n : Nat} (hn : n ≤ 8) (hq : S.blk q = some [.int .i64 (n : Int)]) (hlt : q < S.next) (hne : q ≠ p) :
    ∃ S' v, Cn B (k + 6) f_golomb_Uk_1 0 [.ptr p 0, .ptr q 0] S = some (v, S') ∧ resUk (rUk s n a) v ∧ (∀ w a', rUk s n a = .ok (w, a') → Rdr S' p s a') ∧ Fr S S' [p] := by
  rw [c_golomb_Uk_1 _ _ _ _ _ (hB.no _ _ _ _ (kn_no (by decide))), T_golomb_Uk_1]
  obtain ⟨S1, e1, h1, f1⟩ := ue_c hB k h
  have hq1 := (f1.get hlt (by simp [hne])).trans hq
  unfold rUk
  cases hl : rUe s a with
  | error e =>
    rw [hl] at e1 h1
    have c1 : (e != 0) = true := by rcases rUe_err hl with rfl | rfl <;> rfl
    exact ⟨S1, .tup [.int .u64 0, .int .i64 e], by simp only [zB, decide_true, decide_false, Bool.false_eq_true, if_false, if_true, List.getElem?_cons_zero, List.getElem?_cons_succ, beq_self_eq_true, bne_self_eq_false, Int.reduceBNe, Int.reduceBEq, Int.reduceLT, Int.reduceGT, Int.reduceLE, Int.reduceGE, Nat.reduceAdd, Nat.reduceMul, Nat.reduceLeDiff, e1, c1, encU], ⟨0, rfl⟩, (fun v a' he => by cases he), f1⟩
  | ok x =>
    obtain ⟨v, b⟩ := x
    rw [hl] at e1 h1
    simp only [Rn.pos] at h1
    obtain ⟨l1, l2, l3⟩ := rUe_ok hl
    have h5 : 2 ^ n ≤ 2 ^ 8 := Nat.pow_le_pow_right (by omega) hn
    have h6 : v * 2 ^ n ≤ 4294967295 * 256 := Nat.mul_le_mul (by omega) (by omega)
    have hsh := shl64 v n (by omega) (by omega)
    simp only
    by_cases hL : 8 * s.size < b + n
    · rw [if_pos hL]
      have e2 := u_short hB (k + 3) h1 n (by omega) hL
      exact ⟨S1, .tup [.int .u64 (orI .u64 ((v * 2 ^ n : Nat) : Int) 0), .int .i64 5], by simp only [zB, decide_true, decide_false, Bool.false_eq_true, if_false, if_true, List.getElem?_cons_zero, List.getElem?_cons_succ, beq_self_eq_true, bne_self_eq_false, Int.reduceBNe, Int.reduceBEq, Int.reduceLT, Int.reduceGT, Int.reduceLE, Int.reduceGE, Nat.reduceAdd, Nat.reduceMul, Nat.reduceLeDiff, e1, encU, hq1, e2, aShl, hsh], ⟨_, rfl⟩, (fun v a' he => by cases he), f1⟩
    · rw [if_neg hL]
      obtain ⟨S2, e2, h2, f2⟩ := u_ok hB (k + 3) h1 n (by omega) (by omega)
      have hq2 := (f2.get (Nat.lt_of_lt_of_le hlt f1.1) (by simp [hne])).trans hq1
      have h3 := num_lt s b n
      have ho : orI .u64 ((v * 2 ^ n : Nat) : Int) ((num s b n : Nat) : Int) = ((v * 2 ^ n + num s b n : Nat) : Int) := by
        rw [or64 _ _ (by omega) (by omega), or_mul _ _ _ h3]
      exact ⟨S2, _, by simp only [zB, decide_true, decide_false, Bool.false_eq_true, if_false, if_true, List.getElem?_cons_zero, List.getElem?_cons_succ, beq_self_eq_true, bne_self_eq_false, Int.reduceBNe, Int.reduceBEq, Int.reduceLT, Int.reduceGT, Int.reduceLE, Int.reduceGE, Nat.reduceAdd, Nat.reduceMul, Nat.reduceLeDiff, e1, encU, hq1, e2, hq2, aShl, hsh, ho], rfl, (fun v' a' he => by cases he; exact h2), f1.trans f2 (fun j hj => .inl hj)⟩
theorem uk_c {n : Nat} (hn : n ≤ 8) : ∃ S', Cn B (k + 7) f_golomb_Uk 0 [.ptr p 0, .int .i64 (n : Int)] S = some (encU (rUk s n a), S') ∧ Rdr S' p s ((rUk s n a).pos a) ∧ Fr S S' [p] := by
  rw [c_golomb_Uk _ _ _ _ _ (hB.no _ _ _ _ (kn_no (by decide))), T_golomb_Uk]
  have lt := h.lt
  have c1 : ¬ ((n : Int) < 0) := by omega
  have c2 : ¬ ((n : Int) > 8) := by omega
  obtain ⟨S2, hS2⟩ : ∃ S2, S2 = S.alloc [.int .i64 (n : Int)] := ⟨_, rfl⟩
  have f2 : Fr S S2 [] := by rw [hS2]; exact Fr.alloc _ _ _
  have n2 : S2.next = S.next + 1 := by rw [hS2]; rfl
  have b2 : S2.blk S.next = some [.int .i64 (n : Int)] := by rw [hS2]; exact alloc_blk _ _
  obtain ⟨S3, e3, h3, f3⟩ := rcopy_c hB (k + 5) (h.fr f2 (by simp))
  have b3 : S3.blk S.next = some [.int .i64 (n : Int)] := (f3.get (by omega) (by simp)).trans b2
  have m3 := f3.1
  obtain ⟨S4, v4, e4, r4, h4, f4⟩ := uk1_c hB k h3 (q := S.next) hn b3 (by omega) (by omega)
  have b4 : S4.blk S.next = some [.int .i64 (n : Int)] := (f4.get (by omega) (by simp; omega)).trans b3
  have m4 := f4.1
  have f24 : Fr S S4 [] := (f2.trans f3 (fun j hj => .inl hj)).trans f4 (fun j hj => by simp at hj; omega)
  have h4' := h.fr f24 (by simp)
  obtain ⟨S5, v5, e5, r5, h5, f5⟩ := uk1_c hB k h4' (q := S.next) hn b4 (by omega) (by omega)
  cases hl : rUk s n a with
  | error e =>
    rw [hl] at r4
    obtain ⟨x, rfl⟩ := r4
    have c3 : (e != 0) = true := by rcases rUk_err hl with rfl | rfl <;> rfl
    exact ⟨S4, by simp only [zB, decide_true, decide_false, Bool.false_eq_true, if_false, if_true, List.getElem?_cons_zero, List.getElem?_cons_succ, beq_self_eq_true, bne_self_eq_false, Int.reduceBNe, Int.reduceBEq, Int.reduceLT, Int.reduceGT, Int.reduceLE, Int.reduceGE, Nat.reduceAdd, Nat.reduceMul, Nat.reduceLeDiff, ← hS2, b2, c1, c2, e3, e4, c3, encU], h4', f24.nil⟩
  | ok x =>
    obtain ⟨w, b⟩ := x
    rw [hl] at r4 r5
    cases r4
    cases r5
    exact ⟨S5, by simp only [zB, decide_true, decide_false, Bool.false_eq_true, if_false, if_true, List.getElem?_cons_zero, List.getElem?_cons_succ, beq_self_eq_true, bne_self_eq_false, Int.reduceBNe, Int.reduceBEq, Int.reduceLT, Int.reduceGT, Int.reduceLE, Int.reduceGE, Nat.reduceAdd, Nat.reduceMul, Nat.reduceLeDiff, ← hS2, b2, c1, c2, e3, e4, encU, e5], h5 _ _ hl, f24.nil.trans f5 (fun j hj => .inl hj)⟩
end
def u8s (W : List Nat) : List AV := W.map fun (x : Nat) => AV.int .u8 (x : Int)
theorem u8s_len (W : List Nat) : (u8s W).length = W.length := by simp [u8s]
theorem u8s_app (V W : List Nat) : u8s (V ++ W) = u8s V ++ u8s W := by simp [u8s]
theorem u8s_cell (W : List Nat) : (u8s W).all cell = true := by simp [u8s, cell]
theorem u8s_rep (n : Nat) : List.replicate n (AV.int .u8 0) = u8s (List.replicate n 0) := by simp [u8s]
theorem setCells_append : ∀ (new pre old post : List AV), old.length = new.length → setCells (pre ++ old ++ post) pre.length new = pre ++ new ++ post
  | [], pre, old, post, h => by
    have : old = [] := List.length_eq_zero_iff.1 h
    subst this; rfl
  | v :: new, pre, o :: old, post, h => by
    simp only [setCells]
    have : (pre ++ o :: old ++ post).set pre.length v = pre ++ [v] ++ old ++ post := by simp [List.set_append]
    rw [this]
    have := setCells_append new (pre ++ [v]) old post (by simpa using h)
    simpa using this
  | _ :: _, _, [], _, h => by simp at h
theorem put3_0 {T : Heap} {p : Nat} {x a b c : AV} (h : T.blk p = some [a, b, c]) : putV (.ptr p 0) [x] T = some (T.set p (some [x, b, c])) := by rw [putV_p h (by simp)]; rfl
theorem put3_1 {T : Heap} {p : Nat} {x a b c : AV} (h : T.blk p = some [a, b, c]) : putV (.ptr p 1) [x] T = some (T.set p (some [a, x, c])) := by rw [putV_p h (by simp)]; rfl
theorem put3_2 {T : Heap} {p : Nat} {x a b c : AV} (h : T.blk p = some [a, b, c]) : putV (.ptr p 2) [x] T = some (T.set p (some [a, b, x])) := by rw [putV_p h (by simp)]; rfl
theorem bitsN_add : ∀ (m n v : Nat), bitsN (m + n) v = bitsN m (v / 2 ^ n) ++ bitsN n v
  | 0, n, v => by simp [bitsN]
  | m + 1, n, v => by
    rw [show m + 1 + n = m + n + 1 by omega, bitsN, bitsN_add m n v, bitsN, Nat.div_div_eq_div_mul, ← Nat.pow_add, Nat.add_comm n m]
    rfl
theorem bitsN_snoc (n x b : Nat) (hb : b < 2) : bitsN (n + 1) (2 * x + b) = bitsN n x ++ [b == 1] := by
  rw [bitsN_add n 1]
  have h1 : (2 * x + b) / 2 ^ 1 = x := by omega
  have h2 : bitsN 1 (2 * x + b) = [b == 1] := by
    simp only [bitsN, Nat.pow_zero, Nat.div_one]; congr 2; omega
  rw [h1, h2]
theorem take_snoc {α : Type} (A : List α) (c : α) (R : List α) : (A ++ (c :: R)).take (A.length + 1) = (A ++ (c :: R)).take A.length ++ [c] := by
  rw [List.take_append, List.take_append, List.take_of_length_le (by omega), Nat.sub_self, Nat.add_sub_cancel_left]; simp
theorem bitsN_take (n v j : Nat) (hj : j < n) : (bitsN n v).take (j + 1) = (bitsN n v).take j ++ [v / 2 ^ (n - 1 - j) % 2 == 1] := by
  have h1 : n = j + 1 + (n - 1 - j) := by omega
  have e : bitsN n v = bitsN j (v / 2 ^ (n - j)) ++ ([v / 2 ^ (n - 1 - j) % 2 == 1] ++ bitsN (n - 1 - j) v) := by
    have : bitsN n v = bitsN (j + ((n - 1 - j) + 1)) v := by congr 1; omega
    rw [this, bitsN_add, bitsN, show n - 1 - j + 1 = n - j by omega]; rfl
  have := take_snoc (bitsN j (v / 2 ^ (n - j))) (v / 2 ^ (n - 1 - j) % 2 == 1) (bitsN (n - 1 - j) v)
  rw [bitsN_len] at this
  rw [e]
  exact this
structure WrX (S : Heap) (p q : Nat) (W : List Nat) (part n : Nat) : Prop where
  blk : S.blk p = some [if W = [] then .nils else .hs q 0 W.length 1, .int .u8 (part : Int), .int .i64 (n : Int)]
  row : W ≠ [] → S.blk q = some (u8s W) ∧ q < S.next ∧ q ≠ p
  non : W = [] → q = p
  lt : p < S.next
  n8 : n < 8
  pt : part < 2 ^ n
  b8 : ∀ x ∈ W, x < 256
def bitsW (W : List Nat) (part n : Nat) : List Bool := W.flatMap (bitsN 8) ++ bitsN n part
theorem flat8_len : ∀ W : List Nat, (W.flatMap (bitsN 8)).length = 8 * W.length
  | [] => rfl
  | x :: W => by simp only [List.flatMap_cons, List.length_append, bitsN_len, flat8_len W, List.length_cons]; omega
theorem bitsW_len (W : List Nat) (part n : Nat) : (bitsW W part n).length = 8 * W.length + n := by simp only [bitsW, List.length_append, flat8_len, bitsN_len]
/-- A writer at p, with its whole bytes at q. -/
def Wr (S : Heap) (p q : Nat) (bs : List Bool) : Prop := ∃ W part n, WrX S p q W part n ∧ bs = bitsW W part n
theorem WrX.fr {S T : Heap} {p q : Nat} {W : List Nat} {part n : Nat} {l : List Nat} (h : WrX S p q W part n) (f : Fr S T l) (hp : p ∉ l) (hq : q ∉ l) : WrX T p q W part n :=
  ⟨(f.get h.lt hp).trans h.blk, fun h0 => ⟨(f.get (h.row h0).2.1 hq).trans (h.row h0).1, Nat.lt_of_lt_of_le (h.row h0).2.1 f.1, (h.row h0).2.2⟩, h.non, Nat.lt_of_lt_of_le h.lt f.1, h.n8, h.pt, h.b8⟩
theorem Wr.fr {S T : Heap} {p q : Nat} {bs : List Bool} {l : List Nat} (h : Wr S p q bs) (f : Fr S T l) (hp : p ∉ l) (hq : q ∉ l) : Wr T p q bs := by
  obtain ⟨W, part, n, h, rfl⟩ := h
  exact ⟨W, part, n, h.fr f hp hq, rfl⟩
theorem Wr.lt {S : Heap} {p q : Nat} {bs : List Bool} (h : Wr S p q bs) : p < S.next ∧ q < S.next := by
  obtain ⟨W, part, n, h, rfl⟩ := h
  refine ⟨h.lt, ?_⟩
  by_cases h0 : W = []
  · rw [h.non h0]; exact h.lt
  · exact (h.row h0).2.1
/-- From one writer to the next: what was written is more by these bits. -/
def Puts (S S' : Heap) (p q q' : Nat) (bs bs' : List Bool) : Prop := Wr S' p q' bs' ∧ Fr S S' [p, q] ∧ (q' = q ∨ S.next ≤ q')
theorem Puts.trans {S T U : Heap} {p q q' q'' : Nat} {a b c : List Bool} (h1 : Puts S T p q q' a b) (h2 : Puts T U p q' q'' b c) : Puts S U p q q'' a c := by
  refine ⟨h2.1, h1.2.1.trans h2.2.1 (fun j hj => ?_), ?_⟩
  · simp only [List.mem_cons, List.not_mem_nil, or_false] at hj ⊢
    rcases hj with rfl | rfl
    · exact .inl (.inl rfl)
    · rcases h1.2.2 with h | h
      · exact .inl (.inr h)
      · exact .inr h
  · have := h1.2.1.1
    rcases h2.2.2 with h | h
    · rw [h]; exact h1.2.2
    · exact .inr (by omega)
theorem Puts.refl {S : Heap} {p q : Nat} {bs : List Bool} (h : Wr S p q bs) : Puts S S p q q bs bs := ⟨h, Fr.refl _ _, .inl rfl⟩
theorem slice_hs (id off n l : Nat) (h : l ≤ n) : aSlice Try.prog 103 (.hs id off n 1) (some (.int .i64 (l : Int))) none = some (.hs id (off + l) (n - l) 1) := by
  have hu : Try.prog.underlying 103 = some (.slice 5) := by kernel_rfl
  have hs : tsize Try.prog 5 = some 1 := by kernel_rfl
  simp [aSlice, hu, hs, aNat, h]
theorem sliceArr_p (id o l n k : Nat) (S : Heap) (cs : List AV) (h : S.blk id = some cs) (hk : k ≤ n) (hl : o + n ≤ cs.length) : aSliceArr n 1 (.ptr id o) none (some (.int .i64 (k : Int))) S = some (.hs id o k 1) := by
  simp [aSliceArr, seeV_p, h, aNat, hk, hl]
theorem room64 {n : Nat} (h : n ≤ 10000000000) : n ≤ mostRoom := by unfold mostRoom; omega
theorem appZ {T : Heap} {q : Nat} {W : List Nat} {kk : Nat} (hrow : W ≠ [] → T.blk q = some (u8s W) ∧ q < T.next) (hk : 0 < kk) (hs : W.length + kk ≤ 1000000000) :
    ∃ T', aAppendZ 1 1 [.int .u8 0] (if W = [] then .nils else .hs q 0 W.length 1) (.int .i64 (kk : Int)) T = some (.hs T.next 0 (W.length + kk) 1, T') ∧ T'.blk T.next = some (u8s W ++ List.replicate kk (.int .u8 0)) ∧ T'.next = T.next + 1 ∧ T'.cx = T.cx ∧
      ∀ j, j ≠ T.next → (j ≠ q ∨ W = []) → T'.blk j = T.blk j := by
  have r1 : kk * 1 ≤ mostRoom := by rw [Nat.mul_one]; exact room64 (by omega)
  have r2 : kk ≤ mostRoom := room64 (by omega)
  have r3 : (0 : Int) ≤ (kk : Int) ∧ (kk : Int) * ((1 : Nat) : Int) ≤ (mostRoom : Int) ∧ (kk : Int) ≤ (mostRoom : Int) := by
    refine ⟨by omega, ?_, by omega⟩
    have : ((kk * 1 : Nat) : Int) ≤ (mostRoom : Int) := by omega
    simpa using this
  have r4 : ¬ kk = 0 := by omega
  have r5 : repCells kk [.int .u8 0] = List.replicate kk (.int .u8 0) := rfl
  unfold aAppendZ
  simp only [r3, and_self, if_true, Int.toNat_natCast, r5]
  unfold aAppendN
  rw [if_neg r4]
  by_cases h0 : W = []
  · subst h0
    simp only [if_true, r1, r2, and_self, List.length_nil, Nat.zero_add, u8s, List.map_nil, List.nil_append]
    exact ⟨_, rfl, alloc_blk _ _, rfl, rfl, fun j hj _ => alloc_other _ _ hj⟩
  · obtain ⟨hb, hq⟩ := hrow h0
    have r6 : (W.length + kk) * 1 ≤ mostRoom := by rw [Nat.mul_one]; exact room64 (by omega)
    have r7 : W.length + kk ≤ mostRoom := room64 (by omega)
    have r8 : (List.replicate kk (AV.int .u8 0)).all cell = true := by rw [u8s_rep]; exact u8s_cell _
    simp only [if_neg h0, hb, u8s_len, Nat.zero_add, Nat.mul_one, Nat.le_refl, r7, r8, and_self, if_true, List.drop_zero]
    rw [List.take_of_length_le (by rw [u8s_len]; exact Nat.le_refl _)]
    refine ⟨_, rfl, alloc_blk (T.set q none) _, rfl, rfl, fun j hj hjq => ?_⟩
    rcases hjq with h | h
    · rw [alloc_other _ _ (by rw [set_next]; exact hj), set_other _ _ h]
    · exact absurd h h0
theorem lenH (W : List Nat) (q : Nat) : aLen Try.prog 103 (if W = [] then .nils else .hs q 0 W.length 1) = some (.int .i64 (W.length : Int)) := by
  by_cases h : W = []
  · subst h; rw [if_pos rfl, len_nils103]; rfl
  · rw [if_neg h, len_hs103]
theorem copy_hs {T : Heap} {d f : Nat} {V W' : List Nat} {rest : List AV} {kk : Nat} (hk : W'.length = kk) (hd : T.blk d = some (u8s V ++ List.replicate kk (.int .u8 0))) (hf : T.blk f = some (u8s W' ++ rest)) :
    aCopy 1 (.hs d V.length kk 1) (.hs f 0 kk 1) T = some (.int .i64 (kk : Int), T.set d (some (u8s (V ++ W')))) := by
  have e1 : rowOf 1 (.hs f 0 kk 1) T = some (kk, u8s W') := by
    simp only [rowOf, hf, Nat.zero_add, Nat.mul_one, List.length_append, u8s_len, hk, true_and, List.drop_zero]
    rw [if_pos (by omega), List.take_append_of_le_length (by rw [u8s_len]; omega), List.take_of_length_le (by rw [u8s_len]; omega)]
  unfold aCopy
  simp only [e1, hd, Nat.mul_one, List.length_append, u8s_len, List.length_replicate, Nat.le_refl, u8s_cell, and_self, if_true, Nat.min_self]
  rw [List.take_of_length_le (by rw [u8s_len]; omega)]
  have := setCells_append (u8s W') (u8s V) (List.replicate kk (.int .u8 0)) [] (by simp [u8s_len, hk])
  rw [List.append_nil, List.append_nil, u8s_len] at this
  rw [this, u8s_app]
section
variable {B : CallF} (hB : Silent B) (k : Nat) {S : Heap} {p q : Nat} {bs : List Bool}
include hB
theorem put_c (h : Wr S p q bs) (n v : Nat) (hn : n ≤ 64) (hv : v < 2 ^ n) (hbs : bs.length ≤ 1000000000) :
    ∃ S' q', Cn B (k + 1) f_bits_Writer_Put 0 [.ptr p 0, .int .i64 (n : Int), .int .u64 (v : Int)] S = some (.int .i64 0, S') ∧ Puts S S' p q q' bs (bs ++ bitsN n v) := by
  obtain ⟨W, part, n0, hX, rfl⟩ := h
  rw [c_bits_Writer_Put _ _ _ _ _ _ (hB.no _ _ _ _ (kn_no (by decide))), T_bits_Writer_Put]
  have hX8 := hX.n8
  have hXl := hX.lt
  rw [bitsW_len] at hbs
  have c1 : ¬ ((n : Int) < 0) := by omega
  have c2 : ¬ ((n : Int) > 64) := by omega
  have hv64 : v < 18446744073709551616 := by
    have : 2 ^ n ≤ 2 ^ 64 := Nat.pow_le_pow_right (by omega) hn
    omega
  have w1 : shrI .u64 (v : Int) (n : Int) = 0 := by rw [shr64 _ _ hn, Nat.div_eq_of_lt hv]; rfl
  have w2 : IntKind.wrap .i64 ((n : Int) - 1) = (n : Int) - 1 := wr _ (by omega)
  have main : ∀ (S1 : Heap), S1 = S.alloc [.int .u8 0, .int .u8 0, .int .u8 0, .int .u8 0, .int .u8 0, .int .u8 0, .int .u8 0, .int .u8 0, .int .u8 0] → ∀ (step : LSt → Option (LSt ⊕ (Nat × LSt))) (f : Nat × LSt → Option (AV × Heap)), True := fun _ _ _ _ => trivial
  clear main
  by_cases c3 : (n : Int) < 64
  all_goals
    simp only [zB, decide_true, decide_false, Bool.false_eq_true, if_false, if_true, List.getElem?_cons_zero, List.getElem?_cons_succ, beq_self_eq_true, bne_self_eq_false, Int.reduceBNe, Int.reduceBEq, Int.reduceLT, Int.reduceGT, Int.reduceLE, Int.reduceGE, Nat.reduceAdd, Nat.reduceMul, Nat.reduceLeDiff, c1, c2, c3, aShr, w1, w2]
    refine loop_meas (fun o => ∃ S' q', o = some (AV.int .i64 0, S') ∧ Puts S S' p q q' (bitsW W part n0) (bitsW W part n0 ++ bitsN n v))
      (fun m st => ∃ (W' : List Nat) (pt nn : Nat) (T : Heap), m ≤ n ∧ st = ([.ptr p 0, .int .u64 (v : Int), .ptr S.next 0, .int .i64 (W'.length : Int), .int .i64 ((m : Int) - 1)], T) ∧
        T.blk p = some [if W = [] then .nils else .hs q 0 W.length 1, .int .u8 (pt : Int), .int .i64 (nn : Int)] ∧ T.blk S.next = some (u8s W' ++ List.replicate (9 - W'.length) (.int .u8 0)) ∧ Fr S T [p] ∧ T.next = S.next + 1 ∧
        bitsW W part n0 ++ (bitsN n v).take (n - m) = bitsW (W ++ W') pt nn ∧ nn < 8 ∧ pt < 2 ^ nn ∧ (∀ x ∈ W', x < 256)) n
      ⟨[], part, n0, _, Nat.le_refl _, rfl, by rw [alloc_other _ _ (by omega)]; exact hX.blk, by rw [alloc_blk]; rfl, Fr.alloc _ _ _, rfl, by simp, hX.n8, hX.pt, by simp⟩ ?_
    rintro m st ⟨W', pt, nn, T, hm, rfl, hTp, hTf, hF, hTn, hbits, hnn, hpt, hW'⟩
    have hlen := congrArg List.length hbits
    simp only [List.length_append, bitsW_len, List.length_take, bitsN_len] at hlen
    have hk8 : W'.length ≤ 8 := by omega
    cases m with
    | zero =>
      have c4 : ¬ (((0 : Nat) : Int) - 1 ≥ 0) := by omega
      refine .inl ⟨(0, [.ptr p 0, .ptr S.next 0, .int .i64 (W'.length : Int)], T), by simp only [zB, decide_true, decide_false, Bool.false_eq_true, if_false, if_true, List.getElem?_cons_zero, List.getElem?_cons_succ, beq_self_eq_true, bne_self_eq_false, Int.reduceBNe, Int.reduceBEq, Int.reduceLT, Int.reduceGT, Int.reduceLE, Int.reduceGE, Nat.reduceAdd, Nat.reduceMul, Nat.reduceLeDiff, c4], ?_⟩
      rw [Nat.sub_zero, List.take_of_length_le (by rw [bitsN_len]; exact Nat.le_refl _)] at hbits
      by_cases hk : W' = []
      · subst hk
        refine ⟨T, q, by simp only [zB, decide_true, decide_false, Bool.false_eq_true, if_false, if_true, List.getElem?_cons_zero, List.getElem?_cons_succ, beq_self_eq_true, bne_self_eq_false, Int.reduceBNe, Int.reduceBEq, Int.reduceLT, Int.reduceGT, Int.reduceLE, Int.reduceGE, Nat.reduceAdd, Nat.reduceMul, Nat.reduceLeDiff, sel, List.length_nil, Int.natCast_zero, Int.lt_irrefl, gt_iff_lt], ⟨W, pt, nn, ⟨hTp, fun h0 => ?_, hX.non, by omega, hnn, hpt, hX.b8⟩, by rw [hbits, List.append_nil]⟩, hF.weak (fun j hj => .inl (by simp at hj; simp [hj])), .inl rfl⟩
        obtain ⟨r1, r2, r3⟩ := hX.row h0
        exact ⟨(hF.get r2 (by simp [r3])).trans r1, by omega, r3⟩
      · have hk0 : 0 < W'.length := List.length_pos_iff.2 hk
        have c5 : (W'.length : Int) > 0 := by omega
        obtain ⟨T', e1, b1, n1, x1, o1⟩ := appZ (T := T) (q := q) (W := W) (kk := W'.length) (fun h0 => ⟨(hF.get (hX.row h0).2.1 (by simp [(hX.row h0).2.2])).trans (hX.row h0).1, by have := (hX.row h0).2.1; omega⟩) hk0 (by omega)
        have hpT' : T'.blk p = T.blk p := o1 p (by omega) (by
          by_cases h0 : W = []
          · exact .inr h0
          · exact .inl (Ne.symm (hX.row h0).2.2))
        have hqlt : W ≠ [] → q < S.next := fun h0 => (hX.row h0).2.1
        have hfT' : T'.blk S.next = T.blk S.next := o1 _ (by omega) (by
          by_cases h0 : W = []
          · exact .inr h0
          · exact .inl (by have := hqlt h0; omega))
        rw [hTp] at hpT'
        rw [hTf] at hfT'
        have e2 := put3_0 (x := .hs T.next 0 (W.length + W'.length) 1) hpT'
        obtain ⟨T2, hT2⟩ : ∃ T2, T2 = T'.set p (some [.hs T.next 0 (W.length + W'.length) 1, .int .u8 (pt : Int), .int .i64 (nn : Int)]) := ⟨_, rfl⟩
        rw [← hT2] at e2
        have b2 : T2.blk p = some [.hs T.next 0 (W.length + W'.length) 1, .int .u8 (pt : Int), .int .i64 (nn : Int)] := by rw [hT2]; exact set_blk _ _ _
        have e3 := slice_hs T.next 0 (W.length + W'.length) W.length (by omega)
        have hf2 : T2.blk S.next = some (u8s W' ++ List.replicate (9 - W'.length) (.int .u8 0)) := by rw [hT2, set_other _ _ (by omega)]; exact hfT'
        have e4 := sliceArr_p S.next 0 0 9 W'.length T2 _ hf2 (by omega) (by simp [u8s_len]; omega)
        have hd2 : T2.blk T.next = some (u8s W ++ List.replicate W'.length (.int .u8 0)) := by rw [hT2, set_other _ _ (by omega)]; exact b1
        have e5 := copy_hs (T := T2) rfl hd2 hf2
        rw [Nat.zero_add, Nat.add_sub_cancel_left] at e3
        have hcell : cell (.hs T.next 0 (W.length + W'.length) 1) = true := rfl
        refine ⟨T2.set T.next (some (u8s (W ++ W'))), T.next, ?_, ⟨W ++ W', pt, nn, ⟨?_, fun _ => ⟨set_blk _ _ _, by rw [set_next, hT2, set_next]; omega, by omega⟩, fun h0 => by simp [hk] at h0, by rw [set_next, hT2, set_next]; omega, hnn, hpt, fun x hx => ?_⟩, hbits⟩, ⟨?_, ?_, ?_⟩, .inr (by omega)⟩
        · simp only [zB, decide_true, decide_false, Bool.false_eq_true, if_false, if_true, List.getElem?_cons_zero, List.getElem?_cons_succ, beq_self_eq_true, bne_self_eq_false, Int.reduceBNe, Int.reduceBEq, Int.reduceLT, Int.reduceGT, Int.reduceLE, Int.reduceGE, Nat.reduceAdd, Nat.reduceMul, Nat.reduceLeDiff, sel, c5, hTp, lenH, e1, hcell, List.all_cons, List.all_nil, e2, b2, e3, e4, e5]
        · rw [set_other _ _ (by omega), b2, if_neg (by simp [hk]), List.length_append]
        · rcases List.mem_append.1 hx with hx | hx
          · exact hX.b8 x hx
          · exact hW' x hx
        · rw [set_next, hT2, set_next]; omega
        · show T2.cx = S.cx
          rw [hT2]; exact x1.trans hF.2.1
        · intro j hj hn
          simp only [List.mem_cons, List.not_mem_nil, or_false, not_or] at hn
          rw [set_other _ _ (by omega), hT2, set_other _ _ hn.1, o1 j (by omega) (.inl hn.2)]
          exact hF.2.2 j hj (by simp [hn.1])
    | succ m =>
      have hm1 : ((m + 1 : Nat) : Int) - 1 = (m : Int) := by omega
      have c4 : (m : Int) ≥ 0 := by omega
      have w3 : IntKind.wrap .i64 ((m : Int) - 1) = (m : Int) - 1 := wr _ (by omega)
      obtain ⟨b, hb⟩ : ∃ b, b = v / 2 ^ m % 2 := ⟨_, rfl⟩
      have hb2 : b < 2 := by rw [hb]; exact Nat.mod_lt _ (by omega)
      have hdv : v / 2 ^ m < 18446744073709551616 := Nat.lt_of_le_of_lt (Nat.div_le_self _ _) hv64
      have w4 : andI .u64 (shrI .u64 (v : Int) (m : Int)) 1 = (b : Int) := by
        rw [shr64 _ _ (by omega)]
        have := and64 (v / 2 ^ m) 1 hdv (by omega)
        rw [Nat.and_one_is_mod, ← hb] at this
        exact this
      have hpt7 : pt < 2 ^ 7 := Nat.lt_of_lt_of_le hpt (Nat.pow_le_pow_right (by omega) (by omega))
      have w5 : IntKind.wrap .u8 (b : Int) = (b : Int) := wb _ (by omega)
      have w6 : orI .u8 (shlI .u8 (pt : Int) 1) (b : Int) = ((2 * pt + b : Nat) : Int) := by
        have := shl8 pt 1 (by omega)
        rw [show ((1 : Nat) : Int) = 1 from rfl] at this
        rw [this, or8 _ _ (Nat.mod_lt _ (by omega)) (by omega), Nat.mod_eq_of_lt (by omega), or_mul pt b 1 (by omega)]
        congr 1; omega
      have w7 : IntKind.wrap .i64 ((nn : Int) + 1) = ((nn + 1 : Nat) : Int) := by rw [wr _ (by omega)]; omega
      have e1 := put3_1 (x := .int .u8 ((2 * pt + b : Nat) : Int)) hTp
      obtain ⟨T1, hT1⟩ : ∃ T1, T1 = T.set p (some [if W = [] then .nils else .hs q 0 W.length 1, .int .u8 ((2 * pt + b : Nat) : Int), .int .i64 (nn : Int)]) := ⟨_, rfl⟩
      rw [← hT1] at e1
      have b1 : T1.blk p = some [if W = [] then .nils else .hs q 0 W.length 1, .int .u8 ((2 * pt + b : Nat) : Int), .int .i64 (nn : Int)] := by rw [hT1]; exact set_blk _ _ _
      have e2 := put3_2 (x := .int .i64 ((nn + 1 : Nat) : Int)) b1
      obtain ⟨T2, hT2⟩ : ∃ T2, T2 = T1.set p (some [if W = [] then .nils else .hs q 0 W.length 1, .int .u8 ((2 * pt + b : Nat) : Int), .int .i64 ((nn + 1 : Nat) : Int)]) := ⟨_, rfl⟩
      rw [← hT2] at e2
      have b2 : T2.blk p = some [if W = [] then .nils else .hs q 0 W.length 1, .int .u8 ((2 * pt + b : Nat) : Int), .int .i64 ((nn + 1 : Nat) : Int)] := by rw [hT2]; exact set_blk _ _ _
      have F2 : Fr S T2 [p] := by rw [hT2, hT1]; exact (hF.set (.inl (by simp)) _).set (.inl (by simp)) _
      have f2 : T2.blk S.next = some (u8s W' ++ List.replicate (9 - W'.length) (.int .u8 0)) := by rw [hT2, set_other _ _ (by omega), hT1, set_other _ _ (by omega)]; exact hTf
      have n2 : T2.next = S.next + 1 := by rw [hT2, set_next, hT1, set_next]; exact hTn
      have hbits2 : bitsW W part n0 ++ (bitsN n v).take (n - m) = bitsW (W ++ W') pt nn ++ [b == 1] := by
        rw [show n - m = n - (m + 1) + 1 by omega, bitsN_take _ _ _ (by omega), ← List.append_assoc, hbits, show n - 1 - (n - (m + 1)) = m by omega, hb]
      by_cases h8 : nn + 1 = 8
      · have c5 : (((nn + 1 : Nat) : Int) == 8) = true := by rw [h8]; rfl
        have c6 : (0 : Int) ≤ (W'.length : Int) := by omega
        have c7 : (W'.length : Int) < ((9 : Nat) : Int) := by omega
        have w8 : IntKind.wrap .i64 ((W'.length : Int) + 1) = ((W'.length + 1 : Nat) : Int) := by rw [wr _ (by omega)]; omega
        have e3 : putV (.ptr S.next W'.length) [.int .u8 ((2 * pt + b : Nat) : Int)] T2 = some (T2.set S.next (some (u8s (W' ++ [2 * pt + b]) ++ List.replicate (9 - (W'.length + 1)) (.int .u8 0)))) := by
          rw [putV_p f2 (by simp [u8s_len]; omega)]
          congr 3
          have := setCells_append [.int .u8 ((2 * pt + b : Nat) : Int)] (u8s W') [.int .u8 0] (List.replicate (9 - (W'.length + 1)) (.int .u8 0)) rfl
          rw [u8s_len, List.append_assoc, List.singleton_append, ← List.replicate_succ, show 9 - (W'.length + 1) + 1 = 9 - W'.length by omega] at this
          rw [this, u8s_app]
          rfl
        obtain ⟨T3, hT3⟩ : ∃ T3, T3 = T2.set S.next (some (u8s (W' ++ [2 * pt + b]) ++ List.replicate (9 - (W'.length + 1)) (.int .u8 0))) := ⟨_, rfl⟩
        rw [← hT3] at e3
        have b3 : T3.blk p = some [if W = [] then .nils else .hs q 0 W.length 1, .int .u8 ((2 * pt + b : Nat) : Int), .int .i64 ((nn + 1 : Nat) : Int)] := by rw [hT3, set_other _ _ (by omega)]; exact b2
        have e4 := put3_1 (x := .int .u8 0) b3
        obtain ⟨T4, hT4⟩ : ∃ T4, T4 = T3.set p (some [if W = [] then .nils else .hs q 0 W.length 1, .int .u8 0, .int .i64 ((nn + 1 : Nat) : Int)]) := ⟨_, rfl⟩
        rw [← hT4] at e4
        have b4 : T4.blk p = some [if W = [] then .nils else .hs q 0 W.length 1, .int .u8 0, .int .i64 ((nn + 1 : Nat) : Int)] := by rw [hT4]; exact set_blk _ _ _
        have e5 := put3_2 (x := .int .i64 0) b4
        refine .inr ⟨m, _, by omega, by simp only [zB, decide_true, decide_false, Bool.false_eq_true, if_false, if_true, List.getElem?_cons_zero, List.getElem?_cons_succ, beq_self_eq_true, bne_self_eq_false, Int.reduceBNe, Int.reduceBEq, Int.reduceLT, Int.reduceGT, Int.reduceLE, Int.reduceGE, Nat.reduceAdd, Nat.reduceMul, Nat.reduceLeDiff, hm1, c4, hTp, aShr, w4, w5, w6, e1, b1, w7, e2, b2, c5, c6, c7, Int.toNat_natCast, Nat.mul_one, e3, e4, e5, w8, w3]; rfl, W' ++ [2 * pt + b], 0, 0, T4.set p (some [if W = [] then .nils else .hs q 0 W.length 1, .int .u8 0, .int .i64 0]), by omega, ?_, set_blk _ _ _, ?_, ?_, ?_, ?_, by omega, by simp, fun x hx => ?_⟩
        · rw [List.length_append]; rfl
        · rw [set_other _ _ (by omega), hT4, set_other _ _ (by omega), hT3, set_blk, List.length_append]; rfl
        · rw [hT4, hT3]; exact ((F2.set (.inr (Nat.le_refl _)) _).set (.inl (by simp)) _).set (.inl (by simp)) _
        · rw [set_next, hT4, set_next, hT3, set_next]; exact n2
        · rw [hbits2]
          have h7 : nn = 7 := by omega
          subst h7
          have e8 : bitsN 8 (2 * pt + b) = bitsN 7 pt ++ [b == 1] := bitsN_snoc 7 pt b hb2
          have e0 : bitsN 0 0 = [] := rfl
          simp only [bitsW, List.flatMap_append, List.flatMap_cons, List.flatMap_nil, List.append_nil, e8, e0, List.append_assoc]
        · rcases List.mem_append.1 hx with hx | hx
          · exact hW' x hx
          · rw [List.mem_singleton.1 hx]; omega
      · have c5 : (((nn + 1 : Nat) : Int) == 8) = false := by simp; omega
        refine .inr ⟨m, _, by omega, by simp only [zB, decide_true, decide_false, Bool.false_eq_true, if_false, if_true, List.getElem?_cons_zero, List.getElem?_cons_succ, beq_self_eq_true, bne_self_eq_false, Int.reduceBNe, Int.reduceBEq, Int.reduceLT, Int.reduceGT, Int.reduceLE, Int.reduceGE, Nat.reduceAdd, Nat.reduceMul, Nat.reduceLeDiff, hm1, c4, hTp, aShr, w4, w5, w6, e1, b1, w7, e2, b2, c5, w3], W', 2 * pt + b, nn + 1, T2, by omega, rfl, b2, f2, F2, n2, ?_, by omega, by rw [Nat.pow_succ]; omega, hW'⟩
        rw [hbits2]
        simp only [bitsW, List.append_assoc, bitsN_snoc nn pt b hb2]
end
def strB (l : List Nat) : ByteArray := ⟨(l.map UInt8.ofNat).toArray⟩
theorem strB_size (l : List Nat) : (strB l).size = l.length := by simp [strB, ByteArray.size]
theorem bytesOf_u8s : ∀ {l : List Nat}, (∀ x ∈ l, x < 256) → bytesOf (u8s l) = some (l.map UInt8.ofNat)
  | [], _ => rfl
  | x :: l, h => by
    have ih := bytesOf_u8s (l := l) fun y hy => h y (by simp [hy])
    show (match bytesOf (u8s l) with | some r => some (UInt8.ofNat ((x : Int).toNat) :: r) | none => none) = _
    rw [ih]; rfl
theorem b2s_hs {S : Heap} {q : Nat} {l : List Nat} (h : S.blk q = some (u8s l)) (hl : ∀ x ∈ l, x < 256) : aB2S (.hs q 0 l.length 1) S = some (strB l) := by
  simp only [aB2S, h, Nat.zero_add, u8s_len, Nat.le_refl, and_self, if_true, List.drop_zero]
  rw [List.take_of_length_le (by rw [u8s_len]; exact Nat.le_refl _), bytesOf_u8s hl]; rfl
theorem b2s_H {S : Heap} {p q : Nat} {W : List Nat} {part n : Nat} (h : WrX S p q W part n) : aB2S (if W = [] then .nils else .hs q 0 W.length 1) S = some (strB W) := by
  by_cases h0 : W = []
  · subst h0; rfl
  · rw [if_neg h0]; exact b2s_hs (h.row h0).1 h.b8
theorem strB_app (l m : List Nat) : strB l ++ strB m = strB (l ++ m) := by
  apply ByteArray.ext
  simp [strB]
theorem strB_get (l : List Nat) (i : Nat) : (strB l).data[i]? = (l[i]?).map UInt8.ofNat := by simp [strB]
/-- The bytes with zeros at the end. -/
def pad (W : List Nat) (part n : Nat) : List Nat := W ++ (if n = 0 then [] else [part * 2 ^ (8 - n) % 256])
theorem pad_lt {W : List Nat} {part n : Nat} (h : ∀ x ∈ W, x < 256) : ∀ x ∈ pad W part n, x < 256 := by
  intro x hx
  rcases List.mem_append.1 hx with hx | hx
  · exact h x hx
  · split at hx
    · simp at hx
    · rw [List.mem_singleton.1 hx]; exact Nat.mod_lt _ (by omega)
theorem hasB {s : ByteArray} : ∀ {l : List Nat} {o : Nat}, (∀ x ∈ l, x < 256) → (∀ i (h : i < l.length), s.data[o + i]? = some (UInt8.ofNat l[i])) → o + l.length ≤ s.size → Has s (8 * o) (l.flatMap (bitsN 8))
  | [], o, _, _, hs => Has.nil (by simp at hs; omega)
  | x :: l, o, hx, hd, hs => by
    simp only [List.length_cons] at hs
    rw [List.flatMap_cons, Has.app, bitsN_len]
    refine ⟨?_, ?_⟩
    · have h0 := hd 0 (by simp)
      have hx0 := hx x (by simp)
      simp only [List.getElem_cons_zero, Nat.add_zero] at h0
      have hn : num s (8 * o) 8 = x := by
        have := num_byte (s := s) (a := 8 * o) (b := UInt8.ofNat x) (by rw [Nat.mul_div_cancel_left _ (by omega)]; exact h0) 8 (by omega)
        rw [this]
        have e : (UInt8.ofNat x).toNat = x := by simp [UInt8.toNat_ofNat']; omega
        rw [e, Nat.mul_mod_right]
        simp; omega
      have := bitsN_of (s := s) (n := 8) (a := 8 * o) (by omega)
      rw [hn] at this
      exact this
    · have := hasB (s := s) (l := l) (o := o + 1) (fun y hy => hx y (by simp [hy])) (fun i h => by
        have := hd (i + 1) (by simp; omega)
        rw [show o + (i + 1) = o + 1 + i by omega] at this
        simpa using this) (by omega)
      rw [show 8 * (o + 1) = 8 * o + 8 by omega] at this
      exact this
/-- The string that begins with the bytes of a writer has its bits. -/
theorem has_pad {W : List Nat} {part n : Nat} (hW : ∀ x ∈ W, x < 256) (hn : n < 8) (hp : part < 2 ^ n) {s : ByteArray} (hd : ∀ i (h : i < (pad W part n).length), s.data[i]? = some (UInt8.ofNat (pad W part n)[i])) (hs : (pad W part n).length ≤ s.size) :
    Has s 0 (bitsW W part n) := by
  have h := hasB (s := s) (l := pad W part n) (o := 0) (pad_lt hW) (fun i h => by rw [Nat.zero_add]; exact hd i h) (by omega)
  rw [Nat.mul_zero] at h
  unfold pad at h
  unfold bitsW
  by_cases h0 : n = 0
  · subst h0
    simpa [bitsN] using h
  · rw [if_neg h0, List.flatMap_append, List.flatMap_cons, List.flatMap_nil, List.append_nil] at h
    have h1 : part * 2 ^ (8 - n) < 256 := by
      have : part * 2 ^ (8 - n) < 2 ^ n * 2 ^ (8 - n) := Nat.mul_lt_mul_of_pos_right hp (Nat.pow_pos (by omega))
      rw [← Nat.pow_add, show n + (8 - n) = 8 by omega] at this
      exact this
    have h2 : bitsN 8 (part * 2 ^ (8 - n) % 256) = bitsN n part ++ bitsN (8 - n) (part * 2 ^ (8 - n)) := by
      rw [Nat.mod_eq_of_lt h1, show bitsN 8 = bitsN (n + (8 - n)) by congr 1; omega, bitsN_add, Nat.mul_div_cancel _ (Nat.pow_pos (by omega))]
    rw [h2, ← List.append_assoc, Has.app] at h
    exact h.1
/-- Bits as characters. -/
def bitC (b : Bool) : Nat := if b then 49 else 48
section
variable {B : CallF} (hB : Silent B) (k : Nat) {S : Heap} {p q : Nat} {bs : List Bool}
include hB
theorem write_c : ∃ S', Cn B (k + 1) f_bits_Write 0 [] S = some (.ptr S.next 0, S') ∧ Wr S' S.next S.next [] ∧ Fr S S' [] := by
  rw [c_bits_Write _ _ _ (hB.no _ _ _ _ (kn_no (by decide))), T_bits_Write]
  exact ⟨S.alloc [.nils, .int .u8 0, .int .i64 0], by simp only [zB, decide_true, decide_false, Bool.false_eq_true, if_false, if_true, List.getElem?_cons_zero, List.getElem?_cons_succ, beq_self_eq_true, bne_self_eq_false, Int.reduceBNe, Int.reduceBEq, Int.reduceLT, Int.reduceGT, Int.reduceLE, Int.reduceGE, Nat.reduceAdd, Nat.reduceMul, Nat.reduceLeDiff], ⟨[], 0, 0, ⟨alloc_blk _ _, fun h => absurd rfl h, fun _ => rfl, Nat.lt_succ_self _, by omega, by omega, by simp⟩, rfl⟩, Fr.alloc _ _ _⟩
theorem wlen_c (h : Wr S p q bs) (hb : bs.length ≤ 4000000000) : Cn B (k + 1) f_bits_Writer_Len 0 [.ptr p 0] S = some (.int .i64 (bs.length : Int), S) := by
  obtain ⟨W, part, n, hX, rfl⟩ := h
  rw [bitsW_len] at hb ⊢
  rw [c_bits_Writer_Len _ _ _ _ (hB.no _ _ _ _ (kn_no (by decide))), T_bits_Writer_Len]
  have w1 : IntKind.wrap .i64 (8 * (W.length : Int)) = 8 * W.length := wr _ (by omega)
  have w2 : IntKind.wrap .i64 (8 * (W.length : Int) + n) = ((8 * W.length + n : Nat) : Int) := by rw [wr _ (by omega)]; omega
  simp only [zB, decide_true, decide_false, Bool.false_eq_true, if_false, if_true, List.getElem?_cons_zero, List.getElem?_cons_succ, beq_self_eq_true, bne_self_eq_false, Int.reduceBNe, Int.reduceBEq, Int.reduceLT, Int.reduceGT, Int.reduceLE, Int.reduceGE, Nat.reduceAdd, Nat.reduceMul, Nat.reduceLeDiff, hX.blk, lenH, w1, w2]
theorem wbytes_c {W : List Nat} {part n : Nat} (h : WrX S p q W part n) (hb : W.length ≤ 1000000000) : Cn B (k + 1) f_bits_Writer_Bytes 0 [.ptr p 0] S = some (.str (strB (pad W part n)), S) := by
  rw [c_bits_Writer_Bytes _ _ _ _ (hB.no _ _ _ _ (kn_no (by decide))), T_bits_Writer_Bytes]
  have e1 := b2s_H h
  have hn := h.n8
  by_cases h0 : n = 0
  · subst h0
    have c1 : (((0 : Nat) : Int) == 0) = true := rfl
    simp only [zB, decide_true, decide_false, Bool.false_eq_true, if_false, if_true, List.getElem?_cons_zero, List.getElem?_cons_succ, beq_self_eq_true, bne_self_eq_false, Int.reduceBNe, Int.reduceBEq, Int.reduceLT, Int.reduceGT, Int.reduceLE, Int.reduceGE, Nat.reduceAdd, Nat.reduceMul, Nat.reduceLeDiff, h.blk, c1, e1, pad, List.append_nil]
  · have c1 : ((n : Int) == 0) = false := by simp; omega
    have w1 : IntKind.wrap .i64 (8 - (n : Int)) = ((8 - n : Nat) : Int) := by rw [wr _ (by omega)]; omega
    have w2 := shl8 part (8 - n) (by omega)
    have e2 : aB2S (.is 1 [.int .u8 ((part * 2 ^ (8 - n) % 256 : Nat) : Int)]) S = some (strB [part * 2 ^ (8 - n) % 256]) := by
      have hlt : part * 2 ^ (8 - n) % 256 < 256 := Nat.mod_lt _ (by omega)
      generalize part * 2 ^ (8 - n) % 256 = x at hlt
      rfl
    have e3 : aStr .add (strB W) (strB [part * 2 ^ (8 - n) % 256]) = some (.str (strB (pad W part n))) := by
      have hsz : ¬ ((((strB W).size + (strB [part * 2 ^ (8 - n) % 256]).size : Nat) : Int) > IntKind.i64.max) := by
        rw [strB_size, strB_size]
        simp only [IntKind.max, IntKind.signed, IntKind.bits, List.length_cons, List.length_nil]
        simp; omega
      unfold aStr
      rw [if_neg hsz, strB_app]
      unfold pad
      rw [if_neg h0]
    simp only [zB, decide_true, decide_false, Bool.false_eq_true, if_false, if_true, List.getElem?_cons_zero, List.getElem?_cons_succ, beq_self_eq_true, bne_self_eq_false, Int.reduceBNe, Int.reduceBEq, Int.reduceLT, Int.reduceGT, Int.reduceLE, Int.reduceGE, Nat.reduceAdd, Nat.reduceMul, Nat.reduceLeDiff, h.blk, c1, e1, w1, aShl, w2, e2, e3]
end
def L2 (x : Nat) : Nat := if x = 0 then 0 else Nat.log2 x + 1
theorem L2_eq {x n : Nat} (h1 : 2 ^ n ≤ x) (h2 : x < 2 ^ (n + 1)) : L2 x = n + 1 := by
  have h0 : x ≠ 0 := by have : 0 < 2 ^ n := Nat.pow_pos (by omega); omega
  unfold L2
  rw [if_neg h0, (Nat.log2_eq_iff h0).2 ⟨h1, h2⟩]
theorem L2_spec {x : Nat} (h : x ≠ 0) : 2 ^ (L2 x - 1) ≤ x ∧ x < 2 ^ L2 x ∧ 0 < L2 x := by
  unfold L2
  rw [if_neg h]
  have := (Nat.log2_eq_iff h (k := Nat.log2 x)).1 rfl
  exact ⟨this.1, this.2, by omega⟩
theorem L2_div {x k : Nat} (h : x / 2 ^ k ≠ 0) : L2 x = L2 (x / 2 ^ k) + k := by
  obtain ⟨h1, h2, h3⟩ := L2_spec h
  have hk : 0 < 2 ^ k := Nat.pow_pos (by omega)
  have e1 : 2 ^ (L2 (x / 2 ^ k) - 1 + k) ≤ x := by
    rw [Nat.pow_add]
    exact Nat.le_trans (Nat.mul_le_mul_right _ h1) (Nat.div_mul_le_self _ _)
  have e2 : x < 2 ^ (L2 (x / 2 ^ k) - 1 + k + 1) := by
    rw [show L2 (x / 2 ^ k) - 1 + k + 1 = L2 (x / 2 ^ k) + k by omega, Nat.pow_add]
    exact (Nat.div_lt_iff_lt_mul hk).1 h2
  rw [L2_eq e1 e2]; omega
theorem lentab : ∀ b : Fin 256, (ByteArray.mk #[0, 1, 2, 2, 3, 3, 3, 3, 4, 4, 4, 4, 4, 4, 4, 4, 5, 5, 5, 5, 5, 5, 5, 5, 5, 5, 5, 5, 5, 5, 5, 5, 6, 6, 6, 6, 6, 6, 6, 6, 6, 6, 6, 6, 6, 6, 6, 6, 6, 6, 6, 6, 6, 6, 6, 6, 6, 6, 6, 6, 6, 6, 6, 6, 7, 7, 7, 7, 7, 7, 7, 7, 7, 7, 7, 7, 7, 7, 7, 7, 7, 7, 7, 7, 7, 7, 7, 7, 7, 7, 7, 7, 7, 7, 7, 7, 7, 7, 7, 7, 7, 7, 7, 7, 7, 7, 7, 7, 7, 7, 7, 7, 7, 7, 7, 7, 7, 7, 7, 7, 7, 7, 7, 7, 7, 7, 7, 7, 8, 8, 8, 8, 8, 8, 8, 8, 8, 8, 8, 8, 8, 8, 8, 8, 8, 8, 8, 8, 8, 8, 8, 8, 8, 8, 8, 8, 8, 8, 8, 8, 8, 8, 8, 8, 8, 8, 8, 8, 8, 8, 8, 8, 8, 8, 8, 8, 8, 8, 8, 8, 8, 8, 8, 8, 8, 8, 8, 8, 8, 8, 8, 8, 8, 8, 8, 8, 8, 8, 8, 8, 8, 8, 8, 8, 8, 8, 8, 8, 8, 8, 8, 8, 8, 8, 8, 8, 8, 8, 8, 8, 8, 8, 8, 8, 8, 8, 8, 8, 8, 8, 8, 8, 8, 8, 8, 8, 8, 8, 8, 8, 8, 8, 8, 8, 8, 8, 8, 8, 8, 8, 8, 8, 8, 8, 8, 8]).data[b.val]? = some (UInt8.ofNat (L2 b.val)) ∧ (UInt8.ofNat (L2 b.val)).toNat = L2 b.val ∧ L2 b.val ≤ 8 := by decide +kernel
section
variable {B : CallF} (hB : Silent B) (k : Nat) {S : Heap} {p q : Nat} {bs : List Bool}
include hB
theorem len64_c (x : Nat) (hx : x < 4294967296) : Cn B (k + 1) f_math_bits_Len64 0 [.int .u64 (x : Int)] S = some (.int .i64 (L2 x : Int), S) := by
  rw [c_math_bits_Len64 _ _ _ _ (hB.no _ _ _ _ (kn_no (by decide))), T_math_bits_Len64]
  have c1 : ¬ ((x : Int) ≥ 4294967296) := by omega
  have hs : ∀ (y j : Nat), j ≤ 64 → shrI .u64 (y : Int) ((j : Nat) : Int) = ((y / 2 ^ j : Nat) : Int) := fun y j h => shr64 y j h
  have s16 : ∀ y : Nat, shrI .u64 (y : Int) 16 = ((y / 65536 : Nat) : Int) := fun y => hs y 16 (by omega)
  have s8 : ∀ y : Nat, shrI .u64 (y : Int) 8 = ((y / 256 : Nat) : Int) := fun y => hs y 8 (by omega)
  have w0 : IntKind.wrap .i64 (0 + 16) = 16 := wr _ (by omega)
  have w1 : IntKind.wrap .i64 (0 + 8) = 8 := wr _ (by omega)
  have w2 : IntKind.wrap .i64 (16 + 8) = 24 := wr _ (by omega)
  have fin : ∀ (y m : Nat), y < 256 → m ≤ 24 → (0 : Int) ≤ IntKind.wrap .u8 (y : Int) ∧ IntKind.wrap .u8 (y : Int) = (y : Int) ∧ (ByteArray.mk #[0, 1, 2, 2, 3, 3, 3, 3, 4, 4, 4, 4, 4, 4, 4, 4, 5, 5, 5, 5, 5, 5, 5, 5, 5, 5, 5, 5, 5, 5, 5, 5, 6, 6, 6, 6, 6, 6, 6, 6, 6, 6, 6, 6, 6, 6, 6, 6, 6, 6, 6, 6, 6, 6, 6, 6, 6, 6, 6, 6, 6, 6, 6, 6, 7, 7, 7, 7, 7, 7, 7, 7, 7, 7, 7, 7, 7, 7, 7, 7, 7, 7, 7, 7, 7, 7, 7, 7, 7, 7, 7, 7, 7, 7, 7, 7, 7, 7, 7, 7, 7, 7, 7, 7, 7, 7, 7, 7, 7, 7, 7, 7, 7, 7, 7, 7, 7, 7, 7, 7, 7, 7, 7, 7, 7, 7, 7, 7, 8, 8, 8, 8, 8, 8, 8, 8, 8, 8, 8, 8, 8, 8, 8, 8, 8, 8, 8, 8, 8, 8, 8, 8, 8, 8, 8, 8, 8, 8, 8, 8, 8, 8, 8, 8, 8, 8, 8, 8, 8, 8, 8, 8, 8, 8, 8, 8, 8, 8, 8, 8, 8, 8, 8, 8, 8, 8, 8, 8, 8, 8, 8, 8, 8, 8, 8, 8, 8, 8, 8, 8, 8, 8, 8, 8, 8, 8, 8, 8, 8, 8, 8, 8, 8, 8, 8, 8, 8, 8, 8, 8, 8, 8, 8, 8, 8, 8, 8, 8, 8, 8, 8, 8, 8, 8, 8, 8, 8, 8, 8, 8, 8, 8, 8, 8, 8, 8, 8, 8, 8, 8, 8, 8, 8, 8, 8, 8]).data[y]? = some (UInt8.ofNat (L2 y)) ∧ IntKind.wrap .i64 ((m : Int) + IntKind.wrap .i64 ((UInt8.toNat (UInt8.ofNat (L2 y)) : Nat) : Int)) = ((L2 y + m : Nat) : Int) := fun y m hy hm => by
    have h1 : IntKind.wrap .u8 (y : Int) = (y : Int) := wb _ (by omega)
    obtain ⟨t1, t2, t3⟩ := lentab ⟨y, hy⟩
    simp only at t1 t2 t3
    refine ⟨by rw [h1]; omega, h1, t1, ?_⟩
    rw [t2, wr (L2 y : Int) (by omega), wr _ (by omega)]; omega
  by_cases h1 : x ≥ 65536
  · have c2 : (x : Int) ≥ 65536 := by omega
    have d1 := L2_div (x := x) (k := 16) (by omega)
    rw [show (2 : Nat) ^ 16 = 65536 from rfl] at d1
    by_cases h2 : x / 65536 ≥ 256
    · have c3 : ((x / 65536 : Nat) : Int) ≥ 256 := by omega
      have d2 := L2_div (x := x / 65536) (k := 8) (by omega)
      rw [show (2 : Nat) ^ 8 = 256 from rfl] at d2
      obtain ⟨f1, f2, f3, f4⟩ := fin (x / 65536 / 256) 24 (by omega) (by omega)
      rw [show (((24 : Nat)) : Int) = 24 from rfl] at f4
      simp only [zB, decide_true, decide_false, Bool.false_eq_true, if_false, if_true, List.getElem?_cons_zero, List.getElem?_cons_succ, beq_self_eq_true, bne_self_eq_false, Int.reduceBNe, Int.reduceBEq, Int.reduceLT, Int.reduceGT, Int.reduceLE, Int.reduceGE, Nat.reduceAdd, Nat.reduceMul, Nat.reduceLeDiff, c1, c2, s16, w0, c3, s8, w2, f2, Int.toNat_natCast, ba_get, f3, f4, show (0 : Int) ≤ ((x / 65536 / 256 : Nat) : Int) by omega]
      congr 3; omega
    · have c3 : ¬ ((x / 65536 : Nat) : Int) ≥ 256 := by omega
      obtain ⟨f1, f2, f3, f4⟩ := fin (x / 65536) 16 (by omega) (by omega)
      rw [show (((16 : Nat)) : Int) = 16 from rfl] at f4
      simp only [zB, decide_true, decide_false, Bool.false_eq_true, if_false, if_true, List.getElem?_cons_zero, List.getElem?_cons_succ, beq_self_eq_true, bne_self_eq_false, Int.reduceBNe, Int.reduceBEq, Int.reduceLT, Int.reduceGT, Int.reduceLE, Int.reduceGE, Nat.reduceAdd, Nat.reduceMul, Nat.reduceLeDiff, c1, c2, s16, w0, c3, f2, Int.toNat_natCast, ba_get, f3, f4, show (0 : Int) ≤ ((x / 65536 : Nat) : Int) by omega]
      congr 3; omega
  · have c2 : ¬ (x : Int) ≥ 65536 := by omega
    by_cases h2 : x ≥ 256
    · have c3 : (x : Int) ≥ 256 := by omega
      have d2 := L2_div (x := x) (k := 8) (by omega)
      rw [show (2 : Nat) ^ 8 = 256 from rfl] at d2
      obtain ⟨f1, f2, f3, f4⟩ := fin (x / 256) 8 (by omega) (by omega)
      rw [show (((8 : Nat)) : Int) = 8 from rfl] at f4
      simp only [zB, decide_true, decide_false, Bool.false_eq_true, if_false, if_true, List.getElem?_cons_zero, List.getElem?_cons_succ, beq_self_eq_true, bne_self_eq_false, Int.reduceBNe, Int.reduceBEq, Int.reduceLT, Int.reduceGT, Int.reduceLE, Int.reduceGE, Nat.reduceAdd, Nat.reduceMul, Nat.reduceLeDiff, c1, c2, c3, s8, w1, f2, Int.toNat_natCast, ba_get, f3, f4, show (0 : Int) ≤ ((x / 256 : Nat) : Int) by omega]
      congr 3; omega
    · have c3 : ¬ (x : Int) ≥ 256 := by omega
      obtain ⟨f1, f2, f3, f4⟩ := fin x 0 (by omega) (by omega)
      rw [show (((0 : Nat)) : Int) = 0 from rfl] at f4
      simp only [zB, decide_true, decide_false, Bool.false_eq_true, if_false, if_true, List.getElem?_cons_zero, List.getElem?_cons_succ, beq_self_eq_true, bne_self_eq_false, Int.reduceBNe, Int.reduceBEq, Int.reduceLT, Int.reduceGT, Int.reduceLE, Int.reduceGE, Nat.reduceAdd, Nat.reduceMul, Nat.reduceLeDiff, c1, c2, c3, f2, Int.toNat_natCast, ba_get, f3, f4, show (0 : Int) ≤ (x : Int) by omega]
end
/-- The code of an unsigned number. -/
def ueC (v : Nat) : List Bool := bitsN (2 * L2 (v + 1) - 1) (v + 1)
def ukC (k v : Nat) : List Bool := ueC (v / 2 ^ k) ++ bitsN k (v % 2 ^ k)
theorem L2_le {v : Nat} (h : v < 4294967296) : L2 v ≤ 32 := by
  by_cases h0 : v = 0
  · subst h0; decide
  · obtain ⟨h1, h2, h3⟩ := L2_spec h0
    by_cases h4 : L2 v ≤ 32
    · exact h4
    · have : 2 ^ 32 ≤ 2 ^ (L2 v - 1) := Nat.pow_le_pow_right (by omega) (by omega)
      omega
theorem ueC_len (v : Nat) : (ueC v).length = 2 * L2 (v + 1) - 1 := by simp [ueC, bitsN_len]
section
variable {B : CallF} (hB : Silent B) (k : Nat) {S : Heap} {p q : Nat} {bs : List Bool}
include hB
theorem putue_c (h : Wr S p q bs) (v : Nat) (hv : v ≤ 4294967294) (hb : bs.length ≤ 900000000) :
    ∃ S' q', Cn B (k + 2) f_golomb_PutUe 0 [.ptr p 0, .int .u64 (v : Int)] S = some (.int .i64 0, S') ∧ Puts S S' p q q' bs (bs ++ ueC v) := by
  rw [c_golomb_PutUe _ _ _ _ _ (hB.no _ _ _ _ (kn_no (by decide))), T_golomb_PutUe]
  have c1 : ¬ ((v : Int) > 4294967294) := by omega
  have w1 : IntKind.wrap .u64 ((v : Int) + 1) = ((v + 1 : Nat) : Int) := by rw [wu _ (by omega)]; omega
  have e1 := len64_c hB k (S := S) (v + 1) (by omega)
  obtain ⟨h1, h2, h3⟩ := L2_spec (x := v + 1) (by omega)
  have h4 := L2_le (v := v + 1) (by omega)
  have w2 : IntKind.wrap .i64 (2 * (L2 (v + 1) : Int)) = 2 * (L2 (v + 1) : Int) := wr _ (by omega)
  have w3 : IntKind.wrap .i64 (2 * (L2 (v + 1) : Int) - 1) = ((2 * L2 (v + 1) - 1 : Nat) : Int) := by rw [wr _ (by omega)]; omega
  obtain ⟨S', q', e2, h5⟩ := put_c hB k h (2 * L2 (v + 1) - 1) (v + 1) (by omega) (Nat.lt_of_lt_of_le h2 (Nat.pow_le_pow_right (by omega) (by omega))) (by omega)
  exact ⟨S', q', by simp only [zB, decide_true, decide_false, Bool.false_eq_true, if_false, if_true, List.getElem?_cons_zero, List.getElem?_cons_succ, beq_self_eq_true, bne_self_eq_false, Int.reduceBNe, Int.reduceBEq, Int.reduceLT, Int.reduceGT, Int.reduceLE, Int.reduceGE, Nat.reduceAdd, Nat.reduceMul, Nat.reduceLeDiff, c1, w1, e1, w2, w3, e2], h5⟩
theorem putuk_c (h : Wr S p q bs) (n v : Nat) (hn : n ≤ 8) (hv : v ≤ 4294967294) (hb : bs.length ≤ 800000000) :
    ∃ S' q', Cn B (k + 3) f_golomb_PutUk 0 [.ptr p 0, .int .i64 (n : Int), .int .u64 (v : Int)] S = some (.int .i64 0, S') ∧ Puts S S' p q q' bs (bs ++ ukC n v) := by
  rw [c_golomb_PutUk _ _ _ _ _ _ (hB.no _ _ _ _ (kn_no (by decide))), T_golomb_PutUk]
  have c1 : ¬ ((n : Int) < 0) := by omega
  have c2 : ¬ ((n : Int) > 8) := by omega
  have hd : v / 2 ^ n ≤ v := Nat.div_le_self _ _
  have w1 := shr64 v n (by omega)
  have c3 : ¬ (((v / 2 ^ n : Nat) : Int) > 4294967294) := by omega
  obtain ⟨S1, q1, e1, h1⟩ := putue_c hB k h (v / 2 ^ n) (by omega) (by omega)
  have hp8 : 2 ^ n ≤ 2 ^ 8 := Nat.pow_le_pow_right (by omega) hn
  have hp0 : 0 < 2 ^ n := Nat.pow_pos (by omega)
  have w2 : shlI .u64 1 (n : Int) = ((2 ^ n : Nat) : Int) := by
    have := shl64 1 n (by omega) (by omega)
    rw [Nat.one_mul] at this
    exact this
  have w3 : IntKind.wrap .u64 (((2 ^ n : Nat) : Int) - 1) = ((2 ^ n - 1 : Nat) : Int) := by rw [wu _ (by omega)]; omega
  have w4 : andI .u64 (v : Int) ((2 ^ n - 1 : Nat) : Int) = ((v % 2 ^ n : Nat) : Int) := by
    rw [and64 _ _ (by omega) (by omega), Nat.and_two_pow_sub_one_eq_mod]
  have hl := ueC_len (v / 2 ^ n)
  have hl2 := L2_le (v := v / 2 ^ n + 1) (by omega)
  obtain ⟨S2, q2, e2, h2⟩ := put_c hB (k + 1) h1.1 n (v % 2 ^ n) (by omega) (Nat.mod_lt _ hp0) (by rw [List.length_append]; omega)
  rw [List.append_assoc] at h2
  exact ⟨S2, q2, by simp only [zB, decide_true, decide_false, Bool.false_eq_true, if_false, if_true, List.getElem?_cons_zero, List.getElem?_cons_succ, beq_self_eq_true, bne_self_eq_false, Int.reduceBNe, Int.reduceBEq, Int.reduceLT, Int.reduceGT, Int.reduceLE, Int.reduceGE, Nat.reduceAdd, Nat.reduceMul, Nat.reduceLeDiff, c1, c2, aShr, w1, c3, e1, aShl, w2, w3, w4, e2], h1.trans h2⟩
end
def sizedI (n : Int) : Bool := n == 4 || n == 15 || n == 16
theorem sizedI_iff (n : Int) : sizedI n = true ↔ n = 4 ∨ n = 15 ∨ n = 16 := by simp [sizedI, or_assoc]
def befL : List Nat := [0, 1, 3, 6, 10, 14, 18, 22, 26, 30, 34, 38, 42, 46, 50, 54, 58, 62]
def bef (t : Nat) : Nat := befL.getD t 0
def m3 (t : Int) : Int := if (3 : Int) < t then 3 else t
/-- The number of a pair, and the error. -/
def symR (t o : Int) : Int × Int := if t < 0 ∨ t > 16 ∨ o < 0 ∨ o > m3 t then (0, 3) else ((bef t.toNat : Int) + m3 t - o, 0)
def pairL : List (Nat × Nat) := (List.range 17).flatMap fun t => (List.range (min t 3 + 1)).map fun j => (t, min t 3 - j)
def pairR (n : Int) : Int × Int × Int := if n < 0 ∨ n ≥ 62 then (0, 0, 3) else (((pairL.getD n.toNat (0, 0)).1 : Int), ((pairL.getD n.toNat (0, 0)).2 : Int), 0)
def cutB (m : Nat) : Nat := L2 (m + 1) - 1
def cutD (m : Nat) : Nat := 2 ^ (cutB m + 1) - (m + 1)
theorem kn_pair {n : Int} (h : ¬ (0 ≤ n ∧ n ≤ 61)) : kn f_vlc_Pair [.int .i64 n] = false := by
  have h1 : decide (f_vlc_Pair ∈ [f_vlc_cut, f_spindleref18_cut]) = false := by decide
  have h2 : (decide (0 ≤ n) && decide (n ≤ 61)) = false := by simp; omega
  simp only [kn, knA, h1, Bool.false_and, Bool.and_assoc, h2, Bool.and_false, Bool.or_self]
theorem pair_all : ((List.range 62).all fun n => chk f_vlc_Pair [.int .i64 (n : Int)] (.tup [.int .i64 ((pairL.getD n (0, 0)).1 : Int), .int .i64 ((pairL.getD n (0, 0)).2 : Int), .int .i64 0])) = true := by kernel_rfl
theorem cut_all : ((List.range 16).all fun n => chk f_vlc_cut [.int .i64 (n : Int)] (.tup [.int .i64 (cutB n : Int), .int .i64 (cutD n : Int)])) = true := by kernel_rfl
theorem callK_fn {β : Type} {C : CallF} {f : Nat} {cap args : List AV} {S : Heap} {K : AV → Heap → Option β} (hf : ¬ yldId ≤ f) : callK C .none (.fn f [] cap) args S K = bO (C f 0 (args ++ cap) S) fun q => K q.1 q.2 := by
  simp only [callK, if_neg hf, OAn.way, OAn.cFrz, List.nil_append, Bool.false_eq_true, if_false]
section
variable {B : CallF} (hB : Silent B) (k : Nat) {S : Heap}
include hB
theorem before_c (t : Nat) (ht : t ≤ 17) : Cn B (k + 1) f_vlc_before 0 [.int .i64 (t : Int)] S = some (.int .i64 (bef t : Int), S) := by
  rw [c_vlc_before _ _ _ _ (hB.no _ _ _ _ (kn_no (by decide))), T_vlc_before]
  have h1 : (0 : Int) ≤ (t : Int) := by omega
  have h2 : (t : Int) < ((18 : Nat) : Int) := by omega
  have h3 : ([.int .i64 0, .int .i64 1, .int .i64 3, .int .i64 6, .int .i64 10, .int .i64 14, .int .i64 18, .int .i64 22, .int .i64 26, .int .i64 30, .int .i64 34, .int .i64 38, .int .i64 42, .int .i64 46, .int .i64 50, .int .i64 54, .int .i64 58, .int .i64 62] : List AV)[t]? = some (.int .i64 (bef t : Int)) := by
    show (befL.map fun (x : Nat) => AV.int .i64 (x : Int))[t]? = _
    have : t < befL.length := by show t < 18; omega
    rw [List.getElem?_map, List.getElem?_eq_getElem this]
    simp [bef, List.getD, List.getElem?_eq_getElem this]
  simp only [zB, decide_true, decide_false, Bool.false_eq_true, if_false, if_true, List.getElem?_cons_zero, List.getElem?_cons_succ, beq_self_eq_true, bne_self_eq_false, Int.reduceBNe, Int.reduceBEq, Int.reduceLT, Int.reduceGT, Int.reduceLE, Int.reduceGE, Nat.reduceAdd, Nat.reduceMul, Nat.reduceLeDiff, h1, h2, Int.toNat_natCast, Nat.mul_one, h3]
theorem sized_c (n : Int) : Cn B (k + 1) f_vlc_sized 0 [.int .i64 n] S = some (.bool (sizedI n), S) := by
  rw [c_vlc_sized _ _ _ _ (hB.no _ _ _ _ (kn_no (by decide))), T_vlc_sized]
  cases h1 : (n == 4)
  · cases h2 : (n == 15)
    · simp only [zB, decide_true, decide_false, Bool.false_eq_true, if_false, if_true, List.getElem?_cons_zero, List.getElem?_cons_succ, beq_self_eq_true, bne_self_eq_false, Int.reduceBNe, Int.reduceBEq, Int.reduceLT, Int.reduceGT, Int.reduceLE, Int.reduceGE, Nat.reduceAdd, Nat.reduceMul, Nat.reduceLeDiff, h1, h2, sizedI, Bool.false_or]
    · simp only [zB, decide_true, decide_false, Bool.false_eq_true, if_false, if_true, List.getElem?_cons_zero, List.getElem?_cons_succ, beq_self_eq_true, bne_self_eq_false, Int.reduceBNe, Int.reduceBEq, Int.reduceLT, Int.reduceGT, Int.reduceLE, Int.reduceGE, Nat.reduceAdd, Nat.reduceMul, Nat.reduceLeDiff, h1, h2, sizedI, Bool.false_or, Bool.true_or]
  · simp only [zB, decide_true, decide_false, Bool.false_eq_true, if_false, if_true, List.getElem?_cons_zero, List.getElem?_cons_succ, beq_self_eq_true, bne_self_eq_false, Int.reduceBNe, Int.reduceBEq, Int.reduceLT, Int.reduceGT, Int.reduceLE, Int.reduceGE, Nat.reduceAdd, Nat.reduceMul, Nat.reduceLeDiff, h1, sizedI, Bool.true_or]
theorem symbol_c (t o : Int) : Cn B (k + 2) f_vlc_Symbol 0 [.int .i64 t, .int .i64 o] S = some (.tup [.int .i64 (symR t o).1, .int .i64 (symR t o).2], S) := by
  rw [c_vlc_Symbol _ _ _ _ _ (hB.no _ _ _ _ (kn_no (by decide))), T_vlc_Symbol]
  unfold symR
  have hm : (if (3 : Int) < t then 3 else t) = m3 t := rfl
  by_cases h1 : t < 0
  · rw [if_pos (.inl h1)]; simp only [zB, decide_true, decide_false, Bool.false_eq_true, if_false, if_true, List.getElem?_cons_zero, List.getElem?_cons_succ, beq_self_eq_true, bne_self_eq_false, Int.reduceBNe, Int.reduceBEq, Int.reduceLT, Int.reduceGT, Int.reduceLE, Int.reduceGE, Nat.reduceAdd, Nat.reduceMul, Nat.reduceLeDiff, h1]
  by_cases h2 : t > 16
  · rw [if_pos (.inr (.inl h2))]; simp only [zB, decide_true, decide_false, Bool.false_eq_true, if_false, if_true, List.getElem?_cons_zero, List.getElem?_cons_succ, beq_self_eq_true, bne_self_eq_false, Int.reduceBNe, Int.reduceBEq, Int.reduceLT, Int.reduceGT, Int.reduceLE, Int.reduceGE, Nat.reduceAdd, Nat.reduceMul, Nat.reduceLeDiff, h1, h2]
  by_cases h3 : o < 0
  · rw [if_pos (.inr (.inr (.inl h3)))]; simp only [zB, decide_true, decide_false, Bool.false_eq_true, if_false, if_true, List.getElem?_cons_zero, List.getElem?_cons_succ, beq_self_eq_true, bne_self_eq_false, Int.reduceBNe, Int.reduceBEq, Int.reduceLT, Int.reduceGT, Int.reduceLE, Int.reduceGE, Nat.reduceAdd, Nat.reduceMul, Nat.reduceLeDiff, h1, h2, h3]
  by_cases h4 : o > m3 t
  · rw [if_pos (.inr (.inr (.inr h4)))]; simp only [zB, decide_true, decide_false, Bool.false_eq_true, if_false, if_true, List.getElem?_cons_zero, List.getElem?_cons_succ, beq_self_eq_true, bne_self_eq_false, Int.reduceBNe, Int.reduceBEq, Int.reduceLT, Int.reduceGT, Int.reduceLE, Int.reduceGE, Nat.reduceAdd, Nat.reduceMul, Nat.reduceLeDiff, h1, h2, h3, hm, h4]
  rw [if_neg (by simp only [not_or]; exact ⟨h1, h2, h3, h4⟩)]
  obtain ⟨n, rfl⟩ := Int.eq_ofNat_of_zero_le (show 0 ≤ t by omega)
  have e1 := before_c hB k (S := S) n (by omega)
  have hb : bef n ≤ 62 := by
    have : ∀ i : Fin 18, bef i.val ≤ 62 := by decide
    exact this ⟨n, by omega⟩
  have hm2 : m3 (n : Int) ≤ 3 ∧ m3 (n : Int) ≤ n ∧ 0 ≤ m3 (n : Int) := by unfold m3; split <;> omega
  have w1 : IntKind.wrap .i64 ((bef n : Int) + m3 (n : Int)) = (bef n : Int) + m3 (n : Int) := wr _ (by omega)
  have w2 : IntKind.wrap .i64 ((bef n : Int) + m3 (n : Int) - o) = (bef n : Int) + m3 (n : Int) - o := wr _ (by omega)
  simp only [zB, decide_true, decide_false, Bool.false_eq_true, if_false, if_true, List.getElem?_cons_zero, List.getElem?_cons_succ, beq_self_eq_true, bne_self_eq_false, Int.reduceBNe, Int.reduceBEq, Int.reduceLT, Int.reduceGT, Int.reduceLE, Int.reduceGE, Nat.reduceAdd, Nat.reduceMul, Nat.reduceLeDiff, h1, h2, h3, hm, h4, e1, w1, w2, Int.toNat_natCast]
theorem pair_c (n : Int) : Cn B (k + 2) f_vlc_Pair 0 [.int .i64 n] S = some (.tup [.int .i64 (pairR n).1, .int .i64 (pairR n).2.1, .int .i64 (pairR n).2.2], S) := by
  unfold pairR
  by_cases h1 : n < 0
  · rw [c_vlc_Pair _ _ _ _ (hB.no _ _ _ _ (kn_pair (by omega))), T_vlc_Pair, if_pos (.inl h1)]
    simp only [zB, decide_true, decide_false, Bool.false_eq_true, if_false, if_true, List.getElem?_cons_zero, List.getElem?_cons_succ, beq_self_eq_true, bne_self_eq_false, Int.reduceBNe, Int.reduceBEq, Int.reduceLT, Int.reduceGT, Int.reduceLE, Int.reduceGE, Nat.reduceAdd, Nat.reduceMul, Nat.reduceLeDiff, h1]
  by_cases h2 : n ≥ 62
  · rw [c_vlc_Pair _ _ _ _ (hB.no _ _ _ _ (kn_pair (by omega))), T_vlc_Pair, if_pos (.inr h2)]
    simp only [zB, decide_true, decide_false, Bool.false_eq_true, if_false, if_true, List.getElem?_cons_zero, List.getElem?_cons_succ, beq_self_eq_true, bne_self_eq_false, Int.reduceBNe, Int.reduceBEq, Int.reduceLT, Int.reduceGT, Int.reduceLE, Int.reduceGE, Nat.reduceAdd, Nat.reduceMul, Nat.reduceLeDiff, h1, h2]
  rw [if_neg (by simp only [not_or]; exact ⟨h1, h2⟩)]
  obtain ⟨i, rfl⟩ := Int.eq_ofNat_of_zero_le (show 0 ≤ n by omega)
  exact chk_c hB (List.all_eq_true.1 pair_all i (List.mem_range.2 (by omega))) _ _
theorem cut_c (m : Nat) (hm : m ≤ 15) : Cn B k f_vlc_cut 0 [.int .i64 (m : Int)] S = some (.tup [.int .i64 (cutB m : Int), .int .i64 (cutD m : Int)], S) :=
  chk_c hB (List.all_eq_true.1 cut_all m (List.mem_range.2 (by omega))) _ _
theorem order_c (i : Int) : Cn B (k + 1) f_vlc_order 0 [.int .i64 i] S = some (.agg [.fn f_vlc_order_1 [] [.ptr S.next 0], .fn f_vlc_order_2 [] [.ptr S.next 0]], S.alloc [.int .i64 i]) := by
  rw [c_vlc_order _ _ _ _ (hB.no _ _ _ _ (kn_no (by decide))), T_vlc_order]
  simp only [zB, decide_true, decide_false, Bool.false_eq_true, if_false, if_true, List.getElem?_cons_zero, List.getElem?_cons_succ, beq_self_eq_true, bne_self_eq_false, Int.reduceBNe, Int.reduceBEq, Int.reduceLT, Int.reduceGT, Int.reduceLE, Int.reduceGE, Nat.reduceAdd, Nat.reduceMul, Nat.reduceLeDiff]
/-- The functions of the classes. -/
def clsL (q : Nat) : List AV := [.fn f_vlc_order_1 [] [.ptr q 0], .fn f_vlc_order_2 [] [.ptr q 0], .fn f_vlc_order_1 [] [.ptr (q + 1) 0], .fn f_vlc_order_2 [] [.ptr (q + 1) 0], .fn f_vlc_order_1 [] [.ptr (q + 2) 0], .fn f_vlc_order_2 [] [.ptr (q + 2) 0], .fn f_vlc_classes_1 [] [], .fn f_vlc_classes_2 [] [], .fn f_golomb_Ue [] [], .fn f_golomb_PutUe [] []]
def rdF (q c : Nat) : AV := if c < 3 then .fn f_vlc_order_1 [] [.ptr (q + c) 0] else if c = 3 then .fn f_vlc_classes_1 [] [] else .fn f_golomb_Ue [] []
def wrF (q c : Nat) : AV := if c < 3 then .fn f_vlc_order_2 [] [.ptr (q + c) 0] else if c = 3 then .fn f_vlc_classes_2 [] [] else .fn f_golomb_PutUe [] []
omit hB in
theorem cls_rd (q c : Nat) (hc : c < 5) : (clsL q)[c * 2]? = some (rdF q c) := by
  match c, hc with
  | 0, _ => rfl
  | 1, _ => rfl
  | 2, _ => rfl
  | 3, _ => rfl
  | 4, _ => rfl
omit hB in
theorem cls_wr (q c : Nat) (hc : c < 5) : (clsL q)[c * 2 + 1]? = some (wrF q c) := by
  match c, hc with
  | 0, _ => rfl
  | 1, _ => rfl
  | 2, _ => rfl
  | 3, _ => rfl
  | 4, _ => rfl
theorem classes_c : ∃ S', Cn B (k + 2) f_vlc_classes 0 [] S = some (.agg (clsL S.next), S') ∧ Fr S S' [] ∧ S'.next = S.next + 3 ∧ ∀ i, i < 3 → S'.blk (S.next + i) = some [.int .i64 (i : Int)] := by
  rw [c_vlc_classes _ _ _ (hB.no _ _ _ _ (kn_no (by decide))), T_vlc_classes]
  have e1 := order_c hB k (S := S) 0
  have e2 := order_c hB k (S := S.alloc [.int .i64 0]) 1
  have e3 := order_c hB k (S := (S.alloc [.int .i64 0]).alloc [.int .i64 1]) 2
  refine ⟨((S.alloc [.int .i64 0]).alloc [.int .i64 1]).alloc [.int .i64 2], by simp only [zB, decide_true, decide_false, Bool.false_eq_true, if_false, if_true, List.getElem?_cons_zero, List.getElem?_cons_succ, beq_self_eq_true, bne_self_eq_false, Int.reduceBNe, Int.reduceBEq, Int.reduceLT, Int.reduceGT, Int.reduceLE, Int.reduceGE, Nat.reduceAdd, Nat.reduceMul, Nat.reduceLeDiff, e1, e2, e3] <;> rfl, ((Fr.alloc S _ _).alloc' _).alloc' _, rfl, fun i hi => ?_⟩
  have n1 : (S.alloc [.int .i64 0]).next = S.next + 1 := rfl
  have n2 : ((S.alloc [.int .i64 0]).alloc [.int .i64 1]).next = S.next + 2 := rfl
  match i, hi with
  | 0, _ => rw [alloc_other _ _ (by rw [n2]; omega), alloc_other _ _ (by rw [n1]; omega)]; exact alloc_blk _ _
  | 1, _ => rw [alloc_other _ _ (by rw [n2]; omega), ← n1]; exact alloc_blk _ _
  | 2, _ => rw [← n2]; exact alloc_blk _ _
end
/-- The number of a pair, as it is read in a class. -/
def numR (s : ByteArray) (c a : Nat) : Rn := if c = 3 then rU s 6 a else rUk s (c % 4) a
theorem rUk_zero (s : ByteArray) (a : Nat) : rUk s 0 a = rUe s a := by
  unfold rUk
  cases h : rUe s a with
  | error e => rfl
  | ok x =>
    obtain ⟨v, b⟩ := x
    have := rUe_ok h
    simp only
    rw [if_neg (by omega)]
    simp [num]
theorem numR_err {s : ByteArray} {c a : Nat} {e : Int} (h : numR s c a = .error e) : e = 4 ∨ e = 5 := by
  unfold numR at h
  split at h
  · unfold rU at h; split at h <;> cases h; exact .inr rfl
  · exact rUk_err h
theorem numR_ok {s : ByteArray} {c a v a' : Nat} (h : numR s c a = .ok (v, a')) : a ≤ a' ∧ a' ≤ 8 * s.size ∧ v < 4294967295 * 8 := by
  unfold numR at h
  split at h
  · unfold rU at h
    split at h
    · cases h
    · cases h
      have := num_lt s a 6
      exact ⟨by omega, by omega, by omega⟩
  · obtain ⟨h1, h2, h3⟩ := rUk_ok h
    have h4 : 2 ^ (c % 4) ≤ 2 ^ 3 := Nat.pow_le_pow_right (by omega) (by omega)
    have h5 : 4294967295 * 2 ^ (c % 4) ≤ 4294967295 * 8 := Nat.mul_le_mul_left _ h4
    exact ⟨by omega, h2, by omega⟩
/-- The code of the number of a pair in a class. -/
def clsC (c n : Nat) : List Bool := if c = 3 then bitsN 6 n else ukC (c % 4) n
theorem ukC_zero (n : Nat) : ukC 0 n = ueC n := by simp [ukC, bitsN]
section
variable {B : CallF} (hB : Silent B) (k : Nat) {S : Heap} {p q : Nat} {s : ByteArray} {a c : Nat}
include hB
theorem call_rd (h : Rdr S p s a) (hc : c < 5) (hq : c < 3 → S.blk (q + c) = some [.int .i64 (c : Int)] ∧ q + c < S.next ∧ q + c ≠ p) :
    ∃ S', (∀ {β : Type} (K : AV → Heap → Option β), callK (Cn B (k + 8)) .none (rdF q c) [.ptr p 0] S K = K (encU (numR s c a)) S') ∧ Rdr S' p s ((numR s c a).pos a) ∧ Fr S S' [p] := by
  have y1 : ¬ yldId ≤ f_vlc_order_1 := by decide
  have y2 : ¬ yldId ≤ f_vlc_classes_1 := by decide
  have y3 : ¬ yldId ≤ f_golomb_Ue := by decide
  by_cases h3 : c < 3
  · obtain ⟨hb, hl, hne⟩ := hq h3
    have hc4 : c % 4 = c := by omega
    obtain ⟨S', e, h1, f1⟩ := uk_c hB k h (n := c) (by omega)
    have e1 : Cn B (k + 8) f_vlc_order_1 0 [.ptr p 0, .ptr (q + c) 0] S = some (encU (rUk s c a), S') := by
      rw [c_vlc_order_1 _ _ _ _ _ (hB.no _ _ _ _ (kn_no (by decide))), T_vlc_order_1]
      cases hr : rUk s c a with
      | error e' => rw [hr] at e; simp only [zB, decide_true, decide_false, Bool.false_eq_true, if_false, if_true, List.getElem?_cons_zero, List.getElem?_cons_succ, beq_self_eq_true, bne_self_eq_false, Int.reduceBNe, Int.reduceBEq, Int.reduceLT, Int.reduceGT, Int.reduceLE, Int.reduceGE, Nat.reduceAdd, Nat.reduceMul, Nat.reduceLeDiff, hb, e, encU]
      | ok x => obtain ⟨v, b⟩ := x; rw [hr] at e; simp only [zB, decide_true, decide_false, Bool.false_eq_true, if_false, if_true, List.getElem?_cons_zero, List.getElem?_cons_succ, beq_self_eq_true, bne_self_eq_false, Int.reduceBNe, Int.reduceBEq, Int.reduceLT, Int.reduceGT, Int.reduceLE, Int.reduceGE, Nat.reduceAdd, Nat.reduceMul, Nat.reduceLeDiff, hb, e, encU]
    have r1 : rdF q c = .fn f_vlc_order_1 [] [.ptr (q + c) 0] := by unfold rdF; rw [if_pos h3]
    have r2 : numR s c a = rUk s c a := by unfold numR; rw [if_neg (by omega), hc4]
    rw [r1, r2]
    refine ⟨S', fun K => ?_, h1, f1⟩
    rw [callK_fn y1]
    simp only [List.cons_append, List.nil_append, e1, bO_s]
  · by_cases h4 : c = 3
    · subst h4
      obtain ⟨S', e, h1, f1⟩ := u_c hB (k + 5) h 6 (by omega)
      have e1 : Cn B (k + 8) f_vlc_classes_1 0 [.ptr p 0] S = some (encU (rU s 6 a), S') := by
        rw [c_vlc_classes_1 _ _ _ _ (hB.no _ _ _ _ (kn_no (by decide))), T_vlc_classes_1]
        rw [show (((6 : Nat)) : Int) = 6 from rfl] at e
        cases hr : rU s 6 a with
        | error e' => rw [hr] at e; simp only [zB, decide_true, decide_false, Bool.false_eq_true, if_false, if_true, List.getElem?_cons_zero, List.getElem?_cons_succ, beq_self_eq_true, bne_self_eq_false, Int.reduceBNe, Int.reduceBEq, Int.reduceLT, Int.reduceGT, Int.reduceLE, Int.reduceGE, Nat.reduceAdd, Nat.reduceMul, Nat.reduceLeDiff, e, encU]
        | ok x => obtain ⟨v, b⟩ := x; rw [hr] at e; simp only [zB, decide_true, decide_false, Bool.false_eq_true, if_false, if_true, List.getElem?_cons_zero, List.getElem?_cons_succ, beq_self_eq_true, bne_self_eq_false, Int.reduceBNe, Int.reduceBEq, Int.reduceLT, Int.reduceGT, Int.reduceLE, Int.reduceGE, Nat.reduceAdd, Nat.reduceMul, Nat.reduceLeDiff, e, encU]
      have r1 : rdF q 3 = .fn f_vlc_classes_1 [] [] := rfl
      have r2 : numR s 3 a = rU s 6 a := rfl
      rw [r1, r2]
      refine ⟨S', fun K => ?_, h1, f1⟩
      rw [callK_fn y2]
      simp only [List.cons_append, List.nil_append, List.append_nil, e1, bO_s]
    · have h5 : c = 4 := by omega
      subst h5
      obtain ⟨S', e, h1, f1⟩ := ue_c hB (k + 3) h
      have r1 : rdF q 4 = .fn f_golomb_Ue [] [] := rfl
      have r2 : numR s 4 a = rUe s a := by unfold numR; rw [if_neg (by omega)]; exact rUk_zero s a
      rw [r1, r2]
      refine ⟨S', fun K => ?_, h1, f1⟩
      rw [callK_fn y3]
      simp only [List.cons_append, List.nil_append, List.append_nil, e, bO_s]
theorem call_wr {w qw n : Nat} {bs : List Bool} (h : Wr S w qw bs) (hn : n ≤ 63) (hb : bs.length ≤ 800000000) (hc : c < 5) (hq : c < 3 → S.blk (q + c) = some [.int .i64 (c : Int)]) :
    ∃ S' q', (∀ {β : Type} (K : AV → Heap → Option β), callK (Cn B (k + 4)) .none (wrF q c) [.ptr w 0, .int .u64 (n : Int)] S K = K (.int .i64 0) S') ∧ Puts S S' w qw q' bs (bs ++ clsC c n) := by
  have y1 : ¬ yldId ≤ f_vlc_order_2 := by decide
  have y2 : ¬ yldId ≤ f_vlc_classes_2 := by decide
  have y3 : ¬ yldId ≤ f_golomb_PutUe := by decide
  by_cases h3 : c < 3
  · have hb' := hq h3
    have hc4 : c % 4 = c := by omega
    obtain ⟨S', q', e, h1⟩ := putuk_c hB k h c n (by omega) (by omega) hb
    have e1 : Cn B (k + 4) f_vlc_order_2 0 [.ptr w 0, .int .u64 (n : Int), .ptr (q + c) 0] S = some (.int .i64 0, S') := by
      rw [c_vlc_order_2 _ _ _ _ _ _ (hB.no _ _ _ _ (kn_no (by decide))), T_vlc_order_2]
      simp only [zB, decide_true, decide_false, Bool.false_eq_true, if_false, if_true, List.getElem?_cons_zero, List.getElem?_cons_succ, beq_self_eq_true, bne_self_eq_false, Int.reduceBNe, Int.reduceBEq, Int.reduceLT, Int.reduceGT, Int.reduceLE, Int.reduceGE, Nat.reduceAdd, Nat.reduceMul, Nat.reduceLeDiff, hb', e]
    have r1 : wrF q c = .fn f_vlc_order_2 [] [.ptr (q + c) 0] := by unfold wrF; rw [if_pos h3]
    have r2 : clsC c n = ukC c n := by unfold clsC; rw [if_neg (by omega), hc4]
    rw [r1, r2]
    refine ⟨S', q', fun K => ?_, h1⟩
    rw [callK_fn y1]
    simp only [List.cons_append, List.nil_append, e1, bO_s]
  · by_cases h4 : c = 3
    · subst h4
      obtain ⟨S', q', e, h1⟩ := put_c hB (k + 2) h 6 n (by omega) (by omega) (by omega)
      have e1 : Cn B (k + 4) f_vlc_classes_2 0 [.ptr w 0, .int .u64 (n : Int)] S = some (.int .i64 0, S') := by
        rw [c_vlc_classes_2 _ _ _ _ _ (hB.no _ _ _ _ (kn_no (by decide))), T_vlc_classes_2]
        rw [show (((6 : Nat)) : Int) = 6 from rfl] at e
        simp only [zB, decide_true, decide_false, Bool.false_eq_true, if_false, if_true, List.getElem?_cons_zero, List.getElem?_cons_succ, beq_self_eq_true, bne_self_eq_false, Int.reduceBNe, Int.reduceBEq, Int.reduceLT, Int.reduceGT, Int.reduceLE, Int.reduceGE, Nat.reduceAdd, Nat.reduceMul, Nat.reduceLeDiff, e]
      have r1 : wrF q 3 = .fn f_vlc_classes_2 [] [] := rfl
      have r2 : clsC 3 n = bitsN 6 n := rfl
      rw [r1, r2]
      refine ⟨S', q', fun K => ?_, h1⟩
      rw [callK_fn y2]
      simp only [List.cons_append, List.nil_append, List.append_nil, e1, bO_s]
    · have h5 : c = 4 := by omega
      subst h5
      obtain ⟨S', q', e, h1⟩ := putue_c hB (k + 2) h n (by omega) (by omega)
      have r1 : wrF q 4 = .fn f_golomb_PutUe [] [] := rfl
      have r2 : clsC 4 n = ueC n := by unfold clsC; rw [if_neg (by omega)]; exact ukC_zero n
      rw [r1, r2]
      refine ⟨S', q', fun K => ?_, h1⟩
      rw [callK_fn y3]
      simp only [List.cons_append, List.nil_append, List.append_nil, e, bO_s]
end
/-- What is read: two numbers, the error, and where the reader is then. -/
def tokR (s : ByteArray) (a : Nat) (class' size : Int) : Int × Int × Int × Nat :=
  if class' < 0 ∨ class' > 4 ∨ sizedI size = false then (0, 0, 3, a) else match numR s class'.toNat a with
    | .error e => (0, 0, e, a)
    | .ok (v, a') => if v ≥ bef (size.toNat + 1) then (0, 0, 3, a) else ((pairR v).1, (pairR v).2.1, 0, a')
/-- What is written: the error, and the bits. -/
def tokP (class' size total ones : Int) : Int × List Bool :=
  if class' < 0 ∨ class' > 4 ∨ sizedI size = false ∨ total > size then (3, []) else if (symR total ones).2 ≠ 0 then (3, []) else (0, clsC class'.toNat (symR total ones).1.toNat)
theorem symR_le {t o : Int} (h : (symR t o).2 = 0) : 0 ≤ (symR t o).1 ∧ (symR t o).1 ≤ 61 := by
  unfold symR at h ⊢
  split at h
  · cases h
  · rename_i hh
    rw [if_neg hh]
    simp only [not_or] at hh
    obtain ⟨n, rfl⟩ := Int.eq_ofNat_of_zero_le (show 0 ≤ t by omega)
    have : ∀ i : Fin 17, ((bef i.val : Int) + m3 (i.val : Int) ≤ 61) := by decide
    have h1 := this ⟨n, by omega⟩
    simp only [Int.toNat_natCast] at h1 ⊢
    constructor <;> omega
theorem symR_two (t o : Int) : (symR t o).2 = 0 ∨ (symR t o).2 = 3 := by unfold symR; split <;> simp
theorem bef_le (size : Int) (h : sizedI size = true) : bef (size.toNat + 1) ≤ 62 ∧ size.toNat + 1 ≤ 17 := by
  rcases (sizedI_iff size).1 h with rfl | rfl | rfl <;> decide
theorem Puts.fr {S T : Heap} {p q : Nat} {bs : List Bool} (h : Wr S p q bs) (f : Fr S T []) : Puts S T p q q bs (bs ++ []) := ⟨by rw [List.append_nil]; exact h.fr f (by simp) (by simp), f.nil, .inl rfl⟩
theorem setCls (q : Nat) : setCells [.nilf, .nilf, .nilf, .nilf, .nilf, .nilf, .nilf, .nilf, .nilf, .nilf] 0 (clsL q) = clsL q := (rfl)
theorem lenCls (q : Nat) : (clsL q).length = 10 := (rfl)
theorem cellCls (q : Nat) : (clsL q).all cell = true := (rfl)
section
variable {B : CallF} (hB : Silent B) (k : Nat) {S : Heap} {p : Nat} {s : ByteArray} {a : Nat}
include hB
theorem token_c (h : Rdr S p s a) (class' size : Int) :
    ∃ S', Cn B (k + 9) f_vlc_Token 0 [.ptr p 0, .int .i64 class', .int .i64 size] S = some (.tup [.int .i64 (tokR s a class' size).1, .int .i64 (tokR s a class' size).2.1, .int .i64 (tokR s a class' size).2.2.1], S') ∧ Rdr S' p s (tokR s a class' size).2.2.2 ∧ Fr S S' [p] := by
  rw [c_vlc_Token _ _ _ _ _ _ (hB.no _ _ _ _ (kn_no (by decide))), T_vlc_Token]
  have lt := h.lt
  obtain ⟨S1, e1, f1, n1, b1⟩ := classes_c hB (k + 6) (S := S)
  have h1 := h.fr f1 (by simp)
  unfold tokR
  by_cases g1 : class' < 0
  · rw [if_pos (.inl g1)]
    exact ⟨S1, by simp only [zB, decide_true, decide_false, Bool.false_eq_true, if_false, if_true, List.getElem?_cons_zero, List.getElem?_cons_succ, beq_self_eq_true, bne_self_eq_false, Int.reduceBNe, Int.reduceBEq, Int.reduceLT, Int.reduceGT, Int.reduceLE, Int.reduceGE, Nat.reduceAdd, Nat.reduceMul, Nat.reduceLeDiff, e1, lenCls, cellCls, setCls, Nat.le_refl, g1], h1, f1.nil⟩
  by_cases g2 : class' > 4
  · rw [if_pos (.inr (.inl g2))]
    have g2' : class' ≥ 5 := by omega
    exact ⟨S1, by simp only [zB, decide_true, decide_false, Bool.false_eq_true, if_false, if_true, List.getElem?_cons_zero, List.getElem?_cons_succ, beq_self_eq_true, bne_self_eq_false, Int.reduceBNe, Int.reduceBEq, Int.reduceLT, Int.reduceGT, Int.reduceLE, Int.reduceGE, Nat.reduceAdd, Nat.reduceMul, Nat.reduceLeDiff, e1, lenCls, cellCls, setCls, Nat.le_refl, g1, g2'], h1, f1.nil⟩
  have g2' : ¬ class' ≥ 5 := by omega
  have e2 := sized_c hB (k + 7) (S := S1) size
  cases g3 : sizedI size with
  | false =>
    rw [if_pos (.inr (.inr rfl))]
    rw [g3] at e2
    exact ⟨S1, by simp only [zB, decide_true, decide_false, Bool.false_eq_true, if_false, if_true, List.getElem?_cons_zero, List.getElem?_cons_succ, beq_self_eq_true, bne_self_eq_false, Int.reduceBNe, Int.reduceBEq, Int.reduceLT, Int.reduceGT, Int.reduceLE, Int.reduceGE, Nat.reduceAdd, Nat.reduceMul, Nat.reduceLeDiff, e1, lenCls, cellCls, setCls, Nat.le_refl, g1, g2', e2], h1, f1.nil⟩
  | true =>
    rw [if_neg (by simp only [not_or]; exact ⟨g1, g2, by simp⟩)]
    rw [g3] at e2
    obtain ⟨hbf, hsz⟩ := bef_le size g3
    obtain ⟨c, rfl⟩ := Int.eq_ofNat_of_zero_le (show 0 ≤ class' by omega)
    have hc : c < 5 := by omega
    obtain ⟨S2, e3, h2, f2⟩ := rcopy_c hB (k + 7) h1
    have n2 := f2.1
    have b2 : ∀ i, i < 3 → S2.blk (S.next + i) = some [.int .i64 (i : Int)] := fun i hi => (f2.get (by omega) (by simp)).trans (b1 i hi)
    obtain ⟨S3, e4, h3, f3⟩ := call_rd hB k h2 (q := S.next) hc (fun h => ⟨b2 c h, by omega, by omega⟩)
    have n3 := f3.1
    have f13 : Fr S1 S3 [] := f2.trans f3 (fun j hj => by simp at hj; omega)
    have b3 : ∀ i, i < 3 → S3.blk (S.next + i) = some [.int .i64 (i : Int)] := fun i hi => (f13.get (by omega) (by simp)).trans (b1 i hi)
    have h3' := h1.fr f13 (by simp)
    have f03 : Fr S S3 [] := f1.trans f13 (fun j hj => .inl hj)
    have c1 : (0 : Int) ≤ (c : Int) := by omega
    have c2 : (c : Int) < ((5 : Nat) : Int) := by omega
    simp only [Int.toNat_natCast]
    cases hr : numR s c a with
    | error e =>
      have c3 : (e != 0) = true := by rcases numR_err hr with rfl | rfl <;> rfl
      rw [hr] at e4
      exact ⟨S3, by simp only [zB, decide_true, decide_false, Bool.false_eq_true, if_false, if_true, List.getElem?_cons_zero, List.getElem?_cons_succ, beq_self_eq_true, bne_self_eq_false, Int.reduceBNe, Int.reduceBEq, Int.reduceLT, Int.reduceGT, Int.reduceLE, Int.reduceGE, Nat.reduceAdd, Nat.reduceMul, Nat.reduceLeDiff, e1, lenCls, cellCls, setCls, Nat.le_refl, g1, g2', e2, c1, c2, Int.toNat_natCast, cls_rd _ _ hc, e3, e4, encU, c3], h3', f03.nil⟩
    | ok x =>
      obtain ⟨v, b⟩ := x
      obtain ⟨r1, r2, r3⟩ := numR_ok hr
      rw [hr] at e4
      have e5 := before_c hB (k + 7) (S := S3) (size.toNat + 1) hsz
      have w1 : IntKind.wrap .i64 (size + 1) = ((size.toNat + 1 : Nat) : Int) := by
        have := (sizedI_iff size).1 g3
        rw [wr _ (by omega)]; omega
      have w2 : IntKind.wrap .u64 ((bef (size.toNat + 1) : Nat) : Int) = ((bef (size.toNat + 1) : Nat) : Int) := wu _ (by omega)
      simp only
      by_cases g4 : v ≥ bef (size.toNat + 1)
      · rw [if_pos g4]
        have c4 : (v : Int) ≥ ((bef (size.toNat + 1) : Nat) : Int) := by omega
        exact ⟨S3, by simp only [zB, decide_true, decide_false, Bool.false_eq_true, if_false, if_true, List.getElem?_cons_zero, List.getElem?_cons_succ, beq_self_eq_true, bne_self_eq_false, Int.reduceBNe, Int.reduceBEq, Int.reduceLT, Int.reduceGT, Int.reduceLE, Int.reduceGE, Nat.reduceAdd, Nat.reduceMul, Nat.reduceLeDiff, e1, lenCls, cellCls, setCls, Nat.le_refl, g1, g2', e2, c1, c2, Int.toNat_natCast, cls_rd _ _ hc, e3, e4, encU, w1, e5, w2, c4], h3', f03.nil⟩
      · rw [if_neg g4]
        have c4 : ¬ (v : Int) ≥ ((bef (size.toNat + 1) : Nat) : Int) := by omega
        obtain ⟨S4, e6, h4, f4⟩ := call_rd hB k h3' (q := S.next) hc (fun h => ⟨b3 c h, by omega, by omega⟩)
        rw [hr] at e6 h4
        have w3 : IntKind.wrap .i64 (v : Int) = (v : Int) := wr _ (by omega)
        have e7 := pair_c hB (k + 6) (S := S4) (v : Int)
        have hp : (pairR (v : Int)).2.2 = 0 := by unfold pairR; rw [if_neg (by omega)]
        rw [hp] at e7
        exact ⟨S4, by simp only [zB, decide_true, decide_false, Bool.false_eq_true, if_false, if_true, List.getElem?_cons_zero, List.getElem?_cons_succ, beq_self_eq_true, bne_self_eq_false, Int.reduceBNe, Int.reduceBEq, Int.reduceLT, Int.reduceGT, Int.reduceLE, Int.reduceGE, Nat.reduceAdd, Nat.reduceMul, Nat.reduceLeDiff, e1, lenCls, cellCls, setCls, Nat.le_refl, g1, g2', e2, c1, c2, Int.toNat_natCast, cls_rd _ _ hc, e3, e4, encU, w1, e5, w2, c4, e6, w3, e7], h4, f03.nil.trans f4 (fun j hj => .inl hj)⟩
theorem puttoken_c {q : Nat} {bs : List Bool} (h : Wr S p q bs) (hb : bs.length ≤ 800000000) (class' size total ones : Int) :
    ∃ S' q', Cn B (k + 5) f_vlc_PutToken 0 [.ptr p 0, .int .i64 class', .int .i64 size, .int .i64 total, .int .i64 ones] S = some (.int .i64 (tokP class' size total ones).1, S') ∧ Puts S S' p q q' bs (bs ++ (tokP class' size total ones).2) := by
  rw [c_vlc_PutToken _ _ _ _ _ _ _ _ (hB.no _ _ _ _ (kn_no (by decide))), T_vlc_PutToken]
  obtain ⟨S1, e1, f1, n1, b1⟩ := classes_c hB (k + 2) (S := S)
  unfold tokP
  by_cases g1 : class' < 0
  · rw [if_pos (.inl g1)]
    exact ⟨S1, q, by simp only [zB, decide_true, decide_false, Bool.false_eq_true, if_false, if_true, List.getElem?_cons_zero, List.getElem?_cons_succ, beq_self_eq_true, bne_self_eq_false, Int.reduceBNe, Int.reduceBEq, Int.reduceLT, Int.reduceGT, Int.reduceLE, Int.reduceGE, Nat.reduceAdd, Nat.reduceMul, Nat.reduceLeDiff, e1, lenCls, cellCls, setCls, Nat.le_refl, g1], Puts.fr h f1⟩
  by_cases g2 : class' > 4
  · rw [if_pos (.inr (.inl g2))]
    have g2' : class' ≥ 5 := by omega
    exact ⟨S1, q, by simp only [zB, decide_true, decide_false, Bool.false_eq_true, if_false, if_true, List.getElem?_cons_zero, List.getElem?_cons_succ, beq_self_eq_true, bne_self_eq_false, Int.reduceBNe, Int.reduceBEq, Int.reduceLT, Int.reduceGT, Int.reduceLE, Int.reduceGE, Nat.reduceAdd, Nat.reduceMul, Nat.reduceLeDiff, e1, lenCls, cellCls, setCls, Nat.le_refl, g1, g2'], Puts.fr h f1⟩
  have g2' : ¬ class' ≥ 5 := by omega
  have e2 := sized_c hB (k + 3) (S := S1) size
  cases g3 : sizedI size with
  | false =>
    rw [if_pos (.inr (.inr (.inl rfl)))]
    rw [g3] at e2
    exact ⟨S1, q, by simp only [zB, decide_true, decide_false, Bool.false_eq_true, if_false, if_true, List.getElem?_cons_zero, List.getElem?_cons_succ, beq_self_eq_true, bne_self_eq_false, Int.reduceBNe, Int.reduceBEq, Int.reduceLT, Int.reduceGT, Int.reduceLE, Int.reduceGE, Nat.reduceAdd, Nat.reduceMul, Nat.reduceLeDiff, e1, lenCls, cellCls, setCls, Nat.le_refl, g1, g2', e2], Puts.fr h f1⟩
  | true =>
    rw [g3] at e2
    by_cases g4 : total > size
    · rw [if_pos (.inr (.inr (.inr g4)))]
      exact ⟨S1, q, by simp only [zB, decide_true, decide_false, Bool.false_eq_true, if_false, if_true, List.getElem?_cons_zero, List.getElem?_cons_succ, beq_self_eq_true, bne_self_eq_false, Int.reduceBNe, Int.reduceBEq, Int.reduceLT, Int.reduceGT, Int.reduceLE, Int.reduceGE, Nat.reduceAdd, Nat.reduceMul, Nat.reduceLeDiff, e1, lenCls, cellCls, setCls, Nat.le_refl, g1, g2', e2, g4], Puts.fr h f1⟩
    · rw [if_neg (by simp only [not_or]; exact ⟨g1, g2, by simp, g4⟩)]
      have e3 := symbol_c hB (k + 2) (S := S1) total ones
      rcases symR_two total ones with g5 | g5
      · rw [if_neg (by simp [g5])]
        obtain ⟨r1, r2⟩ := symR_le g5
        obtain ⟨n, hn⟩ := Int.eq_ofNat_of_zero_le r1
        obtain ⟨c, rfl⟩ := Int.eq_ofNat_of_zero_le (show 0 ≤ class' by omega)
        have hc : c < 5 := by omega
        have c1 : (0 : Int) ≤ (c : Int) := by omega
        have c2 : (c : Int) < ((5 : Nat) : Int) := by omega
        rw [hn, g5] at e3
        have w1 : IntKind.wrap .u64 (n : Int) = (n : Int) := wu _ (by omega)
        obtain ⟨S2, q2, e4, h2⟩ := call_wr hB k (h.fr f1 (by simp) (by simp)) (n := n) (by omega) hb hc (q := S.next) (fun h => b1 c h)
        refine ⟨S2, q2, by simp only [zB, decide_true, decide_false, Bool.false_eq_true, if_false, if_true, List.getElem?_cons_zero, List.getElem?_cons_succ, beq_self_eq_true, bne_self_eq_false, Int.reduceBNe, Int.reduceBEq, Int.reduceLT, Int.reduceGT, Int.reduceLE, Int.reduceGE, Nat.reduceAdd, Nat.reduceMul, Nat.reduceLeDiff, e1, lenCls, cellCls, setCls, Nat.le_refl, g1, g2', e2, g4, e3, c1, c2, Int.toNat_natCast, cls_wr _ _ hc, w1, e4], ?_⟩
        have hp := (Puts.fr h f1)
        rw [List.append_nil] at hp
        rw [hn]
        simp only [Int.toNat_natCast]
        exact hp.trans h2
      · rw [if_pos (by simp [g5])]
        rw [g5] at e3
        exact ⟨S1, q, by simp only [zB, decide_true, decide_false, Bool.false_eq_true, if_false, if_true, List.getElem?_cons_zero, List.getElem?_cons_succ, beq_self_eq_true, bne_self_eq_false, Int.reduceBNe, Int.reduceBEq, Int.reduceLT, Int.reduceGT, Int.reduceLE, Int.reduceGE, Nat.reduceAdd, Nat.reduceMul, Nat.reduceLeDiff, e1, lenCls, cellCls, setCls, Nat.le_refl, g1, g2', e2, g4, e3], Puts.fr h f1⟩
end
theorem cut_facts : ∀ m : Fin 16, 2 ^ cutB m.val ≤ m.val + 1 ∧ m.val + 1 < 2 ^ (cutB m.val + 1) ∧ cutB m.val ≤ 4 ∧ cutD m.val ≤ 2 ^ cutB m.val ∧ m.val + cutD m.val < 2 ^ (cutB m.val + 1) ∧ cutD m.val ≤ 16 := by decide
/-- What is read: the number, the error, and where the reader is then. -/
def zerR (s : ByteArray) (a : Nat) (size total : Int) : Int × Int × Nat :=
  if sizedI size = false ∨ total < 1 ∨ total > size then (0, 3, a) else
    if 8 * s.size < a + cutB (size - total).toNat then (0, 5, a) else
    if num s a (cutB (size - total).toNat) < cutD (size - total).toNat then ((num s a (cutB (size - total).toNat) : Int), 0, a + cutB (size - total).toNat) else
    if 8 * s.size < a + cutB (size - total).toNat + 1 then (0, 5, a) else ((num s a (cutB (size - total).toNat + 1) : Int) - cutD (size - total).toNat, 0, a + cutB (size - total).toNat + 1)
def zerP (size total zeros : Int) : Int × List Bool :=
  if sizedI size = false ∨ total < 1 ∨ total > size ∨ zeros < 0 ∨ zeros > size - total then (3, []) else
    if zeros.toNat < cutD (size - total).toNat then (0, bitsN (cutB (size - total).toNat) zeros.toNat) else (0, bitsN (cutB (size - total).toNat + 1) (zeros.toNat + cutD (size - total).toNat))
def runN (s : ByteArray) : Nat → Nat → Option Nat
  | 0, _ => some 0
  | l + 1, a => if 8 * s.size ≤ a then none else if sb s a = 1 then some 0 else (runN s l (a + 1)).map (· + 1)
def runR (s : ByteArray) (a : Nat) (left : Int) : Int × Int × Nat :=
  if left < 0 ∨ left > 15 then (0, 3, a) else match runN s left.toNat a with
    | none => (0, 5, a)
    | some n => ((n : Int), 0, a + min (n + 1) left.toNat)
def runP (left run : Int) : Int × List Bool :=
  if left < 0 ∨ left > 15 ∨ run < 0 ∨ run > left then (3, []) else if run = left then (0, bitsN run.toNat 0) else (0, bitsN (run.toNat + 1) 1)
theorem runN_zero (s : ByteArray) (a : Nat) : runN s 0 a = some 0 := rfl
theorem runN_succ (s : ByteArray) (l a : Nat) : runN s (l + 1) a = if 8 * s.size ≤ a then none else if sb s a = 1 then some 0 else (runN s l (a + 1)).map (· + 1) := rfl
theorem omap_map (x : Option Nat) (i : Nat) : (x.map (· + 1)).map (· + i) = x.map (· + (i + 1)) := by
  cases x with
  | none => rfl
  | some v => simp only [Option.map]; congr 1; omega
theorem runN_ok {s : ByteArray} : ∀ {l a n : Nat}, a ≤ 8 * s.size → runN s l a = some n → n ≤ l ∧ a + min (n + 1) l ≤ 8 * s.size
  | 0, a, n, ha, h => by cases h; exact ⟨Nat.le_refl _, by simpa using ha⟩
  | l + 1, a, n, ha, h => by
    rw [runN_succ] at h
    split at h
    · cases h
    · split at h
      · cases h; exact ⟨by omega, by omega⟩
      · cases hr : runN s l (a + 1) with
        | none => rw [hr] at h; cases h
        | some m =>
          rw [hr] at h
          simp only [Option.map, Option.some.injEq] at h
          subst h
          obtain ⟨h1, h2⟩ := runN_ok (by omega) hr
          exact ⟨by omega, by omega⟩
section
variable {B : CallF} (hB : Silent B) (k : Nat) {S : Heap} {p : Nat} {s : ByteArray} {a : Nat}
include hB
theorem zeros_c (h : Rdr S p s a) (size total : Int) :
    ∃ S', Cn B (k + 3) f_vlc_Zeros 0 [.ptr p 0, .int .i64 size, .int .i64 total] S = some (.tup [.int .i64 (zerR s a size total).1, .int .i64 (zerR s a size total).2.1], S') ∧ Rdr S' p s (zerR s a size total).2.2 ∧ Fr S S' [p] := by
  rw [c_vlc_Zeros _ _ _ _ _ _ (hB.no _ _ _ _ (kn_no (by decide))), T_vlc_Zeros]
  have e1 := sized_c hB (k + 1) (S := S) size
  unfold zerR
  cases g1 : sizedI size with
  | false =>
    rw [if_pos (.inl rfl)]; rw [g1] at e1
    exact ⟨S, by simp only [zB, decide_true, decide_false, Bool.false_eq_true, if_false, if_true, List.getElem?_cons_zero, List.getElem?_cons_succ, beq_self_eq_true, bne_self_eq_false, Int.reduceBNe, Int.reduceBEq, Int.reduceLT, Int.reduceGT, Int.reduceLE, Int.reduceGE, Nat.reduceAdd, Nat.reduceMul, Nat.reduceLeDiff, e1], h, Fr.refl _ _⟩
  | true =>
    rw [g1] at e1
    by_cases g2 : total < 1
    · rw [if_pos (.inr (.inl g2))]; exact ⟨S, by simp only [zB, decide_true, decide_false, Bool.false_eq_true, if_false, if_true, List.getElem?_cons_zero, List.getElem?_cons_succ, beq_self_eq_true, bne_self_eq_false, Int.reduceBNe, Int.reduceBEq, Int.reduceLT, Int.reduceGT, Int.reduceLE, Int.reduceGE, Nat.reduceAdd, Nat.reduceMul, Nat.reduceLeDiff, e1, g2], h, Fr.refl _ _⟩
    by_cases g3 : total > size
    · rw [if_pos (.inr (.inr g3))]; exact ⟨S, by simp only [zB, decide_true, decide_false, Bool.false_eq_true, if_false, if_true, List.getElem?_cons_zero, List.getElem?_cons_succ, beq_self_eq_true, bne_self_eq_false, Int.reduceBNe, Int.reduceBEq, Int.reduceLT, Int.reduceGT, Int.reduceLE, Int.reduceGE, Nat.reduceAdd, Nat.reduceMul, Nat.reduceLeDiff, e1, g2, g3], h, Fr.refl _ _⟩
    rw [if_neg (by simp only [not_or]; exact ⟨by simp, g2, g3⟩)]
    have hs := (sizedI_iff size).1 g1
    have hle := h.le
    by_cases g4 : size = total
    · have c1 : (size == total) = true := by simp [g4]
      subst g4
      have z : (size - size).toNat = 0 := by omega
      have zb : cutB 0 = 0 := by decide
      have zd : cutD 0 = 1 := by decide
      rw [z, zb, zd, if_neg (by omega), show num s a 0 = 0 from rfl, if_pos (show (0 : Nat) < 1 by omega)]
      exact ⟨S, by simp only [zB, decide_true, decide_false, Bool.false_eq_true, if_false, if_true, List.getElem?_cons_zero, List.getElem?_cons_succ, beq_self_eq_true, bne_self_eq_false, Int.reduceBNe, Int.reduceBEq, Int.reduceLT, Int.reduceGT, Int.reduceLE, Int.reduceGE, Nat.reduceAdd, Nat.reduceMul, Nat.reduceLeDiff, e1, g2, g3, c1] <;> rfl, h, Fr.refl _ _⟩
    · have c1 : (size == total) = false := by simp [g4]
      obtain ⟨m, hm⟩ : ∃ m, m = (size - total).toNat := ⟨_, rfl⟩
      rw [← hm]
      have hm15 : m ≤ 15 := by omega
      have w1 : IntKind.wrap .i64 (size - total) = (m : Int) := by rw [wr _ (by omega)]; omega
      have e2 := cut_c hB (k + 2) (S := S) m hm15
      obtain ⟨f1, f2, f3, f4, f5, f6⟩ := cut_facts ⟨m, by omega⟩
      simp only at f1 f2 f3 f4 f5 f6
      obtain ⟨S1, e3, h1, r1⟩ := rcopy_c hB (k + 1) h
      have lt := h.lt
      have hp1 := h.fr r1 (by simp)
      by_cases g5 : 8 * s.size < a + cutB m
      · rw [if_pos g5]
        have e4 := u_short hB k h1 (cutB m) (by omega) g5
        exact ⟨S1, by simp only [zB, decide_true, decide_false, Bool.false_eq_true, if_false, if_true, List.getElem?_cons_zero, List.getElem?_cons_succ, beq_self_eq_true, bne_self_eq_false, Int.reduceBNe, Int.reduceBEq, Int.reduceLT, Int.reduceGT, Int.reduceLE, Int.reduceGE, Nat.reduceAdd, Nat.reduceMul, Nat.reduceLeDiff, e1, g2, g3, c1, w1, e2, e3, e4], hp1, r1.nil⟩
      · rw [if_neg g5]
        obtain ⟨S2, e4, h2, r2⟩ := u_ok hB k h1 (cutB m) (by omega) (by omega)
        have r02 : Fr S S2 [] := r1.trans r2 (fun j hj => by simp at hj; omega)
        have hp2 := h.fr r02 (by simp)
        have hlt := num_lt s a (cutB m)
        have hp16 : 2 ^ cutB m ≤ 2 ^ 4 := Nat.pow_le_pow_right (by omega) f3
        have w2 : IntKind.wrap .i64 ((num s a (cutB m) : Nat) : Int) = ((num s a (cutB m) : Nat) : Int) := wr _ (by omega)
        by_cases g6 : num s a (cutB m) < cutD m
        · rw [if_pos g6]
          have c2 : ((num s a (cutB m) : Nat) : Int) < ((cutD m : Nat) : Int) := by omega
          obtain ⟨S3, e5, h3, r3⟩ := u_ok hB k hp2 (cutB m) (by omega) (by omega)
          exact ⟨S3, by simp only [zB, decide_true, decide_false, Bool.false_eq_true, if_false, if_true, List.getElem?_cons_zero, List.getElem?_cons_succ, beq_self_eq_true, bne_self_eq_false, Int.reduceBNe, Int.reduceBEq, Int.reduceLT, Int.reduceGT, Int.reduceLE, Int.reduceGE, Nat.reduceAdd, Nat.reduceMul, Nat.reduceLeDiff, e1, g2, g3, c1, w1, e2, e3, e4, w2, c2, e5], h3, r02.nil.trans r3 (fun j hj => .inl hj)⟩
        · rw [if_neg g6]
          have c2 : ¬ ((num s a (cutB m) : Nat) : Int) < ((cutD m : Nat) : Int) := by omega
          have w3 : IntKind.wrap .i64 ((cutB m : Int) + 1) = ((cutB m + 1 : Nat) : Int) := by rw [wr _ (by omega)]; omega
          by_cases g7 : 8 * s.size < a + cutB m + 1
          · rw [if_pos g7]
            have e5 := u_short hB k hp2 (cutB m + 1) (by omega) (by omega)
            exact ⟨S2, by simp only [zB, decide_true, decide_false, Bool.false_eq_true, if_false, if_true, List.getElem?_cons_zero, List.getElem?_cons_succ, beq_self_eq_true, bne_self_eq_false, Int.reduceBNe, Int.reduceBEq, Int.reduceLT, Int.reduceGT, Int.reduceLE, Int.reduceGE, Nat.reduceAdd, Nat.reduceMul, Nat.reduceLeDiff, e1, g2, g3, c1, w1, e2, e3, e4, w2, c2, w3, e5], hp2, r02.nil⟩
          · rw [if_neg g7]
            obtain ⟨S3, e5, h3, r3⟩ := u_ok hB k hp2 (cutB m + 1) (by omega) (by omega)
            have hlt2 := num_lt s a (cutB m + 1)
            have hp32 : 2 ^ (cutB m + 1) ≤ 2 ^ 5 := Nat.pow_le_pow_right (by omega) (by omega)
            have w4 : IntKind.wrap .i64 ((num s a (cutB m + 1) : Nat) : Int) = ((num s a (cutB m + 1) : Nat) : Int) := wr _ (by omega)
            have w5 : IntKind.wrap .i64 (((num s a (cutB m + 1) : Nat) : Int) - ((cutD m : Nat) : Int)) = ((num s a (cutB m + 1) : Nat) : Int) - ((cutD m : Nat) : Int) := wr _ (by omega)
            exact ⟨S3, by simp only [zB, decide_true, decide_false, Bool.false_eq_true, if_false, if_true, List.getElem?_cons_zero, List.getElem?_cons_succ, beq_self_eq_true, bne_self_eq_false, Int.reduceBNe, Int.reduceBEq, Int.reduceLT, Int.reduceGT, Int.reduceLE, Int.reduceGE, Nat.reduceAdd, Nat.reduceMul, Nat.reduceLeDiff, e1, g2, g3, c1, w1, e2, e3, e4, w2, c2, w3, e5, w4, w5], h3, r02.nil.trans r3 (fun j hj => .inl hj)⟩
theorem putzeros_c {q : Nat} {bs : List Bool} (h : Wr S p q bs) (hb : bs.length ≤ 800000000) (size total zeros : Int) :
    ∃ S' q', Cn B (k + 2) f_vlc_PutZeros 0 [.ptr p 0, .int .i64 size, .int .i64 total, .int .i64 zeros] S = some (.int .i64 (zerP size total zeros).1, S') ∧ Puts S S' p q q' bs (bs ++ (zerP size total zeros).2) := by
  rw [c_vlc_PutZeros _ _ _ _ _ _ _ (hB.no _ _ _ _ (kn_no (by decide))), T_vlc_PutZeros]
  have e1 := sized_c hB k (S := S) size
  have hR := Puts.fr h (Fr.refl S [])
  unfold zerP
  cases g1 : sizedI size with
  | false =>
    rw [if_pos (.inl rfl)]; rw [g1] at e1
    exact ⟨S, q, by simp only [zB, decide_true, decide_false, Bool.false_eq_true, if_false, if_true, List.getElem?_cons_zero, List.getElem?_cons_succ, beq_self_eq_true, bne_self_eq_false, Int.reduceBNe, Int.reduceBEq, Int.reduceLT, Int.reduceGT, Int.reduceLE, Int.reduceGE, Nat.reduceAdd, Nat.reduceMul, Nat.reduceLeDiff, e1], hR⟩
  | true =>
    rw [g1] at e1
    have hs := (sizedI_iff size).1 g1
    by_cases g2 : total < 1
    · rw [if_pos (.inr (.inl g2))]; exact ⟨S, q, by simp only [zB, decide_true, decide_false, Bool.false_eq_true, if_false, if_true, List.getElem?_cons_zero, List.getElem?_cons_succ, beq_self_eq_true, bne_self_eq_false, Int.reduceBNe, Int.reduceBEq, Int.reduceLT, Int.reduceGT, Int.reduceLE, Int.reduceGE, Nat.reduceAdd, Nat.reduceMul, Nat.reduceLeDiff, e1, g2], hR⟩
    by_cases g3 : total > size
    · rw [if_pos (.inr (.inr (.inl g3)))]; exact ⟨S, q, by simp only [zB, decide_true, decide_false, Bool.false_eq_true, if_false, if_true, List.getElem?_cons_zero, List.getElem?_cons_succ, beq_self_eq_true, bne_self_eq_false, Int.reduceBNe, Int.reduceBEq, Int.reduceLT, Int.reduceGT, Int.reduceLE, Int.reduceGE, Nat.reduceAdd, Nat.reduceMul, Nat.reduceLeDiff, e1, g2, g3], hR⟩
    by_cases g4 : zeros < 0
    · rw [if_pos (.inr (.inr (.inr (.inl g4))))]; exact ⟨S, q, by simp only [zB, decide_true, decide_false, Bool.false_eq_true, if_false, if_true, List.getElem?_cons_zero, List.getElem?_cons_succ, beq_self_eq_true, bne_self_eq_false, Int.reduceBNe, Int.reduceBEq, Int.reduceLT, Int.reduceGT, Int.reduceLE, Int.reduceGE, Nat.reduceAdd, Nat.reduceMul, Nat.reduceLeDiff, e1, g2, g3, g4], hR⟩
    have w1 : IntKind.wrap .i64 (size - total) = size - total := wr _ (by omega)
    by_cases g5 : zeros > size - total
    · rw [if_pos (.inr (.inr (.inr (.inr g5))))]; exact ⟨S, q, by simp only [zB, decide_true, decide_false, Bool.false_eq_true, if_false, if_true, List.getElem?_cons_zero, List.getElem?_cons_succ, beq_self_eq_true, bne_self_eq_false, Int.reduceBNe, Int.reduceBEq, Int.reduceLT, Int.reduceGT, Int.reduceLE, Int.reduceGE, Nat.reduceAdd, Nat.reduceMul, Nat.reduceLeDiff, e1, g2, g3, g4, w1, g5], hR⟩
    rw [if_neg (by simp only [not_or]; exact ⟨by simp, g2, g3, g4, g5⟩)]
    obtain ⟨m, hm⟩ := Int.eq_ofNat_of_zero_le (show 0 ≤ size - total by omega)
    obtain ⟨z, rfl⟩ := Int.eq_ofNat_of_zero_le (show 0 ≤ zeros by omega)
    rw [hm] at w1 g5
    have hm15 : m ≤ 15 := by omega
    have e2 := cut_c hB (k + 1) (S := S) m hm15
    obtain ⟨f1, f2, f3, f4, f5, f6⟩ := cut_facts ⟨m, by omega⟩
    simp only at f1 f2 f3 f4 f5 f6
    have hz : z ≤ m := by omega
    rw [hm]
    simp only [Int.toNat_natCast]
    by_cases g6 : z < cutD m
    · rw [if_pos g6]
      have c2 : (z : Int) < ((cutD m : Nat) : Int) := by omega
      have w2 : IntKind.wrap .u64 (z : Int) = (z : Int) := wu _ (by omega)
      obtain ⟨S', q', e3, h3⟩ := put_c hB k h (cutB m) z (by omega) (by omega) (by omega)
      exact ⟨S', q', by simp only [zB, decide_true, decide_false, Bool.false_eq_true, if_false, if_true, List.getElem?_cons_zero, List.getElem?_cons_succ, beq_self_eq_true, bne_self_eq_false, Int.reduceBNe, Int.reduceBEq, Int.reduceLT, Int.reduceGT, Int.reduceLE, Int.reduceGE, Nat.reduceAdd, Nat.reduceMul, Nat.reduceLeDiff, e1, g2, g3, g4, hm, w1, g5, e2, c2, w2, e3], h3⟩
    · rw [if_neg g6]
      have c2 : ¬ (z : Int) < ((cutD m : Nat) : Int) := by omega
      have w2 : IntKind.wrap .i64 ((z : Int) + ((cutD m : Nat) : Int)) = ((z + cutD m : Nat) : Int) := by rw [wr _ (by omega)]; omega
      have w3 : IntKind.wrap .u64 ((z + cutD m : Nat) : Int) = ((z + cutD m : Nat) : Int) := wu _ (by omega)
      have w4 : IntKind.wrap .i64 ((cutB m : Int) + 1) = ((cutB m + 1 : Nat) : Int) := by rw [wr _ (by omega)]; omega
      obtain ⟨S', q', e3, h3⟩ := put_c hB k h (cutB m + 1) (z + cutD m) (by omega) (by omega) (by omega)
      exact ⟨S', q', by simp only [zB, decide_true, decide_false, Bool.false_eq_true, if_false, if_true, List.getElem?_cons_zero, List.getElem?_cons_succ, beq_self_eq_true, bne_self_eq_false, Int.reduceBNe, Int.reduceBEq, Int.reduceLT, Int.reduceGT, Int.reduceLE, Int.reduceGE, Nat.reduceAdd, Nat.reduceMul, Nat.reduceLeDiff, e1, g2, g3, g4, hm, w1, g5, e2, c2, w2, w3, w4, e3], h3⟩
theorem run_c (h : Rdr S p s a) (left : Int) :
    ∃ S', Cn B (k + 4) f_vlc_Run 0 [.ptr p 0, .int .i64 left] S = some (.tup [.int .i64 (runR s a left).1, .int .i64 (runR s a left).2.1], S') ∧ Rdr S' p s (runR s a left).2.2 ∧ Fr S S' [p] := by
  rw [c_vlc_Run _ _ _ _ _ (hB.no _ _ _ _ (kn_no (by decide))), T_vlc_Run]
  unfold runR
  by_cases g1 : left < 0
  · rw [if_pos (.inl g1)]; exact ⟨S, by simp only [zB, decide_true, decide_false, Bool.false_eq_true, if_false, if_true, List.getElem?_cons_zero, List.getElem?_cons_succ, beq_self_eq_true, bne_self_eq_false, Int.reduceBNe, Int.reduceBEq, Int.reduceLT, Int.reduceGT, Int.reduceLE, Int.reduceGE, Nat.reduceAdd, Nat.reduceMul, Nat.reduceLeDiff, g1], h, Fr.refl _ _⟩
  by_cases g2 : left > 15
  · rw [if_pos (.inr g2)]; exact ⟨S, by simp only [zB, decide_true, decide_false, Bool.false_eq_true, if_false, if_true, List.getElem?_cons_zero, List.getElem?_cons_succ, beq_self_eq_true, bne_self_eq_false, Int.reduceBNe, Int.reduceBEq, Int.reduceLT, Int.reduceGT, Int.reduceLE, Int.reduceGE, Nat.reduceAdd, Nat.reduceMul, Nat.reduceLeDiff, g1, g2], h, Fr.refl _ _⟩
  rw [if_neg (by simp only [not_or]; exact ⟨g1, g2⟩)]
  obtain ⟨l, rfl⟩ := Int.eq_ofNat_of_zero_le (show 0 ≤ left by omega)
  simp only [Int.toNat_natCast]
  have lt := h.lt
  have hle := h.le
  obtain ⟨S1, e1, h1, f1⟩ := rcopy_c hB (k + 2) h
  simp only [zB, decide_true, decide_false, Bool.false_eq_true, if_false, if_true, List.getElem?_cons_zero, List.getElem?_cons_succ, beq_self_eq_true, bne_self_eq_false, Int.reduceBNe, Int.reduceBEq, Int.reduceLT, Int.reduceGT, Int.reduceLE, Int.reduceGE, Nat.reduceAdd, Nat.reduceMul, Nat.reduceLeDiff, g1, g2, e1]
  refine loop_meas (fun o => ∃ S', o = some (AV.tup [.int .i64 (match runN s l a with | none => ((0 : Int), (5 : Int), a) | some n => ((n : Int), 0, a + min (n + 1) l)).1, .int .i64 (match runN s l a with | none => ((0 : Int), (5 : Int), a) | some n => ((n : Int), 0, a + min (n + 1) l)).2.1], S') ∧
      Rdr S' p s (match runN s l a with | none => ((0 : Int), (5 : Int), a) | some n => ((n : Int), 0, a + min (n + 1) l)).2.2 ∧ Fr S S' [p])
    (fun m st => ∃ i T, i + m = l ∧ st = ([.ptr p 0, .int .i64 (l : Int), .ptr S.next 0, .int .i64 (i : Int)], T) ∧ Rdr T S.next s (a + i) ∧ Fr S T [] ∧ runN s l a = (runN s m (a + i)).map (· + i)) l ⟨0, S1, by omega, rfl, h1, f1, by cases runN s l (a + 0) <;> rfl⟩ ?_
  rintro m st ⟨i, T, hi, rfl, hT, hF, hl⟩
  have fin : ∀ T', Fr S T' [] → runN s l a = some i → ∃ S', bO (Cn B (k + 3) f_bits_Reader_U 0 [.ptr p 0, .int .i64 (if (l : Int) < IntKind.wrap .i64 ((i : Int) + 1) then (l : Int) else IntKind.wrap .i64 ((i : Int) + 1))] T') (fun t24 => asTup t24.1 fun l25 => asCons l25 fun a26 l27 => asInt .u64 a26 fun i28 => asCons l27 fun a29 l30 => asInt .i64 a29 fun i31 => some (ctlV.tr S (.tup [.int .i64 (i : Int), .int .i64 0]) t24.2)) = some (.tup [.int .i64 (i : Int), .int .i64 0], S') ∧ Rdr S' p s (a + min (i + 1) l) ∧ Fr S S' [p] := fun T' hF' hr => by
    have w1 : IntKind.wrap .i64 ((i : Int) + 1) = ((i + 1 : Nat) : Int) := by rw [wr _ (by omega)]; omega
    have w2 : (if (l : Int) < ((i + 1 : Nat) : Int) then (l : Int) else ((i + 1 : Nat) : Int)) = ((min (i + 1) l : Nat) : Int) := by split <;> omega
    obtain ⟨r1, r2⟩ := runN_ok hle hr
    obtain ⟨S3, e3, h3, f3⟩ := u_ok hB (k + 1) (h.fr hF' (by simp)) (min (i + 1) l) (by omega) r2
    exact ⟨S3, by simp only [zB, decide_true, decide_false, Bool.false_eq_true, if_false, if_true, List.getElem?_cons_zero, List.getElem?_cons_succ, beq_self_eq_true, bne_self_eq_false, Int.reduceBNe, Int.reduceBEq, Int.reduceLT, Int.reduceGT, Int.reduceLE, Int.reduceGE, Nat.reduceAdd, Nat.reduceMul, Nat.reduceLeDiff, w1, w2, e3], h3, hF'.nil.trans f3 (fun j hj => .inl hj)⟩
  cases m with
  | zero =>
    have hil : i = l := by omega
    have c1 : ¬ ((i : Int) < (l : Int)) := by omega
    have hr : runN s l a = some i := by rw [hl, runN_zero]; simp
    obtain ⟨S', e3, h3⟩ := fin T hF hr
    refine .inl ⟨(0, [.ptr p 0, .int .i64 (l : Int), .int .i64 (i : Int)], T), by simp only [zB, decide_true, decide_false, Bool.false_eq_true, if_false, if_true, List.getElem?_cons_zero, List.getElem?_cons_succ, beq_self_eq_true, bne_self_eq_false, Int.reduceBNe, Int.reduceBEq, Int.reduceLT, Int.reduceGT, Int.reduceLE, Int.reduceGE, Nat.reduceAdd, Nat.reduceMul, Nat.reduceLeDiff, c1], S', ?_⟩
    rw [hr]
    exact ⟨by simp only [zB, decide_true, decide_false, Bool.false_eq_true, if_false, if_true, List.getElem?_cons_zero, List.getElem?_cons_succ, beq_self_eq_true, bne_self_eq_false, Int.reduceBNe, Int.reduceBEq, Int.reduceLT, Int.reduceGT, Int.reduceLE, Int.reduceGE, Nat.reduceAdd, Nat.reduceMul, Nat.reduceLeDiff, sel] <;> exact e3, h3⟩
  | succ m =>
    have c1 : (i : Int) < (l : Int) := by omega
    rw [runN_succ s m (a + i)] at hl
    have hle2 := hT.le
    by_cases hs : 8 * s.size ≤ a + i
    · rw [if_pos hs] at hl
      have e2 := bit_short hB k hT (by omega)
      have hr : runN s l a = none := hl
      refine .inl ⟨(1, [.int .i64 0, .int .i64 5], T), by simp only [zB, decide_true, decide_false, Bool.false_eq_true, if_false, if_true, List.getElem?_cons_zero, List.getElem?_cons_succ, beq_self_eq_true, bne_self_eq_false, Int.reduceBNe, Int.reduceBEq, Int.reduceLT, Int.reduceGT, Int.reduceLE, Int.reduceGE, Nat.reduceAdd, Nat.reduceMul, Nat.reduceLeDiff, c1, e2], T, ?_⟩
      rw [hr]
      exact ⟨by simp only [zB, decide_true, decide_false, Bool.false_eq_true, if_false, if_true, List.getElem?_cons_zero, List.getElem?_cons_succ, beq_self_eq_true, bne_self_eq_false, Int.reduceBNe, Int.reduceBEq, Int.reduceLT, Int.reduceGT, Int.reduceLE, Int.reduceGE, Nat.reduceAdd, Nat.reduceMul, Nat.reduceLeDiff, sel], h.fr hF (by simp), hF.nil⟩
    · rw [if_neg hs] at hl
      obtain ⟨T', e2, h2, f2⟩ := bit_ok hB k hT (by omega)
      have hF' := hF.trans f2 (fun j hj => by simp at hj; omega)
      by_cases hb : sb s (a + i) = 1
      · rw [if_pos hb] at hl
        have hr : runN s l a = some i := by rw [hl]; simp
        obtain ⟨S', e3, h3⟩ := fin T' hF' hr
        refine .inl ⟨(0, [.ptr p 0, .int .i64 (l : Int), .int .i64 (i : Int)], T'), by simp only [zB, decide_true, decide_false, Bool.false_eq_true, if_false, if_true, List.getElem?_cons_zero, List.getElem?_cons_succ, beq_self_eq_true, bne_self_eq_false, Int.reduceBNe, Int.reduceBEq, Int.reduceLT, Int.reduceGT, Int.reduceLE, Int.reduceGE, Nat.reduceAdd, Nat.reduceMul, Nat.reduceLeDiff, c1, e2, hb, Int.natCast_one], S', ?_⟩
        rw [hr]
        exact ⟨by simp only [zB, decide_true, decide_false, Bool.false_eq_true, if_false, if_true, List.getElem?_cons_zero, List.getElem?_cons_succ, beq_self_eq_true, bne_self_eq_false, Int.reduceBNe, Int.reduceBEq, Int.reduceLT, Int.reduceGT, Int.reduceLE, Int.reduceGE, Nat.reduceAdd, Nat.reduceMul, Nat.reduceLeDiff, sel] <;> exact e3, h3⟩
      · rw [if_neg hb, omap_map] at hl
        have hb0 : sb s (a + i) = 0 := by have := sb_lt s (a + i); omega
        have w1 : IntKind.wrap .i64 ((i : Int) + 1) = ((i + 1 : Nat) : Int) := by rw [wr _ (by omega)]; omega
        exact .inr ⟨m, ([.ptr p 0, .int .i64 (l : Int), .ptr S.next 0, .int .i64 ((i + 1 : Nat) : Int)], T'), by omega, by simp only [zB, decide_true, decide_false, Bool.false_eq_true, if_false, if_true, List.getElem?_cons_zero, List.getElem?_cons_succ, beq_self_eq_true, bne_self_eq_false, Int.reduceBNe, Int.reduceBEq, Int.reduceLT, Int.reduceGT, Int.reduceLE, Int.reduceGE, Nat.reduceAdd, Nat.reduceMul, Nat.reduceLeDiff, c1, e2, hb0, w1, Int.natCast_zero], i + 1, T', by omega, rfl, h2, hF', hl⟩
theorem putrun_c {q : Nat} {bs : List Bool} (h : Wr S p q bs) (hb : bs.length ≤ 800000000) (left run : Int) :
    ∃ S' q', Cn B (k + 2) f_vlc_PutRun 0 [.ptr p 0, .int .i64 left, .int .i64 run] S = some (.int .i64 (runP left run).1, S') ∧ Puts S S' p q q' bs (bs ++ (runP left run).2) := by
  rw [c_vlc_PutRun _ _ _ _ _ _ (hB.no _ _ _ _ (kn_no (by decide))), T_vlc_PutRun]
  have hR := Puts.fr h (Fr.refl S [])
  unfold runP
  by_cases g1 : left < 0
  · rw [if_pos (.inl g1)]; exact ⟨S, q, by simp only [zB, decide_true, decide_false, Bool.false_eq_true, if_false, if_true, List.getElem?_cons_zero, List.getElem?_cons_succ, beq_self_eq_true, bne_self_eq_false, Int.reduceBNe, Int.reduceBEq, Int.reduceLT, Int.reduceGT, Int.reduceLE, Int.reduceGE, Nat.reduceAdd, Nat.reduceMul, Nat.reduceLeDiff, g1], hR⟩
  by_cases g2 : left > 15
  · rw [if_pos (.inr (.inl g2))]; exact ⟨S, q, by simp only [zB, decide_true, decide_false, Bool.false_eq_true, if_false, if_true, List.getElem?_cons_zero, List.getElem?_cons_succ, beq_self_eq_true, bne_self_eq_false, Int.reduceBNe, Int.reduceBEq, Int.reduceLT, Int.reduceGT, Int.reduceLE, Int.reduceGE, Nat.reduceAdd, Nat.reduceMul, Nat.reduceLeDiff, g1, g2], hR⟩
  by_cases g3 : run < 0
  · rw [if_pos (.inr (.inr (.inl g3)))]; exact ⟨S, q, by simp only [zB, decide_true, decide_false, Bool.false_eq_true, if_false, if_true, List.getElem?_cons_zero, List.getElem?_cons_succ, beq_self_eq_true, bne_self_eq_false, Int.reduceBNe, Int.reduceBEq, Int.reduceLT, Int.reduceGT, Int.reduceLE, Int.reduceGE, Nat.reduceAdd, Nat.reduceMul, Nat.reduceLeDiff, g1, g2, g3], hR⟩
  by_cases g4 : run > left
  · rw [if_pos (.inr (.inr (.inr g4)))]; exact ⟨S, q, by simp only [zB, decide_true, decide_false, Bool.false_eq_true, if_false, if_true, List.getElem?_cons_zero, List.getElem?_cons_succ, beq_self_eq_true, bne_self_eq_false, Int.reduceBNe, Int.reduceBEq, Int.reduceLT, Int.reduceGT, Int.reduceLE, Int.reduceGE, Nat.reduceAdd, Nat.reduceMul, Nat.reduceLeDiff, g1, g2, g3, g4], hR⟩
  rw [if_neg (by simp only [not_or]; exact ⟨g1, g2, g3, g4⟩)]
  obtain ⟨l, rfl⟩ := Int.eq_ofNat_of_zero_le (show 0 ≤ left by omega)
  obtain ⟨r, rfl⟩ := Int.eq_ofNat_of_zero_le (show 0 ≤ run by omega)
  simp only [Int.toNat_natCast]
  by_cases g5 : (r : Int) = l
  · rw [if_pos g5]
    have c1 : ((r : Int) == (l : Int)) = true := by simp [g5]
    obtain ⟨S', q', e3, h3⟩ := put_c hB k h r 0 (by omega) (Nat.pow_pos (by omega)) (by omega)
    rw [Int.natCast_zero] at e3
    exact ⟨S', q', by simp only [zB, decide_true, decide_false, Bool.false_eq_true, if_false, if_true, List.getElem?_cons_zero, List.getElem?_cons_succ, beq_self_eq_true, bne_self_eq_false, Int.reduceBNe, Int.reduceBEq, Int.reduceLT, Int.reduceGT, Int.reduceLE, Int.reduceGE, Nat.reduceAdd, Nat.reduceMul, Nat.reduceLeDiff, g1, g2, g3, g4, c1, e3], h3⟩
  · rw [if_neg g5]
    have c1 : ((r : Int) == (l : Int)) = false := by simp; omega
    have w1 : IntKind.wrap .i64 ((r : Int) + 1) = ((r + 1 : Nat) : Int) := by rw [wr _ (by omega)]; omega
    obtain ⟨S', q', e3, h3⟩ := put_c hB k h (r + 1) 1 (by omega) (Nat.one_lt_two_pow (by omega)) (by omega)
    rw [Int.natCast_one] at e3
    exact ⟨S', q', by simp only [zB, decide_true, decide_false, Bool.false_eq_true, if_false, if_true, List.getElem?_cons_zero, List.getElem?_cons_succ, beq_self_eq_true, bne_self_eq_false, Int.reduceBNe, Int.reduceBEq, Int.reduceLT, Int.reduceGT, Int.reduceLE, Int.reduceGE, Nat.reduceAdd, Nat.reduceMul, Nat.reduceLeDiff, g1, g2, g3, g4, c1, w1, e3], h3⟩
end
section
variable {B : CallF} (hB : Silent B) (k : Nat) {S : Heap}
include hB
omit hB in
theorem tok_same : ∀ v : Fin 62, (v.val ≥ bef 5 ↔ ¬ (pairL.getD v.val (0, 0)).1 ≤ 4) ∧ (v.val ≥ bef 16 ↔ ¬ (pairL.getD v.val (0, 0)).1 ≤ 15) ∧ (v.val ≥ bef 17 ↔ ¬ (pairL.getD v.val (0, 0)).1 ≤ 16) := by decide
end
structure RX (S : Heap) (p q : Nat) (l : List Nat) : Prop where
  blk : S.blk p = some [if l = [] then .nils else .hs q 0 l.length 1]
  row : l ≠ [] → S.blk q = some (u8s l) ∧ q < S.next ∧ q ≠ p
  non : l = [] → q = p
  lt : p < S.next
/-- A writer of the reference at p, with its characters at q. -/
def RWr (S : Heap) (p q : Nat) (bs : List Bool) : Prop := RX S p q (bs.map bitC)
theorem RWr.fr {S T : Heap} {p q : Nat} {bs : List Bool} {l : List Nat} (h : RWr S p q bs) (f : Fr S T l) (hp : p ∉ l) (hq : q ∉ l) : RWr T p q bs :=
  ⟨(f.get h.lt hp).trans h.blk, fun h0 => ⟨(f.get (h.row h0).2.1 hq).trans (h.row h0).1, Nat.lt_of_lt_of_le (h.row h0).2.1 f.1, (h.row h0).2.2⟩, h.non, Nat.lt_of_lt_of_le h.lt f.1⟩
def RPuts (S S' : Heap) (p q q' : Nat) (bs' : List Bool) : Prop := RWr S' p q' bs' ∧ Fr S S' [p, q] ∧ (q' = q ∨ S.next ≤ q')
theorem RPuts.trans {S T U : Heap} {p q q' q'' : Nat} {b c : List Bool} (h1 : RPuts S T p q q' b) (h2 : RPuts T U p q' q'' c) : RPuts S U p q q'' c := by
  refine ⟨h2.1, h1.2.1.trans h2.2.1 (fun j hj => ?_), ?_⟩
  · simp only [List.mem_cons, List.not_mem_nil, or_false] at hj ⊢
    rcases hj with rfl | rfl
    · exact .inl (.inl rfl)
    · rcases h1.2.2 with h | h
      · exact .inl (.inr h)
      · exact .inr h
  · have := h1.2.1.1
    rcases h2.2.2 with h | h
    · rw [h]; exact h1.2.2
    · exact .inr (by omega)
theorem RPuts.refl {S : Heap} {p q : Nat} {bs : List Bool} (h : RWr S p q bs) : RPuts S S p q q (bs ++ []) := ⟨by rw [List.append_nil]; exact h, Fr.refl _ _, .inl rfl⟩
theorem put1_0 {T : Heap} {p : Nat} {x a : AV} (h : T.blk p = some [a]) : putV (.ptr p 0) [x] T = some (T.set p (some [x])) := by rw [putV_p h (by simp)]; rfl
noncomputable def Bk : CallF := fun f way args S => if kn f args = true ∧ way = 0 then locC (tabN (rows (ctlF 1000)) 60) f 0 args S else none
theorem mixed : Try.prog.follows .mixedOrders = true := by kernel_rfl
theorem noG : ∀ (i : Nat) (cs : List AV), (fun _ => none : Nat → Option (List AV)) i = some cs → noIdL cs = true := fun _ _ h => by cases h
theorem known_lt : ∀ f ∈ knownF, f < yldId := by
  have : (knownF.all fun f => decide (f < yldId)) = true := by decide
  exact fun f hf => of_decide_eq_true (List.all_eq_true.1 this f hf)
theorem Bk_ok : NOk Try.prog (fun _ => none) Bk := by
  have h0 := locC_ok noG (tabN_ok (rngC_ok (ctlF_ok 1000)) mixed (rows (ctlF 1000)) 60)
  refine ⟨fun f way args S r hlt h => ?_, fun f way args S h => ?_⟩
  · unfold Bk at h
    split at h
    · exact h0.ok _ _ _ _ _ hlt h
    · cases h
  · unfold Bk
    rw [if_neg]
    rintro ⟨hk, _⟩
    simp only [kn, Bool.and_eq_true, decide_eq_true_eq] at hk
    have := known_lt f hk.1
    omega
theorem Bk_silent : Silent Bk := ⟨fun f way args S h => by unfold Bk; rw [if_neg]; rw [h]; simp, fun f args S h => by unfold Bk; rw [if_pos ⟨h, rfl⟩]⟩
theorem Cn_ok (k : Nat) : NOk Try.prog (fun _ => none) (Cn Bk k) := callN_ok (rngC_ok ctlV_ok) mixed noG An Bk_ok k
theorem av3 {N F : Nat} {xs : List AV} (h : avOk Try.prog N (F + 1) 3 xs) : ∃ n : Int, xs = [.int .i64 n] ∧ -9223372036854775808 ≤ n ∧ n ≤ 9223372036854775807 := by
  unfold avOk at h
  rw [show Try.prog.underlying 3 = some (.int .i64) by kernel_rfl] at h
  simp only at h
  obtain ⟨n, h1, h2⟩ := h
  exact ⟨n, h1, by simpa [Lit.wf, IntKind.min, IntKind.max, IntKind.signed, IntKind.bits] using h2⟩
theorem av5 {N F : Nat} {xs : List AV} (h : avOk Try.prog N (F + 1) 5 xs) : ∃ n : Int, xs = [.int .u8 n] ∧ 0 ≤ n ∧ n ≤ 255 := by
  unfold avOk at h
  rw [show Try.prog.underlying 5 = some (.int .u8) by kernel_rfl] at h
  simp only at h
  obtain ⟨n, h1, h2⟩ := h
  exact ⟨n, h1, by simpa [Lit.wf, IntKind.min, IntKind.max, IntKind.signed, IntKind.bits] using h2⟩
theorem av9 {N F : Nat} {xs : List AV} (h : avOk Try.prog N (F + 1) 9 xs) : ∃ s, xs = [.str s] ∧ s.size ≤ N := by
  unfold avOk at h
  rw [show Try.prog.underlying 9 = some .string by kernel_rfl] at h
  exact h
theorem arg3 {a : AV} (h : argOk Try.prog maxLen 16 3 a) : ∃ n : Int, a = .int .i64 n ∧ -9223372036854775808 ≤ n ∧ n ≤ 9223372036854775807 := by
  unfold argOk at h
  rw [show Try.prog.underlying 3 = some (.int .i64) by kernel_rfl] at h
  obtain ⟨n, h1, h2⟩ := av3 h
  exact ⟨n, by simpa using h1, h2⟩
theorem arg5 {a : AV} (h : argOk Try.prog maxLen 16 5 a) : ∃ n : Int, a = .int .u8 n ∧ 0 ≤ n ∧ n ≤ 255 := by
  unfold argOk at h
  rw [show Try.prog.underlying 5 = some (.int .u8) by kernel_rfl] at h
  obtain ⟨n, h1, h2⟩ := av5 h
  exact ⟨n, by simpa using h1, h2⟩
theorem arg9 {a : AV} (h : argOk Try.prog maxLen 16 9 a) : ∃ s, a = .str s ∧ s.size ≤ maxLen := by
  unfold argOk at h
  rw [show Try.prog.underlying 9 = some .string by kernel_rfl] at h
  obtain ⟨s, h1, h2⟩ := av9 h
  exact ⟨s, by simpa using h1, h2⟩
/-- A call. -/
structure Cal where
  w : Int
  a : Int
  b : Int
  c : Int
  d : Int
def In64 (n : Int) : Prop := -9223372036854775808 ≤ n ∧ n ≤ 9223372036854775807
structure Cal.ok (x : Cal) : Prop where
  w : 0 ≤ x.w ∧ x.w ≤ 255
  a : In64 x.a
  b : In64 x.b
  c : In64 x.c
  d : In64 x.d
section
variable {B : CallF} (hB : Silent B) (k : Nat) {S : Heap}
include hB
theorem read_c (s : ByteArray) (hs : s.size ≤ 1099511627776) : ∃ S', Cn B (k + 1) f_bits_Read 0 [.str s] S = some (.ptr S.next 0, S') ∧ Rdr S' S.next s 0 ∧ Fr S S' [] ∧ S'.next = S.next + 1 := by
  rw [c_bits_Read _ _ _ _ (hB.no _ _ _ _ (kn_no (by decide))), T_bits_Read]
  exact ⟨S.alloc [.str s, .int .i64 0], by simp only [zB, decide_true, decide_false, Bool.false_eq_true, if_false, if_true, List.getElem?_cons_zero, List.getElem?_cons_succ, beq_self_eq_true, bne_self_eq_false, Int.reduceBNe, Int.reduceBEq, Int.reduceLT, Int.reduceGT, Int.reduceLE, Int.reduceGE, Nat.reduceAdd, Nat.reduceMul, Nat.reduceLeDiff], ⟨alloc_blk _ _, Nat.lt_succ_self _, hs, Nat.zero_le _⟩, Fr.alloc _ _ _, rfl⟩
end
theorem clsC_len {c n : Nat} (hn : n ≤ 63) : (clsC c n).length ≤ 80 := by
  unfold clsC
  split
  · rw [bitsN_len]; omega
  · unfold ukC
    rw [List.length_append, ueC_len, bitsN_len]
    have h1 : n / 2 ^ (c % 4) ≤ n := Nat.div_le_self _ _
    have := L2_le (v := n / 2 ^ (c % 4) + 1) (by omega)
    omega
theorem tokP_len (a b c d : Int) : (tokP a b c d).2.length ≤ 80 := by
  unfold tokP
  split
  · simp
  · split
    · simp
    · rename_i h1 h2
      have h3 : (symR c d).2 = 0 := by rcases symR_two c d with h | h; exact h; exact absurd h (by intro h4; exact h2 (by rw [h4]; decide))
      have := symR_le h3
      exact clsC_len (by omega)
theorem zerP_len (a b c : Int) : (zerP a b c).2.length ≤ 80 := by
  unfold zerP
  split
  · simp
  · rename_i h
    simp only [not_or] at h
    have hs := (sizedI_iff a).1 (by simpa using h.1)
    obtain ⟨f1, f2, f3, f4, f5, f6⟩ := cut_facts ⟨(a - b).toNat, by omega⟩
    simp only at f3
    split <;> simp only [bitsN_len] <;> omega
theorem runP_len (a b : Int) : (runP a b).2.length ≤ 80 := by
  unfold runP
  split
  · simp
  · split <;> simp only [bitsN_len] <;> omega
def ints (l : List Int) : List AV := l.map fun x => .int .i64 x
theorem ints_len (l : List Int) : (ints l).length = l.length := by simp [ints]
theorem ints_app (l m : List Int) : ints (l ++ m) = ints l ++ ints m := by simp [ints]
def isl (l : List Int) : AV := if l = [] then .nils else .is l.length (ints l)
/-- A row of whole numbers: fixed, or in block d. -/
def IL (S : Heap) (a : AV) (l : List Int) (d : Nat) : Prop := (a = .nils ∧ l = []) ∨ a = .is l.length (ints l) ∨ (a = .hs d 0 l.length 1 ∧ S.blk d = some (ints l) ∧ d < S.next)
theorem IL.fr {S T : Heap} {a : AV} {l : List Int} {d : Nat} {ids : List Nat} (h : IL S a l d) (f : Fr S T ids) (hd : d ∉ ids) : IL T a l d := by
  rcases h with h | h | ⟨h1, h2, h3⟩
  · exact .inl h
  · exact .inr (.inl h)
  · exact .inr (.inr ⟨h1, (f.get h3 hd).trans h2, Nat.lt_of_lt_of_le h3 f.1⟩)
theorem IL.len {S : Heap} {a : AV} {l : List Int} {d : Nat} (h : IL S a l d) : aLen Try.prog 71 a = some (.int .i64 (l.length : Int)) := by
  rcases h with ⟨rfl, rfl⟩ | rfl | ⟨rfl, _⟩
  · exact len_nils71
  · exact len_is71 _ _
  · exact len_hs71 _ _ _ _
theorem IL.at {S : Heap} {a : AV} {l : List Int} {d : Nat} (h : IL S a l d) {i : Nat} (hi : i < l.length) : ∃ t cs o, aIdx 1 a (i : Int) = some t ∧ seeV t S = some (cs, o) ∧ cs[o]? = some (.int .i64 l[i]) := by
  rcases h with ⟨rfl, rfl⟩ | rfl | ⟨rfl, h2, _⟩
  · simp at hi
  · exact ⟨.iptr ((ints l).drop (i * 1)), _, 0, by simp [aIdx, hi], rfl, by simp [ints, hi]⟩
  · exact ⟨.ptr d (0 + i * 1), ints l, 0 + i * 1, by simp [aIdx, hi], by simp [seeV, h2], by simp [ints, hi]⟩
theorem isl_il (S : Heap) (l : List Int) (d : Nat) : IL S (isl l) l d := by
  unfold isl
  by_cases h : l = []
  · rw [if_pos h]; exact .inl ⟨rfl, h⟩
  · rw [if_neg h]; exact .inr (.inl rfl)
theorem isl_cell (l : List Int) : cell (isl l) = true := by unfold isl; split <;> rfl
def hv (L : List Int) (b : Nat) : AV := if L = [] then .nils else .hs b 0 L.length 1
def HR (T : Heap) (L : List Int) (b : Nat) : Prop := L ≠ [] → T.blk b = some (ints L) ∧ b < T.next
theorem hv_cell (L : List Int) (b : Nat) : cell (hv L b) = true := by unfold hv; split <;> rfl
theorem hv_len (L : List Int) (b : Nat) : aLen Try.prog 71 (hv L b) = some (.int .i64 (L.length : Int)) := by
  unfold hv
  by_cases h : L = []
  · subst h; exact len_nils71
  · rw [if_neg h]; exact len_hs71 _ _ _ _
theorem hv_il {T : Heap} {L : List Int} {b : Nat} (h : HR T L b) : IL T (hv L b) L b := by
  unfold hv
  by_cases h0 : L = []
  · rw [if_pos h0]; exact .inl ⟨rfl, h0⟩
  · rw [if_neg h0]; exact .inr (.inr ⟨rfl, h h0⟩)
theorem HR.fr {S T : Heap} {L : List Int} {b : Nat} {ids : List Nat} (h : HR S L b) (f : Fr S T ids) (hd : L ≠ [] → b ∉ ids) : HR T L b := fun h0 => ⟨(f.get (h h0).2 (hd h0)).trans (h h0).1, Nat.lt_of_lt_of_le (h h0).2 f.1⟩
theorem appI {T : Heap} {b : Nat} {L : List Int} (x : Int) (hrow : HR T L b) (hs : L.length ≤ 1000000000) :
    ∃ T', aAppend 1 8 (hv L b) (.is 1 [.int .i64 x]) T = some (hv (L ++ [x]) T.next, T') ∧ HR T' (L ++ [x]) T.next ∧ T'.next = T.next + 1 ∧ T'.cx = T.cx ∧
      ∀ j, j ≠ T.next → (j ≠ b ∨ L = []) → T'.blk j = T.blk j := by
  have r0 : rowOf 1 (.is 1 [.int .i64 x]) T = some (1, [.int .i64 x]) := rfl
  have r1 : (1 : Nat) * 8 ≤ mostRoom := room64 (by omega)
  have r2 : (1 : Nat) ≤ mostRoom := room64 (by omega)
  have hne : L ++ [x] ≠ [] := by simp
  unfold aAppend
  rw [r0]
  simp only
  unfold aAppendN
  rw [if_neg (by omega)]
  have hv1 : hv (L ++ [x]) T.next = .hs T.next 0 (L.length + 1) 1 := by unfold hv; rw [if_neg hne]; simp
  rw [hv1]
  by_cases h0 : L = []
  · subst h0
    simp only [hv, if_true, r1, r2, and_self, List.length_nil, Nat.zero_add]
    exact ⟨_, rfl, fun _ => ⟨alloc_blk _ _, Nat.lt_succ_self _⟩, rfl, rfl, fun j hj _ => alloc_other _ _ hj⟩
  · obtain ⟨hb, hq⟩ := hrow h0
    have r6 : (L.length + 1) * 8 ≤ mostRoom := room64 (by omega)
    have r7 : L.length + 1 ≤ mostRoom := room64 (by omega)
    have r8 : ([.int .i64 x] : List AV).all cell = true := rfl
    simp only [hv, if_neg h0, hb, ints_len, Nat.zero_add, Nat.mul_one, Nat.le_refl, r6, r7, r8, and_self, if_true, List.drop_zero]
    rw [List.take_of_length_le (by rw [ints_len]; exact Nat.le_refl _)]
    refine ⟨_, rfl, fun _ => ⟨by rw [ints_app]; exact alloc_blk (T.set b none) _, Nat.lt_succ_self _⟩, rfl, rfl, fun j hj hjq => ?_⟩
    rcases hjq with h | h
    · rw [alloc_other _ _ (by rw [set_next]; exact hj), set_other _ _ h]
    · exact absurd h h0
theorem fz_int (d : Nat) (k : IntKind) (x : Int) (S : Heap) : fz (d + 1) (.int k x) S = some (.int k x, S) := (rfl)
theorem fzM_c {f : AV → Heap → Option (AV × Heap)} {a a' : AV} {l l' : List AV} {S S' S'' : Heap} (h : f a S = some (a', S')) (h2 : fzM f l S' = some (l', S'')) : fzM f (a :: l) S = some (a' :: l', S'') := by
  simp only [fzM, h, h2]
theorem fz_hs {d b off n es : Nat} {cs cs' : List AV} {S S' : Heap} (h : S.blk b = some cs) (hl : off + n * es ≤ cs.length) (h2 : fzM (fz d) ((cs.drop off).take (n * es)) (S.set b none) = some (cs', S')) : fz (d + 1) (.hs b off n es) S = some (.is n cs', S') := by
  rw [fz]; simp only [h]; rw [if_pos hl]; simp only [h2]
theorem fz_agg {d : Nat} {cs cs' : List AV} {S S' : Heap} (h : fzM (fz d) cs S = some (cs', S')) : fz (d + 1) (.agg cs) S = some (.agg cs', S') := by
  rw [fz]; simp only [h]
theorem fz_tup {d : Nat} {cs cs' : List AV} {S S' : Heap} (h : fzM (fz d) cs S = some (cs', S')) : fz (d + 1) (.tup cs) S = some (.tup cs', S') := by
  rw [fz]; simp only [h]
theorem fzM_ints (d : Nat) : ∀ (L : List Int) (S : Heap), fzM (fz (d + 1)) (ints L) S = some (ints L, S)
  | [], S => rfl
  | x :: L, S => fzM_c (fz_int d _ x S) (fzM_ints d L S)
def kill (S : Heap) (L : List Int) (b : Nat) : Heap := if L = [] then S else S.set b none
theorem fz_hv (d : Nat) {S : Heap} {L : List Int} {b : Nat} (h : HR S L b) : fz (d + 2) (hv L b) S = some (isl L, kill S L b) := by
  unfold hv isl kill
  by_cases h0 : L = []
  · simp only [if_pos h0]; rfl
  · simp only [if_neg h0]
    refine fz_hs (h h0).1 (by rw [ints_len]; omega) ?_
    rw [List.drop_zero, List.take_of_length_le (by rw [ints_len]; omega)]
    exact fzM_ints d L _
theorem fz_runs {S : Heap} {L M : List Int} {b c : Nat} {x e : Int} (h : HR S L b) (h2 : HR S M c) (hn : L ≠ [] → M ≠ [] → c ≠ b) : fz 40 (.tup [.agg [hv L b, .int .i64 x, hv M c], .int .i64 e]) S = some (.tup [.agg [isl L, .int .i64 x, isl M], .int .i64 e], kill (kill S L b) M c) := by
  have h3 : HR (kill S L b) M c := by
    unfold kill
    by_cases h0 : L = []
    · rw [if_pos h0]; exact h2
    · rw [if_neg h0]
      exact fun h1 => ⟨by rw [set_other _ _ (hn h0 h1)]; exact (h2 h1).1, (h2 h1).2⟩
  exact fz_tup (fzM_c (fz_agg (fzM_c (fz_hv 36 h) (fzM_c (fz_int 37 _ x _) (fzM_c (fz_hv 36 h3) rfl)))) (fzM_c (fz_int 38 _ e _) rfl))
theorem Fr.kill {S T : Heap} {l : List Nat} (h : Fr S T l) {L : List Int} {b : Nat} (hb : L ≠ [] → b ∈ l ∨ S.next ≤ b) : Fr S (kill T L b) l := by
  unfold Go.Ab.tV.kill
  split
  · exact h
  · rename_i h0; exact h.set (hb h0) _
def rngd (l : List Int) : Bool := l.all fun v => decide (-32768 ≤ v) && decide (v ≤ 32768)
theorem rngd_drop {l : List Int} {i : Nat} (hi : i < l.length) : rngd (l.drop i) = ((decide (-32768 ≤ l[i]) && decide (l[i] ≤ 32768)) && rngd (l.drop (i + 1))) := by
  rw [List.drop_eq_getElem_cons hi]; rfl
def onesG : Nat → List Int → Nat
  | 0, _ => 0
  | _, [] => 0
  | n + 1, v :: l => if v = 1 ∨ v = -1 then onesG n l + 1 else 0
def onesN (l : List Int) : Nat := onesG 3 l
theorem onesG_le : ∀ (n : Nat) (l : List Int), onesG n l ≤ n ∧ onesG n l ≤ l.length
  | 0, l => by simp [onesG]
  | n + 1, [] => by simp [onesG]
  | n + 1, v :: l => by
    have := onesG_le n l
    simp only [onesG, List.length_cons]
    split <;> omega
section
variable {B : CallF} (hB : Silent B) (k : Nat) {S : Heap} {a : AV} {l : List Int} {d : Nat}
include hB
theorem rsized_c (n : Int) : Cn B (k + 1) f_runs_sized 0 [.int .i64 n] S = some (.bool (sizedI n), S) := by
  rw [c_runs_sized _ _ _ _ (hB.no _ _ _ _ (kn_no (by decide))), T_runs_sized]
  unfold sizedI
  by_cases h1 : n = 4
  · subst h1; simp only [zB, decide_true, decide_false, Bool.false_eq_true, if_false, if_true, List.getElem?_cons_zero, List.getElem?_cons_succ, beq_self_eq_true, bne_self_eq_false, Int.reduceBNe, Int.reduceBEq, Int.reduceLT, Int.reduceGT, Int.reduceLE, Int.reduceGE, Nat.reduceAdd, Nat.reduceMul, Nat.reduceLeDiff, Bool.true_or]
  · have c1 : (n == 4) = false := by simp [h1]
    by_cases h2 : n = 15
    · subst h2; simp only [zB, decide_true, decide_false, Bool.false_eq_true, if_false, if_true, List.getElem?_cons_zero, List.getElem?_cons_succ, beq_self_eq_true, bne_self_eq_false, Int.reduceBNe, Int.reduceBEq, Int.reduceLT, Int.reduceGT, Int.reduceLE, Int.reduceGE, Nat.reduceAdd, Nat.reduceMul, Nat.reduceLeDiff, Bool.true_or, Bool.or_true, c1]
    · have c2 : (n == 15) = false := by simp [h2]
      simp only [zB, decide_true, decide_false, Bool.false_eq_true, if_false, if_true, List.getElem?_cons_zero, List.getElem?_cons_succ, beq_self_eq_true, bne_self_eq_false, Int.reduceBNe, Int.reduceBEq, Int.reduceLT, Int.reduceGT, Int.reduceLE, Int.reduceGE, Nat.reduceAdd, Nat.reduceMul, Nat.reduceLeDiff, c1, c2, Bool.false_or]
theorem vsized_c (n : Int) : Cn B (k + 1) f_vblock_sized 0 [.int .i64 n] S = some (.bool (sizedI n), S) := by
  rw [c_vblock_sized _ _ _ _ (hB.no _ _ _ _ (kn_no (by decide))), T_vblock_sized]
  unfold sizedI
  by_cases h1 : n = 4
  · subst h1; simp only [zB, decide_true, decide_false, Bool.false_eq_true, if_false, if_true, List.getElem?_cons_zero, List.getElem?_cons_succ, beq_self_eq_true, bne_self_eq_false, Int.reduceBNe, Int.reduceBEq, Int.reduceLT, Int.reduceGT, Int.reduceLE, Int.reduceGE, Nat.reduceAdd, Nat.reduceMul, Nat.reduceLeDiff, Bool.true_or]
  · have c1 : (n == 4) = false := by simp [h1]
    by_cases h2 : n = 15
    · subst h2; simp only [zB, decide_true, decide_false, Bool.false_eq_true, if_false, if_true, List.getElem?_cons_zero, List.getElem?_cons_succ, beq_self_eq_true, bne_self_eq_false, Int.reduceBNe, Int.reduceBEq, Int.reduceLT, Int.reduceGT, Int.reduceLE, Int.reduceGE, Nat.reduceAdd, Nat.reduceMul, Nat.reduceLeDiff, Bool.true_or, Bool.or_true, c1]
    · have c2 : (n == 15) = false := by simp [h2]
      simp only [zB, decide_true, decide_false, Bool.false_eq_true, if_false, if_true, List.getElem?_cons_zero, List.getElem?_cons_succ, beq_self_eq_true, bne_self_eq_false, Int.reduceBNe, Int.reduceBEq, Int.reduceLT, Int.reduceGT, Int.reduceLE, Int.reduceGE, Nat.reduceAdd, Nat.reduceMul, Nat.reduceLeDiff, c1, c2, Bool.false_or]
theorem ranged_c (h : IL S a l d) (hl : l.length ≤ 1000000000) : Cn B (k + 1) f_runs_ranged 0 [a] S = some (.bool (rngd l), S) := by
  rw [c_runs_ranged _ _ _ _ (hB.no _ _ _ _ (kn_no (by decide))), T_runs_ranged]
  simp only [zB, decide_true, decide_false, Bool.false_eq_true, if_false, if_true, List.getElem?_cons_zero, List.getElem?_cons_succ, beq_self_eq_true, bne_self_eq_false, Int.reduceBNe, Int.reduceBEq, Int.reduceLT, Int.reduceGT, Int.reduceLE, Int.reduceGE, Nat.reduceAdd, Nat.reduceMul, Nat.reduceLeDiff, h.len]
  refine loop_meas (fun o => o = some (AV.bool (rngd l), S)) (fun m st => ∃ i : Nat, i + m = l.length ∧ st = ([a, .int .i64 (l.length : Int), .int .i64 (i : Int)], S) ∧ rngd (l.drop i) = rngd l) l.length ⟨0, by omega, rfl, rfl⟩ ?_
  rintro m st ⟨i, him, rfl, hr⟩
  cases m with
  | zero =>
    have c1 : ¬ ((i : Int) < (l.length : Int)) := by omega
    rw [List.drop_eq_nil_of_le (by omega)] at hr
    exact .inl ⟨(0, [], S), by simp only [zB, decide_true, decide_false, Bool.false_eq_true, if_false, if_true, List.getElem?_cons_zero, List.getElem?_cons_succ, beq_self_eq_true, bne_self_eq_false, Int.reduceBNe, Int.reduceBEq, Int.reduceLT, Int.reduceGT, Int.reduceLE, Int.reduceGE, Nat.reduceAdd, Nat.reduceMul, Nat.reduceLeDiff, c1], by rw [← hr]; simp only [zB, decide_true, decide_false, Bool.false_eq_true, if_false, if_true, List.getElem?_cons_zero, List.getElem?_cons_succ, beq_self_eq_true, bne_self_eq_false, Int.reduceBNe, Int.reduceBEq, Int.reduceLT, Int.reduceGT, Int.reduceLE, Int.reduceGE, Nat.reduceAdd, Nat.reduceMul, Nat.reduceLeDiff, sel]; rfl⟩
  | succ m =>
    have c1 : (i : Int) < (l.length : Int) := by omega
    have hi : i < l.length := by omega
    obtain ⟨t, cs, o, x1, x2, x3⟩ := h.at hi
    rw [rngd_drop hi] at hr
    by_cases c2 : l[i] < -32768
    · have : ¬ (-32768 ≤ l[i]) := by omega
      rw [decide_eq_false this, Bool.false_and, Bool.false_and] at hr
      exact .inl ⟨(1, [.bool false], S), by simp only [zB, decide_true, decide_false, Bool.false_eq_true, if_false, if_true, List.getElem?_cons_zero, List.getElem?_cons_succ, beq_self_eq_true, bne_self_eq_false, Int.reduceBNe, Int.reduceBEq, Int.reduceLT, Int.reduceGT, Int.reduceLE, Int.reduceGE, Nat.reduceAdd, Nat.reduceMul, Nat.reduceLeDiff, c1, x1, x2, x3, c2], by rw [← hr]; simp only [zB, decide_true, decide_false, Bool.false_eq_true, if_false, if_true, List.getElem?_cons_zero, List.getElem?_cons_succ, beq_self_eq_true, bne_self_eq_false, Int.reduceBNe, Int.reduceBEq, Int.reduceLT, Int.reduceGT, Int.reduceLE, Int.reduceGE, Nat.reduceAdd, Nat.reduceMul, Nat.reduceLeDiff, sel]⟩
    · by_cases c3 : l[i] > 32768
      · have : ¬ (l[i] ≤ 32768) := by omega
        rw [decide_eq_false this, Bool.and_false, Bool.false_and] at hr
        exact .inl ⟨(1, [.bool false], S), by simp only [zB, decide_true, decide_false, Bool.false_eq_true, if_false, if_true, List.getElem?_cons_zero, List.getElem?_cons_succ, beq_self_eq_true, bne_self_eq_false, Int.reduceBNe, Int.reduceBEq, Int.reduceLT, Int.reduceGT, Int.reduceLE, Int.reduceGE, Nat.reduceAdd, Nat.reduceMul, Nat.reduceLeDiff, c1, x1, x2, x3, c2, c3], by rw [← hr]; simp only [zB, decide_true, decide_false, Bool.false_eq_true, if_false, if_true, List.getElem?_cons_zero, List.getElem?_cons_succ, beq_self_eq_true, bne_self_eq_false, Int.reduceBNe, Int.reduceBEq, Int.reduceLT, Int.reduceGT, Int.reduceLE, Int.reduceGE, Nat.reduceAdd, Nat.reduceMul, Nat.reduceLeDiff, sel]⟩
      · have h1 : -32768 ≤ l[i] := by omega
        have h2 : l[i] ≤ 32768 := by omega
        rw [decide_eq_true h1, decide_eq_true h2, Bool.true_and, Bool.true_and] at hr
        have w1 : IntKind.wrap .i64 ((i : Int) + 1) = ((i + 1 : Nat) : Int) := by rw [wr _ (by omega)]; omega
        exact .inr ⟨m, ([a, .int .i64 (l.length : Int), .int .i64 ((i + 1 : Nat) : Int)], S), by omega, by simp only [zB, decide_true, decide_false, Bool.false_eq_true, if_false, if_true, List.getElem?_cons_zero, List.getElem?_cons_succ, beq_self_eq_true, bne_self_eq_false, Int.reduceBNe, Int.reduceBEq, Int.reduceLT, Int.reduceGT, Int.reduceLE, Int.reduceGE, Nat.reduceAdd, Nat.reduceMul, Nat.reduceLeDiff, c1, x1, x2, x3, c2, c3, w1], i + 1, by omega, rfl, hr⟩
theorem ones_c (h : IL S a l d) (hl : l.length ≤ 1000000000) (x y : AV) : Cn B (k + 1) f_runs_Ones 0 [.agg [a, x, y]] S = some (.int .i64 (onesN l : Int), S) := by
  rw [c_runs_Ones _ _ _ _ (hB.no _ _ _ _ (kn_no (by decide))), T_runs_Ones]
  simp only [zB, decide_true, decide_false, Bool.false_eq_true, if_false, if_true, List.getElem?_cons_zero, List.getElem?_cons_succ, beq_self_eq_true, bne_self_eq_false, Int.reduceBNe, Int.reduceBEq, Int.reduceLT, Int.reduceGT, Int.reduceLE, Int.reduceGE, Nat.reduceAdd, Nat.reduceMul, Nat.reduceLeDiff, List.length_cons, List.length_nil]
  refine loop_meas (fun o => o = some (AV.int .i64 (onesN l : Int), S)) (fun m st => ∃ i : Nat, i + m = 3 ∧ st = ([.agg [a, x, y], .int .i64 (i : Int)], S) ∧ i ≤ l.length ∧ i + onesG m (l.drop i) = onesN l) 3 ⟨0, by omega, rfl, by omega, by simp [onesN]⟩ ?_
  rintro m st ⟨i, him, rfl, hil, hr⟩
  cases m with
  | zero =>
    have c1 : ¬ ((i : Int) < 3) := by omega
    simp only [onesG, Nat.add_zero] at hr
    exact .inl ⟨(0, [.int .i64 (i : Int)], S), by simp only [zB, decide_true, decide_false, Bool.false_eq_true, if_false, if_true, List.getElem?_cons_zero, List.getElem?_cons_succ, beq_self_eq_true, bne_self_eq_false, Int.reduceBNe, Int.reduceBEq, Int.reduceLT, Int.reduceGT, Int.reduceLE, Int.reduceGE, Nat.reduceAdd, Nat.reduceMul, Nat.reduceLeDiff, c1], by rw [← hr]; simp only [zB, decide_true, decide_false, Bool.false_eq_true, if_false, if_true, List.getElem?_cons_zero, List.getElem?_cons_succ, beq_self_eq_true, bne_self_eq_false, Int.reduceBNe, Int.reduceBEq, Int.reduceLT, Int.reduceGT, Int.reduceLE, Int.reduceGE, Nat.reduceAdd, Nat.reduceMul, Nat.reduceLeDiff, sel]⟩
  | succ m =>
    have c1 : (i : Int) < 3 := by omega
    by_cases hi : i < l.length
    · have c2 : (i : Int) < (l.length : Int) := by omega
      obtain ⟨t, cs, o, x1, x2, x3⟩ := h.at hi
      rw [List.drop_eq_getElem_cons hi] at hr
      have w1 : IntKind.wrap .i64 ((i : Int) + 1) = ((i + 1 : Nat) : Int) := by rw [wr _ (by omega)]; omega
      by_cases h1 : l[i] = 1
      · rw [onesG, if_pos (.inl h1)] at hr
        have c3 : (l[i] == 1) = true := by simp [h1]
        exact .inr ⟨m, ([.agg [a, x, y], .int .i64 ((i + 1 : Nat) : Int)], S), by omega, by simp only [zB, decide_true, decide_false, Bool.false_eq_true, if_false, if_true, List.getElem?_cons_zero, List.getElem?_cons_succ, beq_self_eq_true, bne_self_eq_false, Int.reduceBNe, Int.reduceBEq, Int.reduceLT, Int.reduceGT, Int.reduceLE, Int.reduceGE, Nat.reduceAdd, Nat.reduceMul, Nat.reduceLeDiff, c1, c2, h.len, x1, x2, x3, c3, w1], i + 1, by omega, rfl, by omega, by omega⟩
      · have c3 : (l[i] == 1) = false := by simp [h1]
        by_cases h2 : l[i] = -1
        · rw [onesG, if_pos (.inr h2)] at hr
          have c4 : (l[i] == -1) = true := by simp [h2]
          exact .inr ⟨m, ([.agg [a, x, y], .int .i64 ((i + 1 : Nat) : Int)], S), by omega, by simp only [zB, decide_true, decide_false, Bool.false_eq_true, if_false, if_true, List.getElem?_cons_zero, List.getElem?_cons_succ, beq_self_eq_true, bne_self_eq_false, Int.reduceBNe, Int.reduceBEq, Int.reduceLT, Int.reduceGT, Int.reduceLE, Int.reduceGE, Nat.reduceAdd, Nat.reduceMul, Nat.reduceLeDiff, c1, c2, h.len, x1, x2, x3, c3, c4, w1], i + 1, by omega, rfl, by omega, by omega⟩
        · have c4 : (l[i] == -1) = false := by simp [h2]
          rw [onesG, if_neg (by simp [h1, h2])] at hr
          exact .inl ⟨(0, [.int .i64 (i : Int)], S), by simp only [zB, decide_true, decide_false, Bool.false_eq_true, if_false, if_true, List.getElem?_cons_zero, List.getElem?_cons_succ, beq_self_eq_true, bne_self_eq_false, Int.reduceBNe, Int.reduceBEq, Int.reduceLT, Int.reduceGT, Int.reduceLE, Int.reduceGE, Nat.reduceAdd, Nat.reduceMul, Nat.reduceLeDiff, c1, c2, h.len, x1, x2, x3, c3, c4], by rw [← hr]; simp only [zB, decide_true, decide_false, Bool.false_eq_true, if_false, if_true, List.getElem?_cons_zero, List.getElem?_cons_succ, beq_self_eq_true, bne_self_eq_false, Int.reduceBNe, Int.reduceBEq, Int.reduceLT, Int.reduceGT, Int.reduceLE, Int.reduceGE, Nat.reduceAdd, Nat.reduceMul, Nat.reduceLeDiff, sel]⟩
    · have c2 : ¬ (i : Int) < (l.length : Int) := by omega
      rw [List.drop_eq_nil_of_le (by omega)] at hr
      simp only [onesG, Nat.add_zero] at hr
      exact .inl ⟨(0, [.int .i64 (i : Int)], S), by simp only [zB, decide_true, decide_false, Bool.false_eq_true, if_false, if_true, List.getElem?_cons_zero, List.getElem?_cons_succ, beq_self_eq_true, bne_self_eq_false, Int.reduceBNe, Int.reduceBEq, Int.reduceLT, Int.reduceGT, Int.reduceLE, Int.reduceGE, Nat.reduceAdd, Nat.reduceMul, Nat.reduceLeDiff, c1, c2, h.len], by rw [← hr]; simp only [zB, decide_true, decide_false, Bool.false_eq_true, if_false, if_true, List.getElem?_cons_zero, List.getElem?_cons_succ, beq_self_eq_true, bne_self_eq_false, Int.reduceBNe, Int.reduceBEq, Int.reduceLT, Int.reduceGT, Int.reduceLE, Int.reduceGE, Nat.reduceAdd, Nat.reduceMul, Nat.reduceLeDiff, sel]⟩
end
/-- From the end: the levels, the zeros between them, the zeros since the last one. -/
def rst : List Int → List Int × List Nat × Nat
  | [] => ([], [], 0)
  | v :: l => if v = 0 then ((rst l).1, (rst l).2.1, (rst l).2.2 + 1) else if (rst l).1 = [] then ([v], [], 0) else ((rst l).1 ++ [v], (rst l).2.1 ++ [(rst l).2.2], 0)
def natI (l : List Nat) : List Int := l.map fun (x : Nat) => (x : Int)
theorem natI_len (l : List Nat) : (natI l).length = l.length := by simp [natI]
theorem natI_app (l m : List Nat) : natI (l ++ m) = natI l ++ natI m := by simp [natI]
theorem natI_nil (l : List Nat) : natI l = [] ↔ l = [] := by cases l <;> simp [natI]
def rZ (l : List Int) : Nat := if (rst l).1 = [] then 0 else (rst l).2.2 + (rst l).2.1.sum
theorem rst_sum : ∀ l : List Int, (rst l).1.length + (rst l).2.1.sum + (rst l).2.2 ≤ l.length ∧ (rst l).2.1.length = (rst l).1.length - 1
  | [] => by simp [rst]
  | v :: l => by
    obtain ⟨h1, h2⟩ := rst_sum l
    by_cases h0 : v = 0
    · simp only [rst, if_pos h0, List.length_cons]; omega
    · by_cases h3 : (rst l).1 = []
      · have e : rst (v :: l) = ([v], [], 0) := by simp only [rst, if_neg h0, if_pos h3]
        rw [e]; simp
      · have := List.length_pos_iff.2 h3
        simp only [rst, if_neg h0, if_neg h3, List.length_append, List.length_cons, List.length_nil, List.sum_append, List.sum_cons, List.sum_nil]
        omega
def zR : AV := .agg [.nils, .int .i64 0, .nils]
def ofA (l : List Int) : AV := .agg [isl (rst l).1, .int .i64 (rZ l : Int), isl (natI (rst l).2.1)]
def ofR (l : List Int) : AV := if sizedI (l.length : Int) = false then .tup [zR, .int .i64 2] else if rngd l = false then .tup [zR, .int .i64 3] else .tup [ofA l, .int .i64 0]
theorem sized_le {l : List Int} (h : sizedI (l.length : Int) = true) : l.length ≤ 16 ∧ 4 ≤ l.length := by
  rcases (sizedI_iff _).1 h with h | h | h <;> omega
theorem fz_zR (e : Int) (S : Heap) : fz 40 (.tup [.agg [.nils, .int .i64 0, .nils], .int .i64 e]) S = some (.tup [.agg [.nils, .int .i64 0, .nils], .int .i64 e], S) := (rfl)
theorem cell_i (k : IntKind) (x : Int) : cell (.int k x) = true := rfl
theorem cell_nils : cell .nils = true := rfl
theorem take3 (x y z : AV) : List.take 3 (List.drop 0 [x, y, z]) = [x, y, z] := rfl
theorem set3_a (x y z a b c : AV) : setCells [x, y, z] 0 [a, b, c] = [a, b, c] := (rfl)
theorem set3_2 (x y z a : AV) : setCells [x, y, z] 2 [a] = [x, y, a] := (rfl)
theorem natI_at {l : List Nat} {i : Nat} (hi : i < (natI l).length) : (natI l)[i] = ((l[i]'(by rw [natI_len] at hi; exact hi) : Nat) : Int) := by simp [natI]
theorem callK_y {β : Type} (C : CallF) (y : Nat) (args : List AV) (S : Heap) (K : AV → Heap → Option β) : callK C .none (.yld y) args S K = bO (C yldId y args S) fun r => K r.1 r.2 := rfl
theorem withY_y (C : CallF) (y : Nat) (Y : List AV → Heap → Option (AV × Heap)) (args : List AV) (S : Heap) : withY C y Y yldId y args S = Y args S := by simp [withY]
theorem iter_bind {G : Nat → Option (List AV)} {C : CallF} {y : Nat} {Y : List AV → Heap → Option (AV × Heap)} {S : Heap} {cap : Nat} {β : Type} {g : AV × Heap → AExit × Heap} {F : AExit × Heap → Option β}
    (W : Option β → Prop) (a : AV) (l : List Int) (d : Nat) (I : Nat → Heap → Prop) (hlen : l.length ≤ 1000000000)
    (hI : ∀ m T, I m T → T.blk cap = some [a] ∧ IL T a l d) (h0 : I l.length S)
    (hz : ∀ m (hm : m < l.length) T, I (m + 1) T → l[m] = 0 → I m T)
    (hy : ∀ m (hm : m < l.length) T, I (m + 1) T → l[m] ≠ 0 → ∃ T', Y [.int .i64 (m : Int), .int .i64 l[m]] T = some (.bool true, T') ∧ I m T')
    (hfin : ∀ T, I 0 T → W (F (g (.tup [], T)))) :
    W (bO (bO (T_runs_backwards_1 ctlV G (withY C y Y) (.yld y) (.ptr cap 0) S) fun r => some (g r)) F) := by
  have key : ∃ T, T_runs_backwards_1 ctlV G (withY C y Y) (.yld y) (.ptr cap 0) S = some (.tup [], T) ∧ I 0 T := by
    unfold T_runs_backwards_1
    obtain ⟨b1, l1⟩ := hI _ _ h0
    have w0 : IntKind.wrap .i64 ((l.length : Int) - 1) = (l.length : Int) - 1 := wr _ (by omega)
    simp only [zB, decide_true, decide_false, Bool.false_eq_true, if_false, if_true, List.getElem?_cons_zero, List.getElem?_cons_succ, beq_self_eq_true, bne_self_eq_false, Int.reduceBNe, Int.reduceBEq, Int.reduceLT, Int.reduceGT, Int.reduceLE, Int.reduceGE, Nat.reduceAdd, Nat.reduceMul, Nat.reduceLeDiff, b1, l1.len, w0]
    refine loop_meas (fun o => ∃ T, o = some (AV.tup [], T) ∧ I 0 T) (fun m st => ∃ T, m ≤ l.length ∧ st = ([.yld y, .ptr cap 0, .int .i64 ((m : Int) - 1)], T) ∧ I m T) l.length ⟨S, Nat.le_refl _, rfl, h0⟩ ?_
    rintro m st ⟨T, hm, rfl, hT⟩
    obtain ⟨b2, l2⟩ := hI _ _ hT
    cases m with
    | zero =>
      have c1 : ¬ (((0 : Nat) : Int) - 1 ≥ 0) := by omega
      exact .inl ⟨(0, [], T), by simp only [zB, decide_true, decide_false, Bool.false_eq_true, if_false, if_true, List.getElem?_cons_zero, List.getElem?_cons_succ, beq_self_eq_true, bne_self_eq_false, Int.reduceBNe, Int.reduceBEq, Int.reduceLT, Int.reduceGT, Int.reduceLE, Int.reduceGE, Nat.reduceAdd, Nat.reduceMul, Nat.reduceLeDiff, c1], T, by simp only [zB, decide_true, decide_false, Bool.false_eq_true, if_false, if_true, List.getElem?_cons_zero, List.getElem?_cons_succ, beq_self_eq_true, bne_self_eq_false, Int.reduceBNe, Int.reduceBEq, Int.reduceLT, Int.reduceGT, Int.reduceLE, Int.reduceGE, Nat.reduceAdd, Nat.reduceMul, Nat.reduceLeDiff, sel], hT⟩
    | succ m =>
      have hi : m < l.length := by omega
      have c1 : (((m + 1 : Nat)) : Int) - 1 ≥ 0 := by omega
      have q1 : (((m + 1 : Nat)) : Int) - 1 = (m : Int) := by omega
      rw [q1] at c1 ⊢
      have w1 : IntKind.wrap .i64 ((m : Int) - 1) = (m : Int) - 1 := wr _ (by omega)
      obtain ⟨t, cs, o, x1, x2, x3⟩ := l2.at hi
      by_cases hv0 : l[m] = 0
      · have c2 : (l[m] != 0) = false := by simp [hv0]
        exact .inr ⟨m, ([.yld y, .ptr cap 0, .int .i64 ((m : Int) - 1)], T), by omega, by simp only [zB, decide_true, decide_false, Bool.false_eq_true, if_false, if_true, List.getElem?_cons_zero, List.getElem?_cons_succ, beq_self_eq_true, bne_self_eq_false, Int.reduceBNe, Int.reduceBEq, Int.reduceLT, Int.reduceGT, Int.reduceLE, Int.reduceGE, Nat.reduceAdd, Nat.reduceMul, Nat.reduceLeDiff, c1, b2, x1, x2, x3, c2, w1], T, by omega, rfl, hz m hi T hT hv0⟩
      · have c2 : (l[m] != 0) = true := by simp [hv0]
        obtain ⟨T', e, hT'⟩ := hy m hi T hT hv0
        exact .inr ⟨m, ([.yld y, .ptr cap 0, .int .i64 ((m : Int) - 1)], T'), by omega, by simp only [zB, decide_true, decide_false, Bool.false_eq_true, if_false, if_true, List.getElem?_cons_zero, List.getElem?_cons_succ, beq_self_eq_true, bne_self_eq_false, Int.reduceBNe, Int.reduceBEq, Int.reduceLT, Int.reduceGT, Int.reduceLE, Int.reduceGE, Nat.reduceAdd, Nat.reduceMul, Nat.reduceLeDiff, c1, b2, x1, x2, x3, c2, callK_y, withY_y, e, w1], T', by omega, rfl, hT'⟩
  obtain ⟨T, e, hT⟩ := key
  rw [e]
  exact hfin T hT
theorem IL.mv {S T : Heap} {a : AV} {l : List Int} {d : Nat} (h : IL S a l d) (hb : ∀ j, j < S.next → T.blk j = S.blk j) (hn : S.next ≤ T.next) : IL T a l d := by
  rcases h with h | h | ⟨h1, h2, h3⟩
  · exact .inl h
  · exact .inr (.inl h)
  · exact .inr (.inr ⟨h1, (hb d h3).trans h2, Nat.lt_of_lt_of_le h3 hn⟩)
theorem IL.cell {S : Heap} {a : AV} {l : List Int} {d : Nat} (h : IL S a l d) : cell a = true := by
  rcases h with ⟨rfl, _⟩ | rfl | ⟨rfl, _⟩ <;> rfl
theorem asFn_f {β : Type} (g : Nat) (first cap : List AV) (f : List AV → List AV → Option β) : asFn g (.fn g first cap) f = f first cap := by simp [asFn]
theorem ready_n {β : Type} {S : Heap} {c : List (Nat × List AV)} (h : S.cx = (none, c)) (o : Option β) : ready S o = o := by simp [ready, h]
theorem endIt_n {T : Heap} {v : AV} {c : List (Nat × List AV)} (cx : Cx) (h : T.cx = (none, c)) : endIt cx (v, T) = (.normal, { T with cx := cx }) := by simp [endIt, h]
structure OfI (S : Heap) (l : List Int) (a : AV) (p r cap m : Nat) (T : Heap) (bL bB : Nat) (lst : Int) : Prop where
  bp : T.blk p = some [hv (rst (l.drop m)).1 bL, .int .i64 ((rst (l.drop m)).2.1.sum : Int), hv (natI (rst (l.drop m)).2.1) bB]
  br : T.blk r = some [.int .i64 lst]
  bc : T.blk cap = some [a]
  hL : HR T (rst (l.drop m)).1 bL
  hB : HR T (natI (rst (l.drop m)).2.1) bB
  ne : (rst (l.drop m)).2.1 ≠ [] → bB ≠ bL
  nL : (rst (l.drop m)).1 ≠ [] → cap < bL
  nB : (rst (l.drop m)).2.1 ≠ [] → cap < bB
  hl : (rst (l.drop m)).1 ≠ [] → lst = ((m + (rst (l.drop m)).2.2 : Nat) : Int)
  fr : ∀ j, j < S.next → T.blk j = S.blk j
  nx : cap < T.next
  cx : T.cx = (none, S.cx.2)
section
variable {B : CallF} (hB : Silent B) (k : Nat) {S : Heap} {a : AV} {l : List Int} {d : Nat}
include hB
theorem back_c' (h : cell a = true) : Cn B (k + 1) f_runs_backwards 0 [a] S = some (.fn f_runs_backwards_1 [] [.ptr S.next 0], S.alloc [a]) := by
  rw [c_runs_backwards _ _ _ _ (hB.no _ _ _ _ (kn_no (by decide))), T_runs_backwards]
  simp only [zB, decide_true, decide_false, Bool.false_eq_true, if_false, if_true, List.getElem?_cons_zero, List.getElem?_cons_succ, beq_self_eq_true, bne_self_eq_false, Int.reduceBNe, Int.reduceBEq, Int.reduceLT, Int.reduceGT, Int.reduceLE, Int.reduceGE, Nat.reduceAdd, Nat.reduceMul, Nat.reduceLeDiff, h]
theorem of_c (h : IL S a l d) (hl0 : l.length ≤ 1000000000) : ∃ S', Cn B (k + 2) f_runs_Of 0 [a] S = some (ofR l, S') ∧ Fr S S' [] := by
  rw [c_runs_Of _ _ _ _ (hB.no _ _ _ _ (kn_no (by decide))), T_runs_Of]
  have e1 := rsized_c hB k (S := S) (l.length : Int)
  unfold ofR
  by_cases hs : sizedI (l.length : Int) = false
  · rw [hs] at e1
    rw [if_pos hs]
    exact ⟨S, by simp only [zB, decide_true, decide_false, Bool.false_eq_true, if_false, if_true, List.getElem?_cons_zero, List.getElem?_cons_succ, beq_self_eq_true, bne_self_eq_false, Int.reduceBNe, Int.reduceBEq, Int.reduceLT, Int.reduceGT, Int.reduceLE, Int.reduceGE, Nat.reduceAdd, Nat.reduceMul, Nat.reduceLeDiff, h.len, e1, fz_zR]; rfl, Fr.refl _ _⟩
  have hs' : sizedI (l.length : Int) = true := by simpa using hs
  rw [if_neg hs]
  rw [hs'] at e1
  have e2 := ranged_c hB k h hl0
  by_cases hr : rngd l = false
  · rw [hr] at e2
    rw [if_pos hr]
    exact ⟨S, by simp only [zB, decide_true, decide_false, Bool.false_eq_true, if_false, if_true, List.getElem?_cons_zero, List.getElem?_cons_succ, beq_self_eq_true, bne_self_eq_false, Int.reduceBNe, Int.reduceBEq, Int.reduceLT, Int.reduceGT, Int.reduceLE, Int.reduceGE, Nat.reduceAdd, Nat.reduceMul, Nat.reduceLeDiff, h.len, e1, e2, fz_zR]; rfl, Fr.refl _ _⟩
  have hr' : rngd l = true := by simpa using hr
  rw [if_neg hr]
  rw [hr'] at e2
  obtain ⟨hl16, _⟩ := sized_le hs'
  obtain ⟨U0, hU0⟩ : ∃ U0, U0 = (S.alloc [.nils, .int .i64 0, .nils]).alloc [.int .i64 0] := ⟨_, rfl⟩
  have n0 : (S.alloc [.nils, .int .i64 0, .nils]).next = S.next + 1 := rfl
  have n1 : U0.next = S.next + 2 := by rw [hU0]; rfl
  have p0 : U0.blk S.next = some [.nils, .int .i64 0, .nils] := by rw [hU0, alloc_other _ _ (by rw [alloc_next]; omega), alloc_blk]
  have r0 : U0.blk (S.next + 1) = some [.int .i64 0] := by rw [hU0]; exact alloc_blk (S.alloc _) _
  have f0 : ∀ j, j < S.next → U0.blk j = S.blk j := fun j hj => by rw [hU0, alloc_other _ _ (by rw [alloc_next]; omega), alloc_other _ _ (by omega)]
  have x0 : U0.cx = S.cx := by rw [hU0]; rfl
  have v1 : putV (.ptr S.next 0) [.nils, .int .i64 0, .nils] U0 = some (U0.set S.next (some [.nils, .int .i64 0, .nils])) := by rw [putV_p p0 (by simp)]; rfl
  obtain ⟨U1, hU1⟩ : ∃ U1, U1 = U0.set S.next (some [.nils, .int .i64 0, .nils]) := ⟨_, rfl⟩
  have r1 : U1.blk (S.next + 1) = some [.int .i64 0] := by rw [hU1, set_other _ _ (by omega)]; exact r0
  have v2 : putV (.ptr (S.next + 1) 0) [.int .i64 0] U1 = some (U1.set (S.next + 1) (some [.int .i64 0])) := by rw [putV_p r1 (by simp)]; rfl
  obtain ⟨U2, hU2⟩ : ∃ U2, U2 = U1.set (S.next + 1) (some [.int .i64 0]) := ⟨_, rfl⟩
  have p2 : U2.blk S.next = some [.nils, .int .i64 0, .nils] := by rw [hU2, set_other _ _ (by omega), hU1, set_blk]
  have r2 : U2.blk (S.next + 1) = some [.int .i64 0] := by rw [hU2, set_blk]
  have f2 : ∀ j, j < S.next → U2.blk j = S.blk j := fun j hj => by rw [hU2, set_other _ _ (by omega), hU1, set_other _ _ (by omega), f0 j hj]
  have n2 : U2.next = S.next + 2 := by rw [hU2, hU1]; exact n1
  have x2 : U2.cx = S.cx := by rw [hU2, hU1]; exact x0
  rw [← hU1] at v1
  rw [← hU2] at v2
  have e3 := back_c' hB k (S := U2) h.cell
  simp only [zB, decide_true, decide_false, Bool.false_eq_true, if_false, if_true, List.getElem?_cons_zero, List.getElem?_cons_succ, beq_self_eq_true, bne_self_eq_false, Int.reduceBNe, Int.reduceBEq, Int.reduceLT, Int.reduceGT, Int.reduceLE, Int.reduceGE, Nat.reduceAdd, Nat.reduceMul, Nat.reduceLeDiff, h.len, e1, e2, ← hU0, n0, v1, v2, e3, asFn_f, alloc_next]
  refine iter_bind (fun o => ∃ S', o = some (AV.tup [ofA l, .int .i64 0], S') ∧ Fr S S' []) a l d (fun m T => ∃ bL bB lst, OfI S l a S.next (S.next + 1) U2.next m T bL bB lst) (by omega) ?_ ?_ ?_ ?_ ?_
  · rintro m T ⟨bL, bB, lst, hT⟩
    exact ⟨hT.bc, h.mv hT.fr (by have := hT.nx; omega)⟩
  · refine ⟨0, 0, 0, ?_, ?_, ?_, ?_, ?_, ?_, ?_, ?_, ?_, ?_, ?_, ?_⟩
    · rw [List.drop_length]; exact (alloc_other U2 _ (by omega)).trans p2
    · exact (alloc_other U2 _ (by omega)).trans r2
    · exact alloc_blk U2 _
    · rw [List.drop_length]; exact fun h => absurd rfl h
    · rw [List.drop_length]; exact fun h => absurd rfl h
    · rw [List.drop_length]; exact fun h => absurd rfl h
    · rw [List.drop_length]; exact fun h => absurd rfl h
    · rw [List.drop_length]; exact fun h => absurd rfl h
    · rw [List.drop_length]; exact fun h => absurd rfl h
    · exact fun j hj => (alloc_other U2 _ (by omega)).trans (f2 j hj)
    · show U2.next < U2.next + 1 + 1; omega
    · show (none, U2.cx.2) = _; rw [x2]
  · rintro m hm T ⟨bL, bB, lst, hT⟩ hv0
    have hd2 : rst (l.drop m) = ((rst (l.drop (m + 1))).1, (rst (l.drop (m + 1))).2.1, (rst (l.drop (m + 1))).2.2 + 1) := by rw [List.drop_eq_getElem_cons hm]; simp only [rst, if_pos hv0]
    refine ⟨bL, bB, lst, ?_, hT.br, hT.bc, ?_, ?_, ?_, ?_, ?_, ?_, hT.fr, hT.nx, hT.cx⟩
    all_goals rw [hd2]
    · exact hT.bp
    · exact hT.hL
    · exact hT.hB
    · exact hT.ne
    · exact hT.nL
    · exact hT.nB
    · intro h0; rw [hT.hl h0]; simp only; omega
  · rintro m hm T ⟨bL, bB, lst, hT⟩ hv0
    have hrd := ready_n (β := AV × Heap) hT.cx
    obtain ⟨s1, s2⟩ := rst_sum (l.drop (m + 1))
    rw [List.length_drop] at s1
    have hnx := hT.nx
    by_cases h0 : (rst (l.drop (m + 1))).1 = []
    · have hd2 : rst (l.drop m) = ([l[m]], [], 0) := by rw [List.drop_eq_getElem_cons hm]; simp only [rst, if_neg hv0, if_pos h0]
      have hB0 : (rst (l.drop (m + 1))).2.1 = [] := by
        rw [h0] at s2
        exact List.length_eq_zero_iff.1 (by simpa using s2)
      have hlen0 : ((rst (l.drop (m + 1))).1.length : Int) = 0 := by rw [h0]; rfl
      have c4 : ¬ ((0 : Int) > 0) := by omega
      obtain ⟨T1, e4, hL2, m1, y1, o1⟩ := appI l[m] hT.hL (by omega)
      have bp1 : T1.blk S.next = some [hv (rst (l.drop (m + 1))).1 bL, .int .i64 ((rst (l.drop (m + 1))).2.1.sum : Int), hv (natI (rst (l.drop (m + 1))).2.1) bB] := (o1 _ (by omega) (.inr h0)).trans hT.bp
      have br1 : T1.blk (S.next + 1) = some [.int .i64 lst] := (o1 _ (by omega) (.inr h0)).trans hT.br
      have bc1 : T1.blk U2.next = some [a] := (o1 _ (by omega) (.inr h0)).trans hT.bc
      have e5 := put3_0 (x := hv ((rst (l.drop (m + 1))).1 ++ [l[m]]) T.next) bp1
      obtain ⟨T2, hT2⟩ : ∃ T2, T2 = T1.set S.next (some [hv ((rst (l.drop (m + 1))).1 ++ [l[m]]) T.next, .int .i64 ((rst (l.drop (m + 1))).2.1.sum : Int), hv (natI (rst (l.drop (m + 1))).2.1) bB]) := ⟨_, rfl⟩
      rw [← hT2] at e5
      have br2 : T2.blk (S.next + 1) = some [.int .i64 lst] := by rw [hT2, set_other _ _ (by omega)]; exact br1
      have e6 := put1_0 (x := .int .i64 (m : Int)) br2
      obtain ⟨T3, hT3⟩ : ∃ T3, T3 = T2.set (S.next + 1) (some [.int .i64 (m : Int)]) := ⟨_, rfl⟩
      rw [← hT3] at e6
      refine ⟨T3, ?_, T.next, bB, (m : Int), ?_, ?_, ?_, ?_, ?_, ?_, ?_, ?_, ?_, ?_, ?_, ?_⟩
      · simp only [zB, decide_true, decide_false, Bool.false_eq_true, if_false, if_true, List.getElem?_cons_zero, List.getElem?_cons_succ, beq_self_eq_true, bne_self_eq_false, Int.reduceBNe, Int.reduceBEq, Int.reduceLT, Int.reduceGT, Int.reduceLE, Int.reduceGE, Nat.reduceAdd, Nat.reduceMul, Nat.reduceLeDiff, hrd, hT.bp, hv_len, hlen0, c4, e4, hv_cell, List.all_cons, List.all_nil, e5, e6]
      · rw [hT3, set_other _ _ (by omega), hT2, set_blk, hd2, h0, hB0]; rfl
      · rw [hT3, set_blk]
      · rw [hT3, set_other _ _ (by omega), hT2, set_other _ _ (by omega)]; exact bc1
      · rw [hd2]
        rw [h0, List.nil_append] at hL2
        refine fun hh => ⟨?_, ?_⟩
        · rw [hT3, set_other _ _ (by omega), hT2, set_other _ _ (by omega)]; exact (hL2 hh).1
        · rw [hT3, hT2]; exact (hL2 hh).2
      · rw [hd2]; exact fun hh => absurd rfl hh
      · rw [hd2]; exact fun hh => absurd rfl hh
      · exact fun _ => hT.nx
      · rw [hd2]; exact fun hh => absurd rfl hh
      · rw [hd2]; exact fun _ => rfl
      · intro j hj
        rw [hT3, set_other _ _ (by omega), hT2, set_other _ _ (by omega), o1 _ (by omega) (.inr h0)]; exact hT.fr j hj
      · rw [hT3, hT2]; show U2.next < T1.next; omega
      · rw [hT3, hT2]; show T1.cx = _; rw [y1]; exact hT.cx
    · have hlp := List.length_pos_iff.2 h0
      have c4 : ((rst (l.drop (m + 1))).1.length : Int) > 0 := by omega
      have hd2 : rst (l.drop m) = ((rst (l.drop (m + 1))).1 ++ [l[m]], (rst (l.drop (m + 1))).2.1 ++ [(rst (l.drop (m + 1))).2.2], 0) := by rw [List.drop_eq_getElem_cons hm]; simp only [rst, if_neg hv0, if_neg h0]
      have hna : natI ((rst (l.drop (m + 1))).2.1 ++ [(rst (l.drop (m + 1))).2.2]) = natI (rst (l.drop (m + 1))).2.1 ++ [((rst (l.drop (m + 1))).2.2 : Int)] := natI_app _ _
      have hlst := hT.hl h0
      have w1 : IntKind.wrap .i64 (IntKind.wrap .i64 (lst - (m : Int)) - 1) = ((rst (l.drop (m + 1))).2.2 : Int) := by
        have z1 : lst - (m : Int) = (((rst (l.drop (m + 1))).2.2 + 1 : Nat) : Int) := by rw [hlst]; omega
        have z2 : (((rst (l.drop (m + 1))).2.2 + 1 : Nat) : Int) - 1 = ((rst (l.drop (m + 1))).2.2 : Int) := by omega
        rw [z1, wr ((((rst (l.drop (m + 1))).2.2 + 1 : Nat)) : Int) (by omega), z2, wr _ (by omega)]
      have w2 : IntKind.wrap .i64 (IntKind.wrap .i64 (IntKind.wrap .i64 (((rst (l.drop (m + 1))).2.1.sum : Int) + lst) - (m : Int)) - 1) = (((rst (l.drop (m + 1))).2.1.sum + (rst (l.drop (m + 1))).2.2 : Nat) : Int) := by
        have z1 : ((rst (l.drop (m + 1))).2.1.sum : Int) + lst = (((rst (l.drop (m + 1))).2.1.sum + (rst (l.drop (m + 1))).2.2 + m + 1 : Nat) : Int) := by rw [hlst]; omega
        have z2 : (((rst (l.drop (m + 1))).2.1.sum + (rst (l.drop (m + 1))).2.2 + m + 1 : Nat) : Int) - (m : Int) = (((rst (l.drop (m + 1))).2.1.sum + (rst (l.drop (m + 1))).2.2 + 1 : Nat) : Int) := by omega
        have z3 : (((rst (l.drop (m + 1))).2.1.sum + (rst (l.drop (m + 1))).2.2 + 1 : Nat) : Int) - 1 = (((rst (l.drop (m + 1))).2.1.sum + (rst (l.drop (m + 1))).2.2 : Nat) : Int) := by omega
        have z4 : ∀ n : Nat, n ≤ 1000000 → IntKind.wrap .i64 (n : Int) = (n : Int) := fun n hn => wr _ (by omega)
        rw [z1, z4 _ (by omega), z2, z4 _ (by omega), z3, z4 _ (by omega)]
      have hbb : (rst (l.drop (m + 1))).2.1 ≠ [] → U2.next < bB := hT.nB
      have hbl := hT.nL h0
      have hb_ne : ∀ j, j ≤ U2.next → (j ≠ bB ∨ natI (rst (l.drop (m + 1))).2.1 = []) := fun j hj => by
        by_cases hb0 : (rst (l.drop (m + 1))).2.1 = []
        · exact .inr ((natI_nil _).2 hb0)
        · exact .inl (by have := hbb hb0; omega)
      obtain ⟨T1, e4, hB2, m1, y1, o1⟩ := appI ((rst (l.drop (m + 1))).2.2 : Int) hT.hB (by rw [natI_len]; omega)
      have bp1 : T1.blk S.next = some [hv (rst (l.drop (m + 1))).1 bL, .int .i64 ((rst (l.drop (m + 1))).2.1.sum : Int), hv (natI (rst (l.drop (m + 1))).2.1) bB] := (o1 _ (by omega) (hb_ne _ (by omega))).trans hT.bp
      have e5 := put3_2 (x := hv (natI (rst (l.drop (m + 1))).2.1 ++ [((rst (l.drop (m + 1))).2.2 : Int)]) T.next) bp1
      obtain ⟨T2, hT2⟩ : ∃ T2, T2 = T1.set S.next (some [hv (rst (l.drop (m + 1))).1 bL, .int .i64 ((rst (l.drop (m + 1))).2.1.sum : Int), hv (natI (rst (l.drop (m + 1))).2.1 ++ [((rst (l.drop (m + 1))).2.2 : Int)]) T.next]) := ⟨_, rfl⟩
      rw [← hT2] at e5
      have bp2 : T2.blk S.next = some [hv (rst (l.drop (m + 1))).1 bL, .int .i64 ((rst (l.drop (m + 1))).2.1.sum : Int), hv (natI (rst (l.drop (m + 1))).2.1 ++ [((rst (l.drop (m + 1))).2.2 : Int)]) T.next] := by rw [hT2, set_blk]
      have br2 : T2.blk (S.next + 1) = some [.int .i64 lst] := by rw [hT2, set_other _ _ (by omega), o1 _ (by omega) (hb_ne _ (by omega))]; exact hT.br
      have e6 := put3_1 (x := .int .i64 (((rst (l.drop (m + 1))).2.1.sum + (rst (l.drop (m + 1))).2.2 : Nat) : Int)) bp2
      obtain ⟨T3, hT3⟩ : ∃ T3, T3 = T2.set S.next (some [hv (rst (l.drop (m + 1))).1 bL, .int .i64 (((rst (l.drop (m + 1))).2.1.sum + (rst (l.drop (m + 1))).2.2 : Nat) : Int), hv (natI (rst (l.drop (m + 1))).2.1 ++ [((rst (l.drop (m + 1))).2.2 : Int)]) T.next]) := ⟨_, rfl⟩
      rw [← hT3] at e6
      have bp3 : T3.blk S.next = some [hv (rst (l.drop (m + 1))).1 bL, .int .i64 (((rst (l.drop (m + 1))).2.1.sum + (rst (l.drop (m + 1))).2.2 : Nat) : Int), hv (natI (rst (l.drop (m + 1))).2.1 ++ [((rst (l.drop (m + 1))).2.2 : Int)]) T.next] := by rw [hT3, set_blk]
      have o3 : ∀ j, j ≠ S.next → T3.blk j = T1.blk j := fun j hj => by rw [hT3, set_other _ _ hj, hT2, set_other _ _ hj]
      have m3' : T3.next = T1.next := by rw [hT3, hT2]; rfl
      have y3 : T3.cx = T1.cx := by rw [hT3, hT2]; rfl
      have hL3 : HR T3 (rst (l.drop (m + 1))).1 bL := fun _ => ⟨by
        rw [o3 _ (by omega), o1 bL (by have := (hT.hL h0).2; omega) (by
          by_cases hb0 : (rst (l.drop (m + 1))).2.1 = []
          · exact .inr ((natI_nil _).2 hb0)
          · exact .inl (Ne.symm (hT.ne hb0)))]
        exact (hT.hL h0).1, by have := (hT.hL h0).2; omega⟩
      obtain ⟨T4, e7, hL4, m4, y4, o4⟩ := appI l[m] hL3 (by omega)
      have bp4 : T4.blk S.next = some [hv (rst (l.drop (m + 1))).1 bL, .int .i64 (((rst (l.drop (m + 1))).2.1.sum + (rst (l.drop (m + 1))).2.2 : Nat) : Int), hv (natI (rst (l.drop (m + 1))).2.1 ++ [((rst (l.drop (m + 1))).2.2 : Int)]) T.next] := (o4 _ (by omega) (.inl (by omega))).trans bp3
      have e8 := put3_0 (x := hv ((rst (l.drop (m + 1))).1 ++ [l[m]]) T3.next) bp4
      obtain ⟨T5, hT5⟩ : ∃ T5, T5 = T4.set S.next (some [hv ((rst (l.drop (m + 1))).1 ++ [l[m]]) T3.next, .int .i64 (((rst (l.drop (m + 1))).2.1.sum + (rst (l.drop (m + 1))).2.2 : Nat) : Int), hv (natI (rst (l.drop (m + 1))).2.1 ++ [((rst (l.drop (m + 1))).2.2 : Int)]) T.next]) := ⟨_, rfl⟩
      rw [← hT5] at e8
      have br5 : T5.blk (S.next + 1) = some [.int .i64 lst] := by
        rw [hT5, set_other _ _ (by omega), o4 _ (by omega) (.inl (by omega)), o3 _ (by omega), o1 _ (by omega) (hb_ne _ (by omega))]; exact hT.br
      have e9 := put1_0 (x := .int .i64 (m : Int)) br5
      obtain ⟨T6, hT6⟩ : ∃ T6, T6 = T5.set (S.next + 1) (some [.int .i64 (m : Int)]) := ⟨_, rfl⟩
      rw [← hT6] at e9
      have o6 : ∀ j, j ≠ S.next → j ≠ S.next + 1 → T6.blk j = T4.blk j := fun j h1 h2 => by rw [hT6, set_other _ _ h2, hT5, set_other _ _ h1]
      have m6 : T6.next = T4.next := by rw [hT6, hT5]; rfl
      refine ⟨T6, ?_, T3.next, T.next, (m : Int), ?_, ?_, ?_, ?_, ?_, ?_, ?_, ?_, ?_, ?_, ?_, ?_⟩
      · simp only [zB, decide_true, decide_false, Bool.false_eq_true, if_false, if_true, List.getElem?_cons_zero, List.getElem?_cons_succ, beq_self_eq_true, bne_self_eq_false, Int.reduceBNe, Int.reduceBEq, Int.reduceLT, Int.reduceGT, Int.reduceLE, Int.reduceGE, Nat.reduceAdd, Nat.reduceMul, Nat.reduceLeDiff, hrd, hT.bp, hT.br, hv_len, c4, w1, e4, hv_cell, List.all_cons, List.all_nil, e5, bp2, br2, w2, e6, bp3, e7, e8, e9]
      · rw [hT6, set_other _ _ (by omega), hT5, set_blk, hd2]
        simp only [List.sum_append, List.sum_cons, List.sum_nil, Nat.add_zero, hna]
      · rw [hT6, set_blk]
      · rw [o6 _ (by omega) (by omega), o4 _ (by omega) (.inl (by omega)), o3 _ (by omega), o1 _ (by omega) (hb_ne _ (by omega))]; exact hT.bc
      · rw [hd2]
        exact fun hh => ⟨by rw [o6 _ (by omega) (by omega)]; exact (hL4 hh).1, by rw [m6]; exact (hL4 hh).2⟩
      · rw [hd2]; simp only; rw [hna]
        exact fun hh => ⟨by rw [o6 _ (by omega) (by omega), o4 _ (by omega) (.inl (by have := (hT.hL h0).2; omega)), o3 _ (by omega)]; exact (hB2 hh).1, by omega⟩
      · exact fun _ => by omega
      · exact fun _ => by omega
      · exact fun _ => by omega
      · rw [hd2]; exact fun _ => rfl
      · intro j hj
        rw [o6 _ (by omega) (by omega), o4 _ (by omega) (.inl (by omega)), o3 _ (by omega), o1 _ (by omega) (hb_ne _ (by omega))]; exact hT.fr j hj
      · omega
      · rw [hT6, hT5]; show T4.cx = _; rw [y4, y3, y1]; exact hT.cx
  · rintro T ⟨bL, bB, lst, hT⟩
    have hcx := endIt_n (v := .tup []) S.cx hT.cx
    rw [show Heap.cx (U2.alloc [a]) = S.cx from x2, hcx]
    obtain ⟨V, hV⟩ : ∃ V : Heap, V = { T with cx := S.cx } := ⟨_, rfl⟩
    have bp := hT.bp
    have br := hT.br
    have hL := hT.hL
    have hBB := hT.hB
    have hnx := hT.nx
    rw [List.drop_zero] at bp hL hBB
    have ne := hT.ne
    have nL := hT.nL
    have nB := hT.nB
    have hlst := hT.hl
    rw [List.drop_zero] at ne nL nB hlst
    obtain ⟨s1, s2⟩ := rst_sum l
    rw [← hV]
    have vb : ∀ j, V.blk j = T.blk j := fun j => by rw [hV]
    have vn : V.next = T.next := by rw [hV]
    have bpV := (vb S.next).trans bp
    have brV := (vb (S.next + 1)).trans br
    have hFV : Fr S V [] := ⟨by omega, by rw [hV], fun j hj _ => (vb j).trans (hT.fr j hj)⟩
    have hz : ∀ (W : Heap) (x : Int), (∀ j, j ≠ S.next → W.blk j = V.blk j) → W.next = V.next → Fr S W [] → ∃ S', fz 40 (.tup [.agg [hv (rst l).1 bL, .int .i64 x, hv (natI (rst l).2.1) bB], .int .i64 0]) W = some (.tup [.agg [isl (rst l).1, .int .i64 x, isl (natI (rst l).2.1)], .int .i64 0], S') ∧ Fr S S' [] := by
      intro W x hW hWn hWF
      have q1 : HR W (rst l).1 bL := fun h0 => ⟨by rw [hW _ (by have := nL h0; omega), vb]; exact (hL h0).1, by have := (hL h0).2; omega⟩
      have q2 : HR W (natI (rst l).2.1) bB := fun h0 => ⟨by rw [hW _ (by have := nB (fun hh => h0 ((natI_nil _).2 hh)); omega), vb]; exact (hBB h0).1, by have := (hBB h0).2; omega⟩
      exact ⟨_, fz_runs q1 q2 (fun _ h1 => ne (fun h0 => h1 ((natI_nil _).2 h0))), (hWF.kill (fun h0 => .inr (by have := nL h0; omega))).kill (fun h1 => .inr (by have := nB (fun h0 => h1 ((natI_nil _).2 h0)); omega))⟩
    by_cases h0 : (rst l).1 = []
    · have h1 : (rst l).2.1 = [] := by
        rw [h0] at s2
        exact List.length_eq_zero_iff.1 (by simpa using s2)
      have hlen0 : ((rst l).1.length : Int) = 0 := by rw [h0]; rfl
      have c2 : ¬ ((0 : Int) > 0) := by omega
      have hzr : (rZ l : Int) = ((rst l).2.1.sum : Int) := by unfold rZ; rw [if_pos h0, h1]; rfl
      obtain ⟨S', e4, hF'⟩ := hz V ((rst l).2.1.sum : Int) (fun _ _ => rfl) rfl hFV
      refine ⟨S', ?_, hF'⟩
      unfold ofA
      rw [hzr]
      simp only [zB, decide_true, decide_false, Bool.false_eq_true, if_false, if_true, List.getElem?_cons_zero, List.getElem?_cons_succ, beq_self_eq_true, bne_self_eq_false, Int.reduceBNe, Int.reduceBEq, Int.reduceLT, Int.reduceGT, Int.reduceLE, Int.reduceGE, Nat.reduceAdd, Nat.reduceMul, Nat.reduceLeDiff, bpV, hv_len, hlen0, c2, take3, set3_a, List.length_cons, List.length_nil, List.all_cons, List.all_nil, hv_cell, cell_i, cell_nils, e4]
    · have hlp := List.length_pos_iff.2 h0
      have c2 : ((rst l).1.length : Int) > 0 := by omega
      have hl2 := hlst h0
      have hzr : (rZ l : Int) = (((rst l).2.2 + (rst l).2.1.sum : Nat) : Int) := by unfold rZ; rw [if_neg h0]
      have w1 : IntKind.wrap .i64 (((rst l).2.1.sum : Int) + lst) = (rZ l : Int) := by rw [hl2, hzr, wr _ (by omega)]; omega
      have e3 := put3_1 (x := .int .i64 (rZ l : Int)) bpV
      obtain ⟨V2, hV2⟩ : ∃ V2, V2 = V.set S.next (some [hv (rst l).1 bL, .int .i64 (rZ l : Int), hv (natI (rst l).2.1) bB]) := ⟨_, rfl⟩
      rw [← hV2] at e3
      have bp2 : V2.blk S.next = some [hv (rst l).1 bL, .int .i64 (rZ l : Int), hv (natI (rst l).2.1) bB] := by rw [hV2, set_blk]
      obtain ⟨S', e4, hF'⟩ := hz V2 (rZ l : Int) (fun j hj => by rw [hV2, set_other _ _ hj]) (by rw [hV2]; rfl) (by rw [hV2]; exact hFV.set (.inr (Nat.le_refl _)) _)
      refine ⟨S', ?_, hF'⟩
      unfold ofA
      simp only [zB, decide_true, decide_false, Bool.false_eq_true, if_false, if_true, List.getElem?_cons_zero, List.getElem?_cons_succ, beq_self_eq_true, bne_self_eq_false, Int.reduceBNe, Int.reduceBEq, Int.reduceLT, Int.reduceGT, Int.reduceLE, Int.reduceGE, Nat.reduceAdd, Nat.reduceMul, Nat.reduceLeDiff, bpV, brV, hv_len, c2, w1, e3, bp2, take3, set3_a, List.length_cons, List.length_nil, List.all_cons, List.all_nil, hv_cell, cell_i, cell_nils, e4]
end
def escN (k : Nat) : Nat := if k = 0 then 30 else 15 * 2 ^ k
def mstN (k : Nat) : Nat := escN k + 4095
def splN (k c : Nat) : Nat × Nat × Nat := if c ≥ escN k then (15, c - escN k, 12) else if k > 0 then (c / 2 ^ k, c % 2 ^ k, k) else if c ≥ 14 then (14, c - 14, 4) else (c, 0, 0)
def aftN (k sz : Nat) : Nat := if sz > 3 * 2 ^ (max k 1 - 1) ∧ max k 1 < 6 then max k 1 + 1 else max k 1
def lvN (sk : Nat) (v : Int) : Nat := 2 * (v.natAbs - 1) - sk + (if v < 0 then 1 else 0)
def lvB (k n : Nat) : List Bool := bitsN ((splN k n).1 + 1) 1 ++ bitsN (splN k n).2.2 (splN k n).2.1
def lvC (k sk : Nat) (v : Int) : Option (List Bool) := if lvN sk v > mstN k then none else some (lvB k (lvN sk v))
theorem esc_fin : ∀ k : Fin 7, escN k.val ≤ 960 ∧ 30 ≤ escN k.val ∧ 2 ^ k.val ≤ 64 ∧ (0 < k.val → escN k.val = 15 * 2 ^ k.val) := by decide
theorem esc_le {k : Nat} (h : k ≤ 6) : escN k ≤ 960 ∧ 30 ≤ escN k ∧ 2 ^ k ≤ 64 ∧ (0 < k → escN k = 15 * 2 ^ k) := esc_fin ⟨k, by omega⟩
theorem aft_le {k : Nat} (h : k ≤ 6) (sz : Nat) : aftN k sz ≤ 6 ∧ 1 ≤ aftN k sz := by unfold aftN; split <;> omega
theorem spl_le {k c : Nat} (hk : k ≤ 6) (h : c ≤ mstN k) : (splN k c).1 ≤ 15 ∧ (splN k c).2.2 ≤ 12 ∧ (splN k c).2.1 < 2 ^ (splN k c).2.2 := by
  obtain ⟨h1, h2, h3, h4⟩ := esc_le hk
  unfold mstN at h
  unfold splN
  split
  · refine ⟨Nat.le_refl _, Nat.le_refl _, ?_⟩
    simp only
    omega
  · split
    · rename_i h5 h6
      refine ⟨?_, by simp only; omega, Nat.mod_lt _ (Nat.two_pow_pos _)⟩
      simp only
      have := h4 h6
      exact Nat.le_of_lt (Nat.div_lt_of_lt_mul (by rw [Nat.mul_comm]; omega))
    · split
      · rename_i h5 h6 h7
        have hk0 : k = 0 := by omega
        subst hk0
        have e : escN 0 = 30 := rfl
        simp only; omega
      · simp only; omega
theorem lvB_len {k c : Nat} (hk : k ≤ 6) (h : c ≤ mstN k) : (lvB k c).length ≤ 28 := by
  obtain ⟨h1, h2, _⟩ := spl_le hk h
  simp only [lvB, List.length_append, bitsN_len]; omega
theorem shl15 : ∀ k : Fin 7, shlI .i64 15 ((k.val : Nat) : Int) = ((15 * 2 ^ k.val : Nat) : Int) := by decide
theorem shl3 : ∀ k : Fin 7, shlI .i64 3 ((k.val : Nat) : Int) = ((3 * 2 ^ k.val : Nat) : Int) := by decide
theorem shl1 : ∀ k : Fin 7, shlI .i64 1 ((k.val : Nat) : Int) = ((2 ^ k.val : Nat) : Int) := by decide
theorem shrN (v k : Nat) (hk : k ≤ 64) : shrI .i64 v k = ((v / 2 ^ k : Nat) : Int) := by
  have : min k 64 = k := by omega
  simp only [shrI, Int.toNat_natCast, IntKind.bits, this, pow2N]
  rw [Int.fdiv_eq_ediv_of_nonneg _ (Int.natCast_nonneg _)]; rfl
theorem shlN (v k : Nat) (hk : k ≤ 64) (hv : v * 2 ^ k < 4611686018427387904) : shlI .i64 v k = ((v * 2 ^ k : Nat) : Int) := by
  have : min k 64 = k := by omega
  simp only [shlI, Int.toNat_natCast, IntKind.bits, this, pow2N, ← Int.natCast_mul]
  exact wr _ (by omega)
theorem andN (x y : Nat) (hx : x < 4611686018427387904) (hy : y < 4611686018427387904) : andI .i64 x y = ((x &&& y : Nat) : Int) := by
  have h : x &&& y ≤ x := Nat.and_le_left
  have e : (BitVec.ofInt 64 (x : Int) &&& BitVec.ofInt 64 (y : Int)).toNat = x &&& y := by
    rw [BitVec.toNat_and, bvNat 64 x (by omega), bvNat 64 y (by omega)]
  show IntKind.wrap .i64 (((BitVec.ofInt 64 (x : Int) &&& BitVec.ofInt 64 (y : Int)).toNat : Nat) : Int) = _
  rw [e]
  exact wr ((x &&& y : Nat) : Int) (by omega)
structure Cod (S : Heap) (c k left sk : Nat) : Prop where
  blk : S.blk c = some [.int .i64 (k : Int), .int .i64 (left : Int), .int .i64 (sk : Int)]
  lt : c < S.next
structure Cod1 (S : Heap) (c k left sk : Nat) : Prop where
  blk : S.blk c = some [.int .i64 (left : Int), .int .i64 (k : Int), .int .i64 (sk : Int)]
  lt : c < S.next
theorem Cod.fr {S T : Heap} {c k left sk : Nat} {ids : List Nat} (h : Cod S c k left sk) (f : Fr S T ids) (hc : c ∉ ids) : Cod T c k left sk := ⟨(f.get h.lt hc).trans h.blk, Nat.lt_of_lt_of_le h.lt f.1⟩
theorem Cod1.fr {S T : Heap} {c k left sk : Nat} {ids : List Nat} (h : Cod1 S c k left sk) (f : Fr S T ids) (hc : c ∉ ids) : Cod1 T c k left sk := ⟨(f.get h.lt hc).trans h.blk, Nat.lt_of_lt_of_le h.lt f.1⟩
def k0N (total ones : Nat) : Nat := if total > 10 ∧ ones < 3 then 1 else 0
def s0N (ones : Nat) : Nat := if ones < 3 then 2 else 0
section
variable {B : CallF} (hB : Silent B) (k : Nat) {S : Heap} {c K left sk : Nat}
include hB
theorem esc_c (hK : K ≤ 6) : Cn B (k + 1) f_level_length_escape 0 [.int .i64 (K : Int)] S = some (.int .i64 (escN K : Int), S) := by
  rw [c_level_length_escape _ _ _ _ (hB.no _ _ _ _ (kn_no (by decide))), T_level_length_escape]
  unfold escN
  by_cases h : K = 0
  · subst h; simp only [zB, decide_true, decide_false, Bool.false_eq_true, if_false, if_true, List.getElem?_cons_zero, List.getElem?_cons_succ, beq_self_eq_true, bne_self_eq_false, Int.reduceBNe, Int.reduceBEq, Int.reduceLT, Int.reduceGT, Int.reduceLE, Int.reduceGE, Nat.reduceAdd, Nat.reduceMul, Nat.reduceLeDiff, Int.natCast_zero]; rfl
  · have c1 : ((K : Int) == 0) = false := by simp [h]
    have := shl15 ⟨K, by omega⟩
    simp only at this
    rw [if_neg h]
    simp only [zB, decide_true, decide_false, Bool.false_eq_true, if_false, if_true, List.getElem?_cons_zero, List.getElem?_cons_succ, beq_self_eq_true, bne_self_eq_false, Int.reduceBNe, Int.reduceBEq, Int.reduceLT, Int.reduceGT, Int.reduceLE, Int.reduceGE, Nat.reduceAdd, Nat.reduceMul, Nat.reduceLeDiff, c1, aShl, this]
theorem lmost_c (hK : K ≤ 6) : Cn B (k + 2) f_level_length_most 0 [.int .i64 (K : Int)] S = some (.int .i64 (mstN K : Int), S) := by
  rw [c_level_length_most _ _ _ _ (hB.no _ _ _ _ (kn_no (by decide))), T_level_length_most]
  have e := esc_c hB k (S := S) hK
  obtain ⟨h1, _⟩ := esc_le hK
  have w1 : IntKind.wrap .i64 ((escN K : Int) + 4096) = ((escN K + 4096 : Nat) : Int) := by rw [wr _ (by omega)]; omega
  have w2 : IntKind.wrap .i64 (((escN K + 4096 : Nat) : Int) - 1) = (mstN K : Int) := by unfold mstN; rw [wr _ (by omega)]; omega
  simp only [zB, decide_true, decide_false, Bool.false_eq_true, if_false, if_true, List.getElem?_cons_zero, List.getElem?_cons_succ, beq_self_eq_true, bne_self_eq_false, Int.reduceBNe, Int.reduceBEq, Int.reduceLT, Int.reduceGT, Int.reduceLE, Int.reduceGE, Nat.reduceAdd, Nat.reduceMul, Nat.reduceLeDiff, e, w1, w2]
theorem split_c (hK : K ≤ 6) (n : Nat) (hn : n ≤ 1000000) : Cn B (k + 2) f_level_length_split 0 [.int .i64 (K : Int), .int .i64 (n : Int)] S = some (.tup [.int .i64 ((splN K n).1 : Int), .int .i64 ((splN K n).2.1 : Int), .int .i64 ((splN K n).2.2 : Int)], S) := by
  rw [c_level_length_split _ _ _ _ _ (hB.no _ _ _ _ (kn_no (by decide))), T_level_length_split]
  have e := esc_c hB k (S := S) hK
  obtain ⟨h1, h2, h3, h4⟩ := esc_le hK
  unfold splN
  by_cases g1 : n ≥ escN K
  · have c1 : (n : Int) ≥ (escN K : Int) := by omega
    have w1 : IntKind.wrap .i64 ((n : Int) - (escN K : Int)) = ((n - escN K : Nat) : Int) := by rw [wr _ (by omega)]; omega
    rw [if_pos g1]
    simp only [zB, decide_true, decide_false, Bool.false_eq_true, if_false, if_true, List.getElem?_cons_zero, List.getElem?_cons_succ, beq_self_eq_true, bne_self_eq_false, Int.reduceBNe, Int.reduceBEq, Int.reduceLT, Int.reduceGT, Int.reduceLE, Int.reduceGE, Nat.reduceAdd, Nat.reduceMul, Nat.reduceLeDiff, e, c1, w1]; rfl
  · have c1 : ¬ (n : Int) ≥ (escN K : Int) := by omega
    rw [if_neg g1]
    by_cases g2 : K > 0
    · have c2 : (K : Int) > 0 := by omega
      have h5 := shl1 ⟨K, by omega⟩
      simp only at h5
      have w1 : IntKind.wrap .i64 (((2 ^ K : Nat) : Int) - 1) = ((2 ^ K - 1 : Nat) : Int) := by
        have := Nat.two_pow_pos K
        rw [wr _ (by omega)]; omega
      have h6 := andN n (2 ^ K - 1) (by omega) (by omega)
      rw [Nat.and_two_pow_sub_one_eq_mod] at h6
      rw [if_pos g2]
      simp only [zB, decide_true, decide_false, Bool.false_eq_true, if_false, if_true, List.getElem?_cons_zero, List.getElem?_cons_succ, beq_self_eq_true, bne_self_eq_false, Int.reduceBNe, Int.reduceBEq, Int.reduceLT, Int.reduceGT, Int.reduceLE, Int.reduceGE, Nat.reduceAdd, Nat.reduceMul, Nat.reduceLeDiff, e, c1, c2, aShr, aShl, shrN n K (by omega), h5, w1, h6]
    · have c2 : ¬ (K : Int) > 0 := by omega
      rw [if_neg g2]
      by_cases g3 : n ≥ 14
      · have c3 : (n : Int) ≥ 14 := by omega
        have w1 : IntKind.wrap .i64 ((n : Int) - 14) = ((n - 14 : Nat) : Int) := by rw [wr _ (by omega)]; omega
        rw [if_pos g3]
        simp only [zB, decide_true, decide_false, Bool.false_eq_true, if_false, if_true, List.getElem?_cons_zero, List.getElem?_cons_succ, beq_self_eq_true, bne_self_eq_false, Int.reduceBNe, Int.reduceBEq, Int.reduceLT, Int.reduceGT, Int.reduceLE, Int.reduceGE, Nat.reduceAdd, Nat.reduceMul, Nat.reduceLeDiff, e, c1, c2, c3, w1]; rfl
      · have c3 : ¬ (n : Int) ≥ 14 := by omega
        rw [if_neg g3]
        simp only [zB, decide_true, decide_false, Bool.false_eq_true, if_false, if_true, List.getElem?_cons_zero, List.getElem?_cons_succ, beq_self_eq_true, bne_self_eq_false, Int.reduceBNe, Int.reduceBEq, Int.reduceLT, Int.reduceGT, Int.reduceLE, Int.reduceGE, Nat.reduceAdd, Nat.reduceMul, Nat.reduceLeDiff, e, c1, c2, c3]; rfl
theorem after_c (h : Cod S c K left sk) (hK : K ≤ 6) (sz : Nat) (hsz : sz ≤ 1000000) : ∃ S', Cn B (k + 1) f_level_length_after 0 [.ptr c 0, .int .i64 (sz : Int)] S = some (.tup [], S') ∧ Cod S' c (aftN K sz) left sk ∧ Fr S S' [c] ∧ S'.next = S.next := by
  rw [c_level_length_after _ _ _ _ _ (hB.no _ _ _ _ (kn_no (by decide))), T_level_length_after]
  have w1 : (if (1 : Int) > (K : Int) then (1 : Int) else (K : Int)) = ((max K 1 : Nat) : Int) := by split <;> omega
  have e1 := put3_0 (x := .int .i64 ((max K 1 : Nat) : Int)) h.blk
  obtain ⟨S1, hS1⟩ : ∃ S1, S1 = S.set c (some [.int .i64 ((max K 1 : Nat) : Int), .int .i64 (left : Int), .int .i64 (sk : Int)]) := ⟨_, rfl⟩
  rw [← hS1] at e1
  have b1 : S1.blk c = some [.int .i64 ((max K 1 : Nat) : Int), .int .i64 (left : Int), .int .i64 (sk : Int)] := by rw [hS1, set_blk]
  have w2 : IntKind.wrap .i64 (((max K 1 : Nat) : Int) - 1) = ((max K 1 - 1 : Nat) : Int) := by rw [wr _ (by omega)]; omega
  have h3 := shl3 ⟨max K 1 - 1, by omega⟩
  simp only at h3
  have hF1 : Fr S S1 [c] := by rw [hS1]; exact (Fr.refl S [c]).set (.inl (by simp)) _
  have hn1 : S1.next = S.next := by rw [hS1]; rfl
  unfold aftN
  by_cases g1 : sz > 3 * 2 ^ (max K 1 - 1)
  · have c1 : (sz : Int) > ((3 * 2 ^ (max K 1 - 1) : Nat) : Int) := by omega
    by_cases g2 : max K 1 < 6
    · have c2 : ((max K 1 : Nat) : Int) < 6 := by omega
      have w3 : IntKind.wrap .i64 (((max K 1 : Nat) : Int) + 1) = ((max K 1 + 1 : Nat) : Int) := by rw [wr _ (by omega)]; omega
      have e2 := put3_0 (x := .int .i64 ((max K 1 + 1 : Nat) : Int)) b1
      rw [if_pos ⟨g1, g2⟩]
      exact ⟨_, by simp only [zB, decide_true, decide_false, Bool.false_eq_true, if_false, if_true, List.getElem?_cons_zero, List.getElem?_cons_succ, beq_self_eq_true, bne_self_eq_false, Int.reduceBNe, Int.reduceBEq, Int.reduceLT, Int.reduceGT, Int.reduceLE, Int.reduceGE, Nat.reduceAdd, Nat.reduceMul, Nat.reduceLeDiff, h.blk, w1, e1, b1, w2, aShl, h3, c1, c2, w3, e2], ⟨set_blk _ _ _, by rw [set_next, hn1]; exact h.lt⟩, hF1.set (.inl (by simp)) _, by rw [set_next, hn1]⟩
    · have c2 : ¬ ((max K 1 : Nat) : Int) < 6 := by omega
      rw [if_neg (fun hh => g2 hh.2)]
      exact ⟨S1, by simp only [zB, decide_true, decide_false, Bool.false_eq_true, if_false, if_true, List.getElem?_cons_zero, List.getElem?_cons_succ, beq_self_eq_true, bne_self_eq_false, Int.reduceBNe, Int.reduceBEq, Int.reduceLT, Int.reduceGT, Int.reduceLE, Int.reduceGE, Nat.reduceAdd, Nat.reduceMul, Nat.reduceLeDiff, h.blk, w1, e1, b1, w2, aShl, h3, c1, c2], ⟨b1, by rw [hn1]; exact h.lt⟩, hF1, hn1⟩
  · have c1 : ¬ (sz : Int) > ((3 * 2 ^ (max K 1 - 1) : Nat) : Int) := by omega
    rw [if_neg (fun hh => g1 hh.1)]
    exact ⟨S1, by simp only [zB, decide_true, decide_false, Bool.false_eq_true, if_false, if_true, List.getElem?_cons_zero, List.getElem?_cons_succ, beq_self_eq_true, bne_self_eq_false, Int.reduceBNe, Int.reduceBEq, Int.reduceLT, Int.reduceGT, Int.reduceLE, Int.reduceGE, Nat.reduceAdd, Nat.reduceMul, Nat.reduceLeDiff, h.blk, w1, e1, b1, w2, aShl, h3, c1], ⟨b1, by rw [hn1]; exact h.lt⟩, hF1, hn1⟩
omit hB in
theorem absI' (v : Int) (hv : v.natAbs ≤ 1000000) : (if (IntKind.wrap .i64 (0 - v) : Int) > v then IntKind.wrap .i64 (0 - v) else v) = ((v.natAbs : Nat) : Int) := by
  rw [wr _ (by omega)]; split <;> omega
theorem next_c (h : Cod S c K (left + 1) sk) (hK : K ≤ 6) (hl : left ≤ 1000) (v : Int) (hv : v.natAbs ≤ 1000000) : ∃ S', Cn B (k + 2) f_level_Coder_next 0 [.ptr c 0, .int .i64 v] S = some (.tup [], S') ∧ Cod S' c (aftN K v.natAbs) left 0 ∧ Fr S S' [c] ∧ S'.next = S.next := by
  rw [c_level_Coder_next _ _ _ _ _ (hB.no _ _ _ _ (kn_no (by decide))), T_level_Coder_next]
  have w1 : IntKind.wrap .i64 (((left + 1 : Nat) : Int) - 1) = (left : Int) := by rw [wr _ (by omega)]; omega
  have e1 := put3_1 (x := .int .i64 (left : Int)) h.blk
  obtain ⟨S1, hS1⟩ : ∃ S1, S1 = S.set c (some [.int .i64 (K : Int), .int .i64 (left : Int), .int .i64 (sk : Int)]) := ⟨_, rfl⟩
  rw [← hS1] at e1
  have b1 : S1.blk c = some [.int .i64 (K : Int), .int .i64 (left : Int), .int .i64 (sk : Int)] := by rw [hS1, set_blk]
  have e2 := put3_2 (x := .int .i64 0) b1
  obtain ⟨S2, hS2⟩ : ∃ S2, S2 = S1.set c (some [.int .i64 (K : Int), .int .i64 (left : Int), .int .i64 0]) := ⟨_, rfl⟩
  rw [← hS2] at e2
  have n2 : S2.next = S.next := by rw [hS2, hS1]; rfl
  have hC2 : Cod S2 c K left 0 := ⟨by rw [hS2, set_blk]; rfl, by rw [n2]; exact h.lt⟩
  obtain ⟨S3, e3, h3, f3, n3⟩ := after_c hB k hC2 hK v.natAbs hv
  have hF2 : Fr S S2 [c] := by rw [hS2, hS1]; exact ((Fr.refl S [c]).set (.inl (by simp)) _).set (.inl (by simp)) _
  exact ⟨S3, by simp only [zB, decide_true, decide_false, Bool.false_eq_true, if_false, if_true, List.getElem?_cons_zero, List.getElem?_cons_succ, beq_self_eq_true, bne_self_eq_false, Int.reduceBNe, Int.reduceBEq, Int.reduceLT, Int.reduceGT, Int.reduceLE, Int.reduceGE, Nat.reduceAdd, Nat.reduceMul, Nat.reduceLeDiff, h.blk, w1, e1, e2, absI' v hv, e3], h3, hF2.trans f3 (fun j hj => .inl hj), n3.trans n2⟩
theorem cmost_c (h : Cod S c K (left + 1) sk) (hK : K ≤ 6) (hs : sk ≤ 2) : Cn B (k + 3) f_level_Coder_Most 0 [.ptr c 0] S = some (.int .i64 (((mstN K + sk) / 2 + 1 : Nat) : Int), S) := by
  rw [c_level_Coder_Most _ _ _ _ (hB.no _ _ _ _ (kn_no (by decide))), T_level_Coder_Most]
  have e := lmost_c hB k (S := S) hK
  obtain ⟨h1, _⟩ := esc_le hK
  have c1 : (((left + 1 : Nat) : Int) == 0) = false := by simp; omega
  have hm : mstN K ≤ 6000 := by unfold mstN; omega
  have w1 : IntKind.wrap .i64 ((mstN K : Int) + (sk : Int)) = ((mstN K + sk : Nat) : Int) := by rw [wr _ (by omega)]; omega
  have w2 : IntKind.wrap .i64 (Int.tdiv ((mstN K + sk : Nat) : Int) 2) = (((mstN K + sk) / 2 : Nat) : Int) := by rw [tdiv2, wr _ (by omega)]
  have w3 : IntKind.wrap .i64 ((((mstN K + sk) / 2 : Nat) : Int) + 1) = (((mstN K + sk) / 2 + 1 : Nat) : Int) := by rw [wr _ (by omega)]; omega
  simp only [zB, decide_true, decide_false, Bool.false_eq_true, if_false, if_true, List.getElem?_cons_zero, List.getElem?_cons_succ, beq_self_eq_true, bne_self_eq_false, Int.reduceBNe, Int.reduceBEq, Int.reduceLT, Int.reduceGT, Int.reduceLE, Int.reduceGE, Nat.reduceAdd, Nat.reduceMul, Nat.reduceLeDiff, h.blk, c1, e, w1, w2, w3]
theorem lput_none {p : Nat} (h : Cod S c K (left + 1) sk) (hK : K ≤ 6) (hs : sk ≤ 2) (v : Int) (hv : v.natAbs ≤ 1000000) (h0 : v ≠ 0) (h1 : sk = 0 ∨ v ≠ 1 ∧ v ≠ -1) (hn : lvC K sk v = none) :
    Cn B (k + 4) f_level_Coder_Put 0 [.ptr c 0, .ptr p 0, .int .i64 v] S = some (.int .i64 12, S) := by
  rw [c_level_Coder_Put _ _ _ _ _ _ (hB.no _ _ _ _ (kn_no (by decide))), T_level_Coder_Put]
  have e1 := cmost_c hB k h hK hs
  have e2 := lmost_c hB (k + 1) (S := S) hK
  have c0 : (((left + 1 : Nat) : Int) == 0) = false := by simp; omega
  have c1 : (v == 0) = false := by simp [h0]
  have cs : ∀ b : Bool, (if decide ((sk : Int) > 0) = true then if (v == 1) = true then some ([AV.ptr c 0, .ptr p 0, .int .i64 v, .bool true], S) else some ([AV.ptr c 0, .ptr p 0, .int .i64 v, .bool (v == -1)], S) else some ([AV.ptr c 0, .ptr p 0, .int .i64 v, .bool false], S)) = some ([AV.ptr c 0, .ptr p 0, .int .i64 v, .bool false], S) := by
    intro _
    rcases h1 with h1 | ⟨h1, h2⟩
    · subst h1; simp only [zB, decide_true, decide_false, Bool.false_eq_true, if_false, if_true, List.getElem?_cons_zero, List.getElem?_cons_succ, beq_self_eq_true, bne_self_eq_false, Int.reduceBNe, Int.reduceBEq, Int.reduceLT, Int.reduceGT, Int.reduceLE, Int.reduceGE, Nat.reduceAdd, Nat.reduceMul, Nat.reduceLeDiff, Int.natCast_zero]
    · have d1 : (v == 1) = false := by simp [h1]
      have d2 : (v == -1) = false := by simp [h2]
      simp only [zB, decide_true, decide_false, Bool.false_eq_true, if_false, if_true, List.getElem?_cons_zero, List.getElem?_cons_succ, beq_self_eq_true, bne_self_eq_false, Int.reduceBNe, Int.reduceBEq, Int.reduceLT, Int.reduceGT, Int.reduceLE, Int.reduceGE, Nat.reduceAdd, Nat.reduceMul, Nat.reduceLeDiff, d1, d2, ite_self]
  have cs := cs true
  unfold lvC at hn
  have hm := (esc_le hK).1
  have hm2 : mstN K ≤ 6000 := by unfold mstN; omega
  split at hn
  · rename_i hgt
    unfold lvN at hgt
    by_cases hneg : v < 0
    · rw [if_pos hneg] at hgt
      have d1 : ¬ ((v.natAbs : Int) < 0) := by omega
      have w1 : IntKind.wrap .i64 (0 - v) = ((v.natAbs : Nat) : Int) := by rw [wr _ (by omega)]; omega
      by_cases g : (v.natAbs : Int) > (((mstN K + sk) / 2 + 1 : Nat) : Int)
      · simp only [zB, decide_true, decide_false, Bool.false_eq_true, if_false, if_true, List.getElem?_cons_zero, List.getElem?_cons_succ, beq_self_eq_true, bne_self_eq_false, Int.reduceBNe, Int.reduceBEq, Int.reduceLT, Int.reduceGT, Int.reduceLE, Int.reduceGE, Nat.reduceAdd, Nat.reduceMul, Nat.reduceLeDiff, h.blk, c0, c1, cs, hneg, w1, d1, e1, g]
      · have w2 : IntKind.wrap .i64 ((v.natAbs : Int) - 1) = ((v.natAbs - 1 : Nat) : Int) := by rw [wr _ (by omega)]; omega
        have w3 : IntKind.wrap .i64 (2 * ((v.natAbs - 1 : Nat) : Int)) = ((2 * (v.natAbs - 1) : Nat) : Int) := by rw [wr _ (by omega)]; omega
        have w4 : IntKind.wrap .i64 (((2 * (v.natAbs - 1) : Nat) : Int) - (sk : Int)) = ((2 * (v.natAbs - 1) - sk : Nat) : Int) := by rw [wr _ (by omega)]; omega
        have w5 : IntKind.wrap .i64 (((2 * (v.natAbs - 1) - sk : Nat) : Int) + 1) = ((2 * (v.natAbs - 1) - sk + 1 : Nat) : Int) := by rw [wr _ (by omega)]; omega
        have g2 : ((2 * (v.natAbs - 1) - sk + 1 : Nat) : Int) > (mstN K : Int) := by omega
        simp only [zB, decide_true, decide_false, Bool.false_eq_true, if_false, if_true, List.getElem?_cons_zero, List.getElem?_cons_succ, beq_self_eq_true, bne_self_eq_false, Int.reduceBNe, Int.reduceBEq, Int.reduceLT, Int.reduceGT, Int.reduceLE, Int.reduceGE, Nat.reduceAdd, Nat.reduceMul, Nat.reduceLeDiff, h.blk, c0, c1, cs, hneg, w1, d1, e1, g, w2, w3, w4, w5, e2, g2]
    · rw [if_neg hneg] at hgt
      have hvn : v = ((v.natAbs : Nat) : Int) := by omega
      by_cases g : v > (((mstN K + sk) / 2 + 1 : Nat) : Int)
      · simp only [zB, decide_true, decide_false, Bool.false_eq_true, if_false, if_true, List.getElem?_cons_zero, List.getElem?_cons_succ, beq_self_eq_true, bne_self_eq_false, Int.reduceBNe, Int.reduceBEq, Int.reduceLT, Int.reduceGT, Int.reduceLE, Int.reduceGE, Nat.reduceAdd, Nat.reduceMul, Nat.reduceLeDiff, h.blk, c0, c1, cs, hneg, e1, g]
      · have w2 : IntKind.wrap .i64 (v - 1) = ((v.natAbs - 1 : Nat) : Int) := by rw [wr _ (by omega)]; omega
        have w3 : IntKind.wrap .i64 (2 * ((v.natAbs - 1 : Nat) : Int)) = ((2 * (v.natAbs - 1) : Nat) : Int) := by rw [wr _ (by omega)]; omega
        have w4 : IntKind.wrap .i64 (((2 * (v.natAbs - 1) : Nat) : Int) - (sk : Int)) = ((2 * (v.natAbs - 1) - sk : Nat) : Int) := by rw [wr _ (by omega)]; omega
        have g2 : ((2 * (v.natAbs - 1) - sk : Nat) : Int) > (mstN K : Int) := by omega
        simp only [zB, decide_true, decide_false, Bool.false_eq_true, if_false, if_true, List.getElem?_cons_zero, List.getElem?_cons_succ, beq_self_eq_true, bne_self_eq_false, Int.reduceBNe, Int.reduceBEq, Int.reduceLT, Int.reduceGT, Int.reduceLE, Int.reduceGE, Nat.reduceAdd, Nat.reduceMul, Nat.reduceLeDiff, h.blk, c0, c1, cs, hneg, e1, g, w2, w3, w4, e2, g2]
  · cases hn
theorem lput_some {p q : Nat} {bs b : List Bool} (h : Cod S c K (left + 1) sk) (hw : Wr S p q bs) (hcp : c ≠ p ∧ c ≠ q) (hb : bs.length ≤ 800000000) (hK : K ≤ 6) (hl : left ≤ 1000) (hs : sk ≤ 2) (v : Int) (hv : v.natAbs ≤ 1000000) (h0 : v ≠ 0) (h1 : sk = 0 ∨ v ≠ 1 ∧ v ≠ -1) (hn : lvC K sk v = some b) :
    ∃ S' q', Cn B (k + 4) f_level_Coder_Put 0 [.ptr c 0, .ptr p 0, .int .i64 v] S = some (.int .i64 0, S') ∧ Wr S' p q' (bs ++ b) ∧ Fr S S' [p, q, c] ∧ (q' = q ∨ S.next ≤ q') ∧ Cod S' c (aftN K v.natAbs) left 0 := by
  rw [c_level_Coder_Put _ _ _ _ _ _ (hB.no _ _ _ _ (kn_no (by decide))), T_level_Coder_Put]
  have e1 := cmost_c hB k h hK hs
  have e2 := lmost_c hB (k + 1) (S := S) hK
  have c0 : (((left + 1 : Nat) : Int) == 0) = false := by simp; omega
  have c1 : (v == 0) = false := by simp [h0]
  have cs : ∀ b : Bool, (if decide ((sk : Int) > 0) = true then if (v == 1) = true then some ([AV.ptr c 0, .ptr p 0, .int .i64 v, .bool true], S) else some ([AV.ptr c 0, .ptr p 0, .int .i64 v, .bool (v == -1)], S) else some ([AV.ptr c 0, .ptr p 0, .int .i64 v, .bool false], S)) = some ([AV.ptr c 0, .ptr p 0, .int .i64 v, .bool false], S) := by
    intro _
    rcases h1 with h1 | ⟨h1, h2⟩
    · subst h1; simp only [zB, decide_true, decide_false, Bool.false_eq_true, if_false, if_true, List.getElem?_cons_zero, List.getElem?_cons_succ, beq_self_eq_true, bne_self_eq_false, Int.reduceBNe, Int.reduceBEq, Int.reduceLT, Int.reduceGT, Int.reduceLE, Int.reduceGE, Nat.reduceAdd, Nat.reduceMul, Nat.reduceLeDiff, Int.natCast_zero]
    · have d1 : (v == 1) = false := by simp [h1]
      have d2 : (v == -1) = false := by simp [h2]
      simp only [zB, decide_true, decide_false, Bool.false_eq_true, if_false, if_true, List.getElem?_cons_zero, List.getElem?_cons_succ, beq_self_eq_true, bne_self_eq_false, Int.reduceBNe, Int.reduceBEq, Int.reduceLT, Int.reduceGT, Int.reduceLE, Int.reduceGE, Nat.reduceAdd, Nat.reduceMul, Nat.reduceLeDiff, d1, d2, ite_self]
  have cs := cs true
  unfold lvC at hn
  have hm := (esc_le hK).1
  have hm2 : mstN K ≤ 6000 := by unfold mstN; omega
  split at hn
  · cases hn
  · rename_i hgt
    have hb' := (Option.some.inj hn).symm
    subst hb'
    have hle : lvN sk v ≤ mstN K := by omega
    obtain ⟨s1, s2, s3⟩ := spl_le hK hle
    have e3 := split_c hB (k + 1) (S := S) hK (lvN sk v) (by omega)
    obtain ⟨S1, q1, e4, p1⟩ := put_c hB (k + 2) hw ((splN K (lvN sk v)).1 + 1) 1 (by omega) (Nat.one_lt_two_pow (by omega)) (by omega)
    obtain ⟨S2, q2, e5, p2⟩ := put_c hB (k + 2) p1.1 (splN K (lvN sk v)).2.2 (splN K (lvN sk v)).2.1 (by omega) s3 (by simp only [List.length_append, bitsN_len]; omega)
    have pt := p1.trans p2
    have hC2 := h.fr pt.2.1 (by simp [hcp])
    obtain ⟨S3, e6, h3, f3, n3⟩ := next_c hB (k + 1) hC2 hK hl v hv
    have hq2 : c ≠ q2 := by
      rcases pt.2.2 with hh | hh
      · rw [hh]; exact hcp.2
      · have := h.lt; omega
    have w6 : IntKind.wrap .i64 (((splN K (lvN sk v)).1 : Int) + 1) = (((splN K (lvN sk v)).1 + 1 : Nat) : Int) := by rw [wr _ (by omega)]; omega
    have s4 : (splN K (lvN sk v)).2.1 < 4611686018427387904 := by
      have : 2 ^ (splN K (lvN sk v)).2.2 ≤ 2 ^ 12 := Nat.pow_le_pow_right (by omega) s2
      omega
    have w7 : IntKind.wrap .u64 ((splN K (lvN sk v)).2.1 : Int) = ((splN K (lvN sk v)).2.1 : Int) := wu _ (by omega)
    have hone : ((1 : Nat) : Int) = 1 := rfl
    rw [hone] at e4
    have hfin : Wr S3 p q2 (bs ++ lvB K (lvN sk v)) ∧ Fr S S3 [p, q, c] ∧ (q2 = q ∨ S.next ≤ q2) ∧ Cod S3 c (aftN K v.natAbs) left 0 := by
      refine ⟨?_, ?_, pt.2.2, h3⟩
      · have := pt.1.fr f3 (by simp [Ne.symm hcp.1]) (by simp [Ne.symm hq2])
        rw [List.append_assoc] at this
        exact this
      · exact (pt.2.1.weak (fun j hj => .inl (by simp at hj ⊢; rcases hj with h | h <;> simp [h]))).trans f3 (fun j hj => .inl (by simp at hj ⊢; simp [hj]))
    refine ⟨S3, q2, ?_, hfin⟩
    obtain ⟨N, hN⟩ : ∃ N, N = lvN sk v := ⟨_, rfl⟩
    rw [← hN] at hle hgt s1 s2 s3 e3 e4 e5 w6 w7
    unfold lvN at hN
    by_cases hneg : v < 0
    · rw [if_pos hneg] at hN
      have d1 : ¬ ((v.natAbs : Int) < 0) := by omega
      have w1 : IntKind.wrap .i64 (0 - v) = ((v.natAbs : Nat) : Int) := by rw [wr _ (by omega)]; omega
      have g : ¬ (v.natAbs : Int) > (((mstN K + sk) / 2 + 1 : Nat) : Int) := by omega
      have w2 : IntKind.wrap .i64 ((v.natAbs : Int) - 1) = ((v.natAbs - 1 : Nat) : Int) := by rw [wr _ (by omega)]; omega
      have w3 : IntKind.wrap .i64 (2 * ((v.natAbs - 1 : Nat) : Int)) = ((2 * (v.natAbs - 1) : Nat) : Int) := by rw [wr _ (by omega)]; omega
      have w4 : IntKind.wrap .i64 (((2 * (v.natAbs - 1) : Nat) : Int) - (sk : Int)) = ((2 * (v.natAbs - 1) - sk : Nat) : Int) := by rw [wr _ (by omega)]; omega
      have w5 : IntKind.wrap .i64 (((2 * (v.natAbs - 1) - sk : Nat) : Int) + 1) = (N : Int) := by rw [wr _ (by omega)]; omega
      have g2 : ¬ (N : Int) > (mstN K : Int) := by omega
      simp only [zB, decide_true, decide_false, Bool.false_eq_true, if_false, if_true, List.getElem?_cons_zero, List.getElem?_cons_succ, beq_self_eq_true, bne_self_eq_false, Int.reduceBNe, Int.reduceBEq, Int.reduceLT, Int.reduceGT, Int.reduceLE, Int.reduceGE, Nat.reduceAdd, Nat.reduceMul, Nat.reduceLeDiff, h.blk, c0, c1, cs, hneg, w1, d1, e1, g, w2, w3, w4, w5, e2, g2, e3, w6, e4, w7, e5, e6]
    · rw [if_neg hneg] at hN
      have hvn : v = ((v.natAbs : Nat) : Int) := by omega
      have g : ¬ v > (((mstN K + sk) / 2 + 1 : Nat) : Int) := by omega
      have w2 : IntKind.wrap .i64 (v - 1) = ((v.natAbs - 1 : Nat) : Int) := by rw [wr _ (by omega)]; omega
      have w3 : IntKind.wrap .i64 (2 * ((v.natAbs - 1 : Nat) : Int)) = ((2 * (v.natAbs - 1) : Nat) : Int) := by rw [wr _ (by omega)]; omega
      have w4 : IntKind.wrap .i64 (((2 * (v.natAbs - 1) : Nat) : Int) - (sk : Int)) = (N : Int) := by rw [wr _ (by omega)]; omega
      have g2 : ¬ (N : Int) > (mstN K : Int) := by omega
      simp only [zB, decide_true, decide_false, Bool.false_eq_true, if_false, if_true, List.getElem?_cons_zero, List.getElem?_cons_succ, beq_self_eq_true, bne_self_eq_false, Int.reduceBNe, Int.reduceBEq, Int.reduceLT, Int.reduceGT, Int.reduceLE, Int.reduceGE, Nat.reduceAdd, Nat.reduceMul, Nat.reduceLeDiff, h.blk, c0, c1, cs, hneg, e1, g, w2, w3, w4, e2, g2, e3, w6, e4, w7, e5, e6]
theorem new_c {total ones : Nat} (ht : total ≤ 16) (ho : ones ≤ 3) (hto : ones ≤ total) : ∃ S', Cn B (k + 1) f_level_New 0 [.int .i64 (total : Int), .int .i64 (ones : Int)] S = some (.tup [.ptr S.next 0, .int .i64 0], S') ∧ Cod S' S.next (k0N total ones) (total - ones) (s0N ones) ∧ Fr S S' [] := by
  rw [c_level_New _ _ _ _ _ (hB.no _ _ _ _ (kn_no (by decide))), T_level_New]
  have c1 : ¬ (total : Int) < 0 := by omega
  have c2 : ¬ (total : Int) > 16 := by omega
  have c3 : ¬ (ones : Int) < 0 := by omega
  have c4 : ¬ (ones : Int) > (if (3 : Int) < (total : Int) then (3 : Int) else (total : Int)) := by split <;> omega
  have w1 : IntKind.wrap .i64 ((total : Int) - (ones : Int)) = ((total - ones : Nat) : Int) := by rw [wr _ (by omega)]; omega
  obtain ⟨S1, hS1⟩ : ∃ S1, S1 = S.alloc [.int .i64 0, .int .i64 ((total - ones : Nat) : Int), .int .i64 0] := ⟨_, rfl⟩
  have b1 : S1.blk S.next = some [.int .i64 0, .int .i64 ((total - ones : Nat) : Int), .int .i64 0] := by rw [hS1]; exact alloc_blk _ _
  have n1 : S1.next = S.next + 1 := by rw [hS1]; rfl
  have f1 : Fr S S1 [] := by rw [hS1]; exact Fr.alloc _ _ _
  have e1 := put3_2 (x := .int .i64 2) b1
  obtain ⟨S2, hS2⟩ : ∃ S2, S2 = S1.set S.next (some [.int .i64 0, .int .i64 ((total - ones : Nat) : Int), .int .i64 2]) := ⟨_, rfl⟩
  rw [← hS2] at e1
  have b2 : S2.blk S.next = some [.int .i64 0, .int .i64 ((total - ones : Nat) : Int), .int .i64 2] := by rw [hS2, set_blk]
  have n2 : S2.next = S.next + 1 := by rw [hS2]; exact n1
  have f2 : Fr S S2 [] := by rw [hS2]; exact f1.set (.inr (Nat.le_refl _)) _
  have e2 := put3_0 (x := .int .i64 1) b2
  simp only [zB, decide_true, decide_false, Bool.false_eq_true, if_false, if_true, List.getElem?_cons_zero, List.getElem?_cons_succ, beq_self_eq_true, bne_self_eq_false, Int.reduceBNe, Int.reduceBEq, Int.reduceLT, Int.reduceGT, Int.reduceLE, Int.reduceGE, Nat.reduceAdd, Nat.reduceMul, Nat.reduceLeDiff, c1, c2, c3, c4, w1, ← hS1]
  by_cases g1 : ones < 3
  · have d1 : (ones : Int) < 3 := by omega
    have hs0 : s0N ones = 2 := by unfold s0N; rw [if_pos g1]
    by_cases g2 : total > 10
    · have d2 : (total : Int) > 10 := by omega
      have hk0 : k0N total ones = 1 := by unfold k0N; rw [if_pos ⟨g2, g1⟩]
      rw [hk0, hs0]
      exact ⟨_, by simp only [zB, decide_true, decide_false, Bool.false_eq_true, if_false, if_true, List.getElem?_cons_zero, List.getElem?_cons_succ, beq_self_eq_true, bne_self_eq_false, Int.reduceBNe, Int.reduceBEq, Int.reduceLT, Int.reduceGT, Int.reduceLE, Int.reduceGE, Nat.reduceAdd, Nat.reduceMul, Nat.reduceLeDiff, d1, d2, e1, e2]; rfl, ⟨set_blk _ _ _, by rw [set_next, n2]; omega⟩, f2.set (.inr (Nat.le_refl _)) _⟩
    · have d2 : ¬ (total : Int) > 10 := by omega
      have hk0 : k0N total ones = 0 := by unfold k0N; rw [if_neg (fun hh => g2 hh.1)]
      rw [hk0, hs0]
      exact ⟨S2, by simp only [zB, decide_true, decide_false, Bool.false_eq_true, if_false, if_true, List.getElem?_cons_zero, List.getElem?_cons_succ, beq_self_eq_true, bne_self_eq_false, Int.reduceBNe, Int.reduceBEq, Int.reduceLT, Int.reduceGT, Int.reduceLE, Int.reduceGE, Nat.reduceAdd, Nat.reduceMul, Nat.reduceLeDiff, d1, d2, e1], ⟨b2, by omega⟩, f2⟩
  · have d1 : ¬ (ones : Int) < 3 := by omega
    have hs0 : s0N ones = 0 := by unfold s0N; rw [if_neg g1]
    have hk0 : k0N total ones = 0 := by unfold k0N; rw [if_neg (fun hh => g1 hh.2)]
    rw [hk0, hs0]
    exact ⟨S1, by simp only [zB, decide_true, decide_false, Bool.false_eq_true, if_false, if_true, List.getElem?_cons_zero, List.getElem?_cons_succ, beq_self_eq_true, bne_self_eq_false, Int.reduceBNe, Int.reduceBEq, Int.reduceLT, Int.reduceGT, Int.reduceLE, Int.reduceGE, Nat.reduceAdd, Nat.reduceMul, Nat.reduceLeDiff, d1], ⟨b1, by omega⟩, f1⟩
end
theorem sel_0' {β : Type} (f : List AV → Heap → Option β) (fs : List (List AV → Heap → Option β)) (v : List AV) (S : Heap) : sel (f :: fs) 0 v S = f v S := (rfl)
theorem put1_0' {T : Heap} {p : Nat} {x a : AV} (h : T.blk p = some [a]) : putV (.ptr p 0) [x] T = some (T.set p (some [x])) := by rw [putV_p h (by simp)]; rfl
/-- What stands for a prefix: the first number, and how many bits follow. -/
def baseN (k P : Nat) : Nat := if P = 15 then escN k else if k > 0 then P * 2 ^ k else P
def sufN (k P : Nat) : Nat := if P = 15 then 12 else if k > 0 then k else if P = 14 then 4 else 0
section
variable {B : CallF} (hB : Silent B) (k : Nat) {S : Heap} {c K left sk : Nat}
include hB
theorem read1_c' {pp cap P : Nat} (h : Cod S c K left sk) (hp : S.blk pp = some [.int .i64 (P : Int)]) (hc : S.blk cap = some [.ptr c 0]) (hK : K ≤ 6) (hP : P ≤ 15) :
    Cn B (k + 2) f_level_Coder_Read_1 0 [.ptr pp 0, .ptr cap 0] S = some (.tup [.int .i64 (baseN K P : Int), .int .i64 (sufN K P : Int)], S) := by
  rw [c_level_Coder_Read_1 _ _ _ _ _ (hB.no _ _ _ _ (kn_no (by decide))), T_level_Coder_Read_1]
  have e := esc_c hB k (S := S) hK
  unfold baseN sufN
  by_cases g1 : P = 15
  · have c1 : ((P : Int) == 15) = true := by simp; omega
    rw [if_pos g1, if_pos g1]
    simp only [zB, decide_true, decide_false, Bool.false_eq_true, if_false, if_true, List.getElem?_cons_zero, List.getElem?_cons_succ, beq_self_eq_true, bne_self_eq_false, Int.reduceBNe, Int.reduceBEq, Int.reduceLT, Int.reduceGT, Int.reduceLE, Int.reduceGE, Nat.reduceAdd, Nat.reduceMul, Nat.reduceLeDiff, hp, c1, hc, h.blk, e]; rfl
  · have c1 : ((P : Int) == 15) = false := by simp; omega
    rw [if_neg g1, if_neg g1]
    by_cases g2 : K > 0
    · have c2 : (K : Int) > 0 := by omega
      have := (esc_le hK).2.2.1
      have e2 := shlN P K (by omega) (by
        have h1 : P * 2 ^ K ≤ 15 * 64 := Nat.mul_le_mul hP this
        omega)
      rw [if_pos g2, if_pos g2]
      simp only [zB, decide_true, decide_false, Bool.false_eq_true, if_false, if_true, List.getElem?_cons_zero, List.getElem?_cons_succ, beq_self_eq_true, bne_self_eq_false, Int.reduceBNe, Int.reduceBEq, Int.reduceLT, Int.reduceGT, Int.reduceLE, Int.reduceGE, Nat.reduceAdd, Nat.reduceMul, Nat.reduceLeDiff, hp, c1, hc, h.blk, c2, aShl, e2]
    · have c2 : ¬ (K : Int) > 0 := by omega
      rw [if_neg g2, if_neg g2]
      by_cases g3 : P = 14
      · have c3 : ((P : Int) == 14) = true := by simp; omega
        rw [if_pos g3]
        simp only [zB, decide_true, decide_false, Bool.false_eq_true, if_false, if_true, List.getElem?_cons_zero, List.getElem?_cons_succ, beq_self_eq_true, bne_self_eq_false, Int.reduceBNe, Int.reduceBEq, Int.reduceLT, Int.reduceGT, Int.reduceLE, Int.reduceGE, Nat.reduceAdd, Nat.reduceMul, Nat.reduceLeDiff, hp, c1, hc, h.blk, c2, c3]; rfl
      · have c3 : ((P : Int) == 14) = false := by simp; omega
        rw [if_neg g3]
        simp only [zB, decide_true, decide_false, Bool.false_eq_true, if_false, if_true, List.getElem?_cons_zero, List.getElem?_cons_succ, beq_self_eq_true, bne_self_eq_false, Int.reduceBNe, Int.reduceBEq, Int.reduceLT, Int.reduceGT, Int.reduceLE, Int.reduceGE, Nat.reduceAdd, Nat.reduceMul, Nat.reduceLeDiff, hp, c1, hc, h.blk, c2, c3]; rfl
end
theorem bitsN_zero : ∀ n, bitsN n 0 = List.replicate n false
  | 0 => rfl
  | n + 1 => by rw [bitsN, bitsN_zero n, List.replicate_succ]; simp
theorem tok_fin : ∀ t : Fin 17, ∀ o : Fin 4, o.val ≤ min t.val 3 → bef t.val + min t.val 3 - o.val < bef (t.val + 1) ∧ pairL.getD (bef t.val + min t.val 3 - o.val) (0, 0) = (t.val, o.val) ∧ bef t.val + min t.val 3 - o.val ≤ 61 ∧ o.val ≤ bef t.val + min t.val 3 := by decide
theorem bef_mono : ∀ i j : Fin 18, i.val ≤ j.val → bef i.val ≤ bef j.val := by decide
theorem m3_nat (t : Nat) : m3 (t : Int) = ((min t 3 : Nat) : Int) := by unfold m3; split <;> omega
/-- Of a pair that is in range, what its number is, and back. -/
theorem sym_ok {t o : Nat} (ht : t ≤ 16) (ho : o ≤ min t 3) : ∃ n : Nat, symR t o = ((n : Int), 0) ∧ n ≤ 61 ∧ pairR n = ((t : Int), (o : Int), 0) ∧ ∀ size : Nat, t ≤ size → size ≤ 16 → n < bef (size + 1) := by
  obtain ⟨h1, h2, h3, h4⟩ := tok_fin ⟨t, by omega⟩ ⟨o, by omega⟩ ho
  simp only at h1 h2 h3 h4
  refine ⟨bef t + min t 3 - o, ?_, h3, ?_, fun size hs1 hs2 => ?_⟩
  · unfold symR
    rw [m3_nat, if_neg (by omega)]
    simp only [Int.toNat_natCast, Prod.mk.injEq, and_true]
    omega
  · unfold pairR
    rw [if_neg (by omega)]
    simp only [Int.toNat_natCast, h2]
  · have := bef_mono ⟨t + 1, by omega⟩ ⟨size + 1, by omega⟩ (by simp; omega)
    simp only at this
    omega
theorem num_pre {s : ByteArray} {a b : Nat} : num s a (b + 1) = 2 * num s a b + sb s (a + b) := rfl
theorem zer_good {size total z : Int} (hb : size = 4 ∨ size = 15 ∨ size = 16) (hc : 1 ≤ total ∧ total ≤ size) (hz : 0 ≤ z ∧ z ≤ size - total) : (zerP size total z).1 = 0 ∧ ∀ s a, Has s a (zerP size total z).2 → zerR s a size total = (z, 0, a + (zerP size total z).2.length) := by
  have hs : sizedI size = true := (sizedI_iff _).2 hb
  obtain ⟨m, hm⟩ := Int.eq_ofNat_of_zero_le (show 0 ≤ size - total by omega)
  obtain ⟨f1, f2, f3, f4, f5, f6⟩ := cut_facts ⟨m, by omega⟩
  simp only at f1 f2 f3 f4 f5 f6
  obtain ⟨y, rfl⟩ := Int.eq_ofNat_of_zero_le hz.1
  have hym : y ≤ m := by omega
  have hb1 : 2 ^ (cutB m + 1) = 2 * 2 ^ cutB m := by rw [Nat.pow_succ]; omega
  unfold zerP
  rw [if_neg (by simp only [not_or]; exact ⟨by simp [hs], by omega, by omega, by omega, by omega⟩), hm]
  simp only [Int.toNat_natCast]
  by_cases hd : y < cutD m
  · rw [if_pos hd]
    refine ⟨rfl, fun s a hh => ?_⟩
    have hl := hh.le
    have hn := hh.val
    simp only [bitsN_len] at hl ⊢
    rw [Nat.mod_eq_of_lt (by omega)] at hn
    unfold zerR
    rw [if_neg (by simp only [not_or]; exact ⟨by simp [hs], by omega, by omega⟩), hm]
    simp only [Int.toNat_natCast]
    rw [if_neg (by omega), hn, if_pos hd]
  · rw [if_neg hd]
    refine ⟨rfl, fun s a hh => ?_⟩
    have hl := hh.le
    have hn := hh.val
    simp only [bitsN_len] at hl ⊢
    rw [Nat.mod_eq_of_lt (by omega)] at hn
    have hp := num_pre (s := s) (a := a) (b := cutB m)
    have h2 := sb_lt s (a + cutB m)
    unfold zerR
    rw [if_neg (by simp only [not_or]; exact ⟨by simp [hs], by omega, by omega⟩), hm]
    simp only [Int.toNat_natCast]
    rw [if_neg (by omega), if_neg (by omega), if_neg (by omega), hn]
    simp only [Prod.mk.injEq, true_and]
    exact ⟨by omega, by omega⟩
theorem bitsN_one (r : Nat) : bitsN (r + 1) 1 = List.replicate r false ++ [true] := by
  rw [bitsN_add r 1 1, show (1 : Nat) / 2 ^ 1 = 0 from rfl, bitsN_zero]; rfl
theorem zer_back {size total : Int} (hb : size = 4 ∨ size = 15 ∨ size = 16) (hc : 1 ≤ total ∧ total ≤ size) {s : ByteArray} {a : Nat} (ha : a ≤ 8 * s.size) :
    ((zerR s a size total).2.1 = 5 ∧ (zerR s a size total).2.2 = a ∧ 8 * s.size < a + 15) ∨
    ((zerR s a size total).2.1 = 0 ∧ (0 ≤ (zerR s a size total).1 ∧ (zerR s a size total).1 ≤ size - total) ∧ Has s a (zerP size total (zerR s a size total).1).2 ∧ (zerR s a size total).2.2 = a + (zerP size total (zerR s a size total).1).2.length) := by
  have hs : sizedI size = true := (sizedI_iff _).2 hb
  obtain ⟨m, hm⟩ := Int.eq_ofNat_of_zero_le (show 0 ≤ size - total by omega)
  obtain ⟨f1, f2, f3, f4, f5, f6⟩ := cut_facts ⟨m, by omega⟩
  simp only at f1 f2 f3 f4 f5 f6
  have hb1 : 2 ^ (cutB m + 1) = 2 * 2 ^ cutB m := by rw [Nat.pow_succ]; omega
  have hdd : cutD m + (m + 1) = 2 ^ (cutB m + 1) := by unfold cutD; omega
  unfold zerR
  rw [if_neg (by simp only [not_or]; exact ⟨by simp [hs], by omega, by omega⟩), hm]
  simp only [Int.toNat_natCast]
  by_cases h1 : 8 * s.size < a + cutB m
  · rw [if_pos h1]; exact .inl ⟨rfl, rfl, by omega⟩
  rw [if_neg h1]
  have hn := num_lt s a (cutB m)
  by_cases h2 : num s a (cutB m) < cutD m
  · rw [if_pos h2]
    have hym : num s a (cutB m) ≤ m := by omega
    refine .inr ⟨rfl, ⟨by simp, by simp; omega⟩, ?_⟩
    unfold zerP
    rw [if_neg (by simp only [not_or]; exact ⟨by simp [hs], by omega, by omega, by simp, by simp; omega⟩), hm]
    simp only [Int.toNat_natCast]
    rw [if_pos h2]
    exact ⟨bitsN_of (by omega), by simp [bitsN_len]⟩
  · rw [if_neg h2]
    by_cases h3 : 8 * s.size < a + cutB m + 1
    · rw [if_pos h3]; exact .inl ⟨rfl, rfl, by omega⟩
    rw [if_neg h3]
    have hn2 := num_lt s a (cutB m + 1)
    have hp := num_pre (s := s) (a := a) (b := cutB m)
    obtain ⟨y, hy⟩ : ∃ y, num s a (cutB m + 1) = y + cutD m := ⟨num s a (cutB m + 1) - cutD m, by omega⟩
    have hyI : ((num s a (cutB m + 1) : Nat) : Int) - ((cutD m : Nat) : Int) = (y : Int) := by omega
    have hym : y ≤ m := by omega
    have hyd : ¬ y < cutD m := by omega
    refine .inr ⟨rfl, ?_, ?_⟩
    · rw [hyI]; exact ⟨by simp, by simp; omega⟩
    · rw [hyI]
      unfold zerP
      rw [if_neg (by simp only [not_or]; exact ⟨by simp [hs], by omega, by omega, by simp, by simp; omega⟩), hm]
      simp only [Int.toNat_natCast]
      rw [if_neg hyd, ← hy]
      exact ⟨bitsN_of (by omega), by simp only [bitsN_len]; omega⟩
theorem runN_back {s : ByteArray} : ∀ {l a n : Nat}, runN s l a = some n → (n = l ∧ Has s a (List.replicate l false) ∨ n < l ∧ Has s a (List.replicate n false ++ [true])) ∨ (l = 0 ∧ n = 0)
  | 0, a, n, h => by cases h; exact .inr ⟨rfl, rfl⟩
  | l + 1, a, n, h => by
    rw [runN_succ] at h
    split at h
    · cases h
    · rename_i h1
      split at h
      · rename_i h2
        cases h
        refine .inl (.inr ⟨by omega, ?_⟩)
        simp only [List.replicate_zero, List.nil_append, Has.cons, if_true]
        exact ⟨h2, by omega, Has.nil (by omega)⟩
      · rename_i h2
        have h0 : sb s a = 0 := by have := sb_lt s a; omega
        cases hr : runN s l (a + 1) with
        | none => rw [hr] at h; cases h
        | some m =>
          rw [hr] at h
          simp only [Option.map, Option.some.injEq] at h
          subst h
          rcases runN_back hr with (⟨rfl, hh⟩ | ⟨hlt, hh⟩) | ⟨rfl, rfl⟩
          · refine .inl (.inl ⟨rfl, ?_⟩)
            rw [List.replicate_succ, Has.cons]
            exact ⟨by simpa using h0, by omega, hh⟩
          · refine .inl (.inr ⟨by omega, ?_⟩)
            rw [List.replicate_succ, List.cons_append, Has.cons]
            exact ⟨by simpa using h0, by omega, hh⟩
          · refine .inl (.inl ⟨rfl, ?_⟩)
            rw [List.replicate_succ, Has.cons]
            exact ⟨by simpa using h0, by omega, Has.nil (by omega)⟩
theorem runN_none {s : ByteArray} : ∀ {l a : Nat}, a ≤ 8 * s.size → runN s l a = none → 8 * s.size < a + l
  | 0, a, _, h => by cases h
  | l + 1, a, ha, h => by
    rw [runN_succ] at h
    split at h
    · omega
    · split at h
      · cases h
      · have : runN s l (a + 1) = none := by
          cases hr : runN s l (a + 1) with
          | none => rfl
          | some m => rw [hr] at h; cases h
        have := runN_none (by omega) this
        omega
theorem run_back {left : Int} (hl : 0 ≤ left ∧ left ≤ 15) {s : ByteArray} {a : Nat} (ha : a ≤ 8 * s.size) :
    ((runR s a left).2.1 = 5 ∧ (runR s a left).2.2 = a ∧ 8 * s.size < a + 15) ∨
    ((runR s a left).2.1 = 0 ∧ (0 ≤ (runR s a left).1 ∧ (runR s a left).1 ≤ left) ∧ Has s a (runP left (runR s a left).1).2 ∧ (runR s a left).2.2 = a + (runP left (runR s a left).1).2.length) := by
  obtain ⟨l, rfl⟩ := Int.eq_ofNat_of_zero_le hl.1
  unfold runR
  rw [if_neg (by simp only [not_or]; exact ⟨by omega, by omega⟩)]
  simp only [Int.toNat_natCast]
  cases hr : runN s l a with
  | none => exact .inl ⟨rfl, rfl, by have := runN_none ha hr; omega⟩
  | some n =>
    obtain ⟨n1, n2⟩ := runN_ok ha hr
    refine .inr ⟨rfl, ⟨by simp, by simp; omega⟩, ?_⟩
    unfold runP
    rw [if_neg (by simp only [not_or]; exact ⟨by omega, by omega, by simp, by simp; omega⟩)]
    simp only [Int.toNat_natCast]
    rcases runN_back hr with (⟨rfl, hh⟩ | ⟨hlt, hh⟩) | ⟨rfl, rfl⟩
    · rw [if_pos rfl, bitsN_zero]
      exact ⟨hh, by simp⟩
    · rw [if_neg (by omega), bitsN_one]
      exact ⟨hh, by simp; omega⟩
    · rw [if_pos rfl]
      exact ⟨Has.nil ha, by simp [bitsN]⟩
theorem rem64 (x y : Int) (h : y ≠ 0) : aInt .rem .i64 x y = some (.int .i64 (x.tmod y)) := by simp [aInt, h]
def lvsP : Nat → Nat → List Int → Option (List Bool)
  | _, _, [] => some []
  | k, s, v :: vs => match lvC k s v with
    | none => none
    | some b => (lvsP (aftN k v.natAbs) 0 vs).map (b ++ ·)
def runsP : Nat → List Nat → List Bool
  | _, [] => []
  | left, n :: ns => (runP left n).2 ++ runsP (left - n) ns
def onesB (L : List Int) : List Bool := L.map fun v => v == -1
def blkC (cls : Int) (l : List Int) : Option (List Bool) :=
  if (rst l).1 = [] then some (tokP cls l.length ((rst l).1.length : Nat) (onesN (rst l).1 : Nat)).2 else
    (lvsP (k0N (rst l).1.length (onesN (rst l).1)) (s0N (onesN (rst l).1)) ((rst l).1.drop (onesN (rst l).1))).map fun b =>
      (tokP cls l.length ((rst l).1.length : Nat) (onesN (rst l).1 : Nat)).2 ++ onesB ((rst l).1.take (onesN (rst l).1)) ++ b ++ (zerP l.length ((rst l).1.length : Nat) (rZ l : Nat)).2 ++ runsP (rZ l) (rst l).2.1
def putR (cls : Int) (l : List Int) : Int × List Bool :=
  if cls < 0 ∨ cls > 4 ∨ sizedI l.length = false ∨ rngd l = false then (3, []) else match blkC cls l with
    | none => (12, [])
    | some K => (0, K)
theorem rst_mem : ∀ (l : List Int) (v : Int), v ∈ (rst l).1 → v ≠ 0 ∧ v ∈ l
  | [], v, h => by simp [rst] at h
  | x :: l, v, h => by
    have ih := rst_mem l v
    by_cases h0 : x = 0
    · simp only [rst, if_pos h0] at h
      exact ⟨(ih h).1, List.mem_cons_of_mem _ (ih h).2⟩
    · by_cases h1 : (rst l).1 = []
      · simp only [rst, if_neg h0, if_pos h1, List.mem_singleton] at h
        subst h; exact ⟨h0, List.mem_cons_self⟩
      · simp only [rst, if_neg h0, if_neg h1, List.mem_append, List.mem_singleton] at h
        rcases h with h | rfl
        · exact ⟨(ih h).1, List.mem_cons_of_mem _ (ih h).2⟩
        · exact ⟨h0, List.mem_cons_self⟩
theorem onesG_at : ∀ (n : Nat) (L : List Int) (i : Nat) (h : i < L.length), i < onesG n L → L[i] = 1 ∨ L[i] = -1
  | 0, L, i, h, hi => by simp [onesG] at hi
  | n + 1, [], i, h, hi => by simp at h
  | n + 1, v :: L, i, h, hi => by
    simp only [onesG] at hi
    split at hi
    · rename_i hv
      cases i with
      | zero => exact hv
      | succ i => exact onesG_at n L i (by simpa using h) (by omega)
    · omega
theorem onesG_stop : ∀ (n : Nat) (L : List Int) (h : onesG n L < L.length), onesG n L < n → ¬ (L[onesG n L] = 1 ∨ L[onesG n L] = -1)
  | 0, L, h, hi => by omega
  | n + 1, [], h, hi => by simp at h
  | n + 1, v :: L, h, hi => by
    by_cases hv : v = 1 ∨ v = -1
    · have e : onesG (n + 1) (v :: L) = onesG n L + 1 := by simp only [onesG, if_pos hv]
      simp only [e] at h hi ⊢
      exact onesG_stop n L (by simpa using h) (by omega)
    · have e : onesG (n + 1) (v :: L) = 0 := by simp only [onesG, if_neg hv]
      simp only [e]; exact hv
structure Blk (l : List Int) : Prop where
  sz : sizedI (l.length : Int) = true
  rg : rngd l = true
theorem Blk.len {l : List Int} (h : Blk l) : l.length ≤ 16 ∧ 4 ≤ l.length := sized_le h.sz
theorem Blk.tot {l : List Int} (h : Blk l) : (rst l).1.length ≤ l.length ∧ (rst l).1.length ≤ 16 ∧ onesN (rst l).1 ≤ 3 ∧ onesN (rst l).1 ≤ (rst l).1.length := by
  have := (rst_sum l).1
  have h2 := onesG_le 3 (rst l).1
  have := h.len
  unfold onesN
  omega
theorem Blk.zr {l : List Int} (h : Blk l) : rZ l + (rst l).1.length ≤ l.length ∧ ((rst l).1 ≠ [] → (rst l).2.1.sum ≤ rZ l) := by
  have := (rst_sum l).1
  unfold rZ
  split
  · exact ⟨by omega, fun hh => by contradiction⟩
  · exact ⟨by omega, fun _ => by omega⟩
theorem Blk.mem {l : List Int} (h : Blk l) {v : Int} (hv : v ∈ (rst l).1) : v ≠ 0 ∧ -32768 ≤ v ∧ v ≤ 32768 := by
  obtain ⟨h1, h2⟩ := rst_mem l v hv
  have := List.all_eq_true.1 h.rg v h2
  refine ⟨h1, by simpa using this⟩
theorem Blk.tok {l : List Int} (h : Blk l) {cls : Int} (hc : 0 ≤ cls ∧ cls ≤ 4) : (tokP cls l.length ((rst l).1.length : Nat) (onesN (rst l).1 : Nat)).1 = 0 := by
  obtain ⟨h1, h2, h3, h4⟩ := h.tot
  obtain ⟨n, hn, _⟩ := sym_ok h2 (show onesN (rst l).1 ≤ min (rst l).1.length 3 by omega)
  unfold tokP
  rw [if_neg (by rw [h.sz]; simp; omega), hn, if_neg (by simp)]
theorem Blk.zer {l : List Int} (h : Blk l) (h0 : (rst l).1 ≠ []) : (zerP l.length ((rst l).1.length : Nat) (rZ l : Nat)).1 = 0 := by
  have h1 := h.tot
  have h2 := h.zr
  have h3 := List.length_pos_iff.2 h0
  unfold zerP
  rw [if_neg (by rw [h.sz]; simp; omega)]
  split <;> rfl
theorem lvsP_nil (k s : Nat) : lvsP k s [] = some [] := rfl
theorem runsP_zero : ∀ (B : List Nat), B.sum = 0 → runsP 0 B = []
  | [], _ => rfl
  | n :: B, h => by
    have h1 : n = 0 := by simp only [List.sum_cons] at h; omega
    have h2 : B.sum = 0 := by simp only [List.sum_cons] at h; omega
    subst h1
    simp only [runsP, runsP_zero B h2]; rfl
theorem slice_hi {L : List Int} (h : L ≠ []) {n : Nat} (hn : n ≤ L.length) : aSlice Try.prog 71 (isl L) none (some (.int .i64 (n : Int))) = some (.is (L.take n).length (ints (L.take n))) := by
  have hu : Try.prog.underlying 71 = some (.slice 3) := by kernel_rfl
  have hs : tsize Try.prog 3 = some 1 := by kernel_rfl
  unfold isl
  rw [if_neg h]
  have hl : (L.take n).length = n := by rw [List.length_take]; omega
  simp [aSlice, hu, hs, aNat, hn, ints_len, hl, ints, List.map_take]
theorem slice_lo {L : List Int} (h : L ≠ []) {n : Nat} (hn : n ≤ L.length) : aSlice Try.prog 71 (isl L) (some (.int .i64 (n : Int))) none = some (.is (L.drop n).length (ints (L.drop n))) := by
  have hu : Try.prog.underlying 71 = some (.slice 3) := by kernel_rfl
  have hs : tsize Try.prog 3 = some 1 := by kernel_rfl
  unfold isl
  rw [if_neg h]
  have ht : List.take (L.length - n) (List.drop n (ints L)) = ints (L.drop n) := by
    rw [List.take_of_length_le (by rw [List.length_drop, ints_len]; exact Nat.le_refl _)]; simp [ints, List.map_drop]
  simp [aSlice, hu, hs, aNat, hn, ints_len, ht]
theorem is_il (S : Heap) (L : List Int) (d : Nat) : IL S (.is L.length (ints L)) L d := .inr (.inl rfl)
theorem oneBit (v : Int) (h : v = 1 ∨ v = -1) : IntKind.wrap .u64 (Int.tdiv (IntKind.wrap .u64 (IntKind.wrap .i64 (1 - v))) 2) = ((if (v == -1) = true then 1 else 0 : Nat) : Int) := by
  rcases h with rfl | rfl <;> decide
def WOut (S : Heap) (p q : Nat) (bs : List Bool) (res : Option (List Bool)) (o : Option (AV × Heap)) : Prop :=
  ∃ S' q' r bs', o = some (AV.int .i64 r, S') ∧ Puts S S' p q q' bs bs' ∧ (∀ K, res = some K → r = 0 ∧ bs' = bs ++ K) ∧ (res = none → r = 12)
theorem Puts.of {S T : Heap} {p q q' : Nat} {bs bs' : List Bool} (h1 : Wr T p q' bs') (h2 : Fr S T [p, q]) (h3 : q' = q ∨ S.next ≤ q') : Puts S T p q q' bs bs' := ⟨h1, h2, h3⟩
theorem lvC_len {k s : Nat} {v : Int} {b : List Bool} (hk : k ≤ 6) (h : lvC k s v = some b) : b.length ≤ 28 := by
  unfold lvC at h
  split at h
  · cases h
  · rw [← Option.some.inj h]; exact lvB_len hk (by omega)
theorem k0_le (t o : Nat) : k0N t o ≤ 6 := by unfold k0N; split <;> omega
theorem s0_le (o : Nat) : s0N o ≤ 2 := by unfold s0N; split <;> omega
theorem onesB_take (L : List Int) {i : Nat} (hi : i < L.length) : onesB (L.take (i + 1)) = onesB (L.take i) ++ [L[i] == -1] := by
  rw [List.take_add_one, List.getElem?_eq_getElem hi, Option.toList_some]; unfold onesB; rw [List.map_append]; rfl
theorem bitsN_bool (b : Bool) : bitsN 1 (if b = true then 1 else 0) = [b] := by cases b <;> rfl
theorem Blk.mk' {l : List Int} (h1 : ¬ sizedI (l.length : Int) = false) (h2 : ¬ rngd l = false) : Blk l := ⟨by simpa using h1, by simpa using h2⟩
theorem sel_0 {β : Type} (f : List AV → Heap → Option β) (fs : List (List AV → Heap → Option β)) (v : List AV) (S : Heap) : sel (f :: fs) 0 v S = f v S := (rfl)
theorem sel_1 {β : Type} (f g : List AV → Heap → Option β) (fs : List (List AV → Heap → Option β)) (v : List AV) (S : Heap) : sel (f :: g :: fs) 1 v S = g v S := (rfl)
section
variable {B : CallF} (hB : Silent B) (k : Nat) {S : Heap} {p q : Nat} {bs : List Bool}
include hB
theorem vwrite_c (hw : Wr S p q bs) (hb : bs.length ≤ 1000000) {cls : Int} (hc : 0 ≤ cls ∧ cls ≤ 4) {l : List Int} (hl : Blk l) :
    WOut S p q bs (blkC cls l) (Cn B (k + 6) f_vblock_write 0 [.ptr p 0, .int .i64 cls, .int .i64 (l.length : Int), ofA l] S) := by
  rw [c_vblock_write _ _ _ _ _ _ _ (hB.no _ _ _ _ (kn_no (by decide))), T_vblock_write]
  have htok := hl.tok hc
  have hzer := hl.zer
  have htot := hl.tot
  have hzr := hl.zr
  have hmem := fun v hv => hl.mem (v := v) hv
  have hll := hl.len
  have hsum := (rst_sum l).2
  have htl := tokP_len cls (l.length : Int) ((rst l).1.length : Nat) (onesN (rst l).1 : Nat)
  have hzl := zerP_len (l.length : Int) ((rst l).1.length : Nat) (rZ l : Nat)
  unfold ofA blkC
  obtain ⟨L, hL⟩ : ∃ L, L = (rst l).1 := ⟨_, rfl⟩
  obtain ⟨M, hM⟩ : ∃ M, M = (rst l).2.1 := ⟨_, rfl⟩
  obtain ⟨Z, hZ⟩ : ∃ Z, Z = rZ l := ⟨_, rfl⟩
  rw [← hL] at htok hzer htot hzr hmem htl hzl hsum ⊢
  rw [← hM] at hzr hsum ⊢
  rw [← hZ] at hzer hzr hzl ⊢
  have e1 := ones_c hB (k + 4) (isl_il S L 0) (by omega) (.int .i64 (Z : Int)) (isl (natI M))
  obtain ⟨S1, q1, e2, p1⟩ := puttoken_c hB k hw (by omega) cls l.length (L.length : Nat) (onesN L : Nat)
  rw [htok] at e2
  have hlen := (isl_il S L 0).len
  simp only [zB, decide_true, decide_false, Bool.false_eq_true, if_false, if_true, List.getElem?_cons_zero, List.getElem?_cons_succ, beq_self_eq_true, bne_self_eq_false, Int.reduceBNe, Int.reduceBEq, Int.reduceLT, Int.reduceGT, Int.reduceLE, Int.reduceGE, Nat.reduceAdd, Nat.reduceMul, Nat.reduceLeDiff, List.length_cons, List.length_nil, hlen, take3, e1, e2]
  by_cases h0 : L = []
  · have c1 : ((L.length : Int) == 0) = true := by rw [h0]; rfl
    rw [if_pos h0]
    refine ⟨S1, q1, 0, _, by simp only [zB, decide_true, decide_false, Bool.false_eq_true, if_false, if_true, List.getElem?_cons_zero, List.getElem?_cons_succ, beq_self_eq_true, bne_self_eq_false, Int.reduceBNe, Int.reduceBEq, Int.reduceLT, Int.reduceGT, Int.reduceLE, Int.reduceGE, Nat.reduceAdd, Nat.reduceMul, Nat.reduceLeDiff, c1], p1, fun K hK => ⟨rfl, ?_⟩, fun h => by cases h⟩
    rw [← Option.some.inj hK]
  rw [if_neg h0]
  have hLp := List.length_pos_iff.2 h0
  have c1 : ((L.length : Int) == 0) = false := by simp; exact h0
  have e3 := slice_hi h0 htot.2.2.2
  have hl3 := (is_il S (L.take (onesN L)) 0).len
  simp only [zB, decide_true, decide_false, Bool.false_eq_true, if_false, if_true, List.getElem?_cons_zero, List.getElem?_cons_succ, beq_self_eq_true, bne_self_eq_false, Int.reduceBNe, Int.reduceBEq, Int.reduceLT, Int.reduceGT, Int.reduceLE, Int.reduceGE, Nat.reduceAdd, Nat.reduceMul, Nat.reduceLeDiff, c1, e3, hl3]
  obtain ⟨tok, htk⟩ : ∃ tok, tok = (tokP cls l.length (L.length : Nat) (onesN L : Nat)).2 := ⟨_, rfl⟩
  rw [← htk] at p1 htl ⊢
  have ho : (L.take (onesN L)).length = onesN L := by rw [List.length_take]; omega
  rw [ho]
  -- the ones
  refine loop_meas (WOut S p q bs _) (fun m st => ∃ (i : Nat) (T : Heap) (q' : Nat), i + m = onesN L ∧ st = ([.ptr p 0, .int .i64 (l.length : Int), .agg [isl L, .int .i64 (Z : Int), isl (natI M)], .int .i64 (L.length : Int), .int .i64 (onesN L : Int), .is (onesN L) (ints (L.take (onesN L))), .int .i64 (onesN L : Int), .int .i64 (i : Int)], T) ∧
      Puts S T p q q' bs (bs ++ tok ++ onesB (L.take i))) (onesN L) ⟨0, S1, q1, by omega, rfl, by rw [List.take_zero]; simpa [onesB] using p1⟩ ?_
  rintro m st ⟨i, T, q2, him, rfl, hP⟩
  have hobl : (onesB (L.take i)).length ≤ 3 := by simp only [onesB, List.length_map, List.length_take]; omega
  cases m with
  | succ m =>
    have hi : i < onesN L := by omega
    have hi2 : i < L.length := by omega
    have c2 : (i : Int) < (onesN L : Int) := by omega
    have hit : i < (L.take (onesN L)).length := by omega
    obtain ⟨t, cs, o, x1, x2, x3⟩ := (is_il T (L.take (onesN L)) 0).at hit
    rw [ho] at x1
    have hv := onesG_at 3 L i hi2 hi
    have hgt : (L.take (onesN L))[i] = L[i] := List.getElem_take
    rw [hgt] at x3
    have w1 := oneBit _ hv
    obtain ⟨T2, q3, e4, p4⟩ := put_c hB (k + 4) hP.1 1 (if (L[i] == -1) = true then 1 else 0) (by omega) (by split <;> omega) (by simp only [List.length_append]; omega)
    rw [bitsN_bool] at p4
    have w2 : IntKind.wrap .i64 ((i : Int) + 1) = ((i + 1 : Nat) : Int) := by rw [wr _ (by omega)]; omega
    rw [show ((1 : Nat) : Int) = 1 from rfl] at e4
    refine .inr ⟨m, ([.ptr p 0, .int .i64 (l.length : Int), .agg [isl L, .int .i64 (Z : Int), isl (natI M)], .int .i64 (L.length : Int), .int .i64 (onesN L : Int), .is (onesN L) (ints (L.take (onesN L))), .int .i64 (onesN L : Int), .int .i64 ((i + 1 : Nat) : Int)], T2), by omega, by simp only [zB, decide_true, decide_false, Bool.false_eq_true, if_false, if_true, List.getElem?_cons_zero, List.getElem?_cons_succ, beq_self_eq_true, bne_self_eq_false, Int.reduceBNe, Int.reduceBEq, Int.reduceLT, Int.reduceGT, Int.reduceLE, Int.reduceGE, Nat.reduceAdd, Nat.reduceMul, Nat.reduceLeDiff, c2, x1, x2, x3, w1, e4, w2], i + 1, T2, q3, by omega, rfl, ?_⟩
    rw [onesB_take L hi2, ← List.append_assoc]
    exact hP.trans p4
  | zero =>
    have hi : i = onesN L := by omega
    subst hi
    have c2 : ¬ ((onesN L : Int) < (onesN L : Int)) := by omega
    refine .inl ⟨(0, [.ptr p 0, .int .i64 (l.length : Int), .agg [isl L, .int .i64 (Z : Int), isl (natI M)], .int .i64 (L.length : Int), .int .i64 (onesN L : Int)], T), by simp only [zB, decide_true, decide_false, Bool.false_eq_true, if_false, if_true, List.getElem?_cons_zero, List.getElem?_cons_succ, beq_self_eq_true, bne_self_eq_false, Int.reduceBNe, Int.reduceBEq, Int.reduceLT, Int.reduceGT, Int.reduceLE, Int.reduceGE, Nat.reduceAdd, Nat.reduceMul, Nat.reduceLeDiff, c2], ?_⟩
    -- the levels
    obtain ⟨T1, e5, hC, f1⟩ := new_c hB (k + 4) (S := T) htot.2.1 htot.2.2.1 htot.2.2.2
    have e6 := slice_lo h0 htot.2.2.2
    have hl6 := (is_il S (L.drop (onesN L)) 0).len
    have hd : (L.drop (onesN L)).length = L.length - onesN L := List.length_drop
    obtain ⟨cp, hcp⟩ : ∃ cp, cp = T.next := ⟨_, rfl⟩
    rw [← hcp] at e5 hC
    simp only [zB, decide_true, decide_false, Bool.false_eq_true, if_false, if_true, List.getElem?_cons_zero, List.getElem?_cons_succ, beq_self_eq_true, bne_self_eq_false, Int.reduceBNe, Int.reduceBEq, Int.reduceLT, Int.reduceGT, Int.reduceLE, Int.reduceGE, Nat.reduceAdd, Nat.reduceMul, Nat.reduceLeDiff, sel_0, sel_1, e5, e6, hl6]
    have hlt := hP.1.lt
    have hP1 : Puts S T1 p q q2 bs (bs ++ tok ++ onesB (L.take (onesN L))) := ⟨hP.1.fr f1 (by simp) (by simp), hP.2.1.trans f1 (fun j hj => by simp at hj), hP.2.2⟩
    rw [hd]
    have hrdp : ∀ i, i < (L.drop (onesN L)).length → (L.drop (onesN L))[i]? = L[onesN L + i]? := fun i _ => List.getElem?_drop
    refine loop_meas (WOut S p q bs _) (fun m st => ∃ (i : Nat) (U : Heap) (q' kk ss : Nat) (done : List Bool), i + m = L.length - onesN L ∧ st = ([.ptr p 0, .int .i64 (l.length : Int), .agg [isl L, .int .i64 (Z : Int), isl (natI M)], .int .i64 (L.length : Int), .ptr cp 0, .is (L.length - onesN L) (ints (L.drop (onesN L))), .int .i64 ((L.length - onesN L : Nat) : Int), .int .i64 (i : Int)], U) ∧
        Puts S U p q q' bs (bs ++ tok ++ onesB (L.take (onesN L)) ++ done) ∧ Cod U cp kk m ss ∧ kk ≤ 6 ∧ ss ≤ 2 ∧ (ss = 0 ∨ i = 0 ∧ ss = s0N (onesN L)) ∧ cp ≠ q' ∧ done.length ≤ 28 * i ∧
        lvsP (k0N L.length (onesN L)) (s0N (onesN L)) (L.drop (onesN L)) = (lvsP kk ss ((L.drop (onesN L)).drop i)).map (done ++ ·)) (L.length - onesN L)
      ⟨0, T1, q2, k0N L.length (onesN L), s0N (onesN L), [], by omega, rfl, by rw [List.append_nil]; exact hP1, hC, k0_le _ _, s0_le _, .inr ⟨rfl, rfl⟩, by omega, by simp, by rw [List.drop_zero]; cases lvsP (k0N L.length (onesN L)) (s0N (onesN L)) (L.drop (onesN L)) <;> simp⟩ ?_
    rintro m st ⟨i, U, q3, kk, ss, done, him, rfl, hQ, hCU, hkk, hss, hs0, hcq, hdl, hlv⟩
    cases m with
    | succ m =>
      have hi : i < (L.drop (onesN L)).length := by omega
      have c3 : (i : Int) < ((L.length - onesN L : Nat) : Int) := by omega
      obtain ⟨t, cs, o, x1, x2, x3⟩ := (is_il U (L.drop (onesN L)) 0).at hi
      rw [hd] at x1
      obtain ⟨v, hv⟩ : ∃ v, v = (L.drop (onesN L))[i] := ⟨_, rfl⟩
      have hvm : v ∈ L := by rw [hv]; exact List.mem_of_mem_drop (List.getElem_mem hi)
      obtain ⟨hv0, hv1, hv2⟩ := hmem v hvm
      rw [← hv] at x3
      have hnot : ss = 0 ∨ v ≠ 1 ∧ v ≠ -1 := by
        rcases hs0 with hs0 | ⟨rfl, hs0⟩
        · exact .inl hs0
        · by_cases h3 : onesN L < 3
          · have h4 : onesN L < L.length := by omega
            have := onesG_stop 3 L h4 h3
            have e : v = L[onesG 3 L]'h4 := by rw [hv]; simp only [List.getElem_drop, Nat.add_zero]; rfl
            rw [e]; simp only [not_or] at this; exact .inr this
          · left; rw [hs0]; unfold s0N; rw [if_neg h3]
      rw [List.drop_eq_getElem_cons hi, ← hv] at hlv
      have hltU := hQ.1.lt
      have hcpp : cp ≠ p := by omega
      cases hb' : lvC kk ss v with
      | none =>
        have e7 := lput_none hB (k + 1) (p := p) hCU hkk hss v (by omega) hv0 hnot hb'
        refine .inl ⟨(1, [.int .i64 12], U), by simp only [zB, decide_true, decide_false, Bool.false_eq_true, if_false, if_true, List.getElem?_cons_zero, List.getElem?_cons_succ, beq_self_eq_true, bne_self_eq_false, Int.reduceBNe, Int.reduceBEq, Int.reduceLT, Int.reduceGT, Int.reduceLE, Int.reduceGE, Nat.reduceAdd, Nat.reduceMul, Nat.reduceLeDiff, c3, x1, x2, x3, e7], ?_⟩
        have : lvsP (k0N L.length (onesN L)) (s0N (onesN L)) (L.drop (onesN L)) = none := by rw [hlv]; simp only [lvsP, hb']; rfl
        rw [this]
        exact ⟨U, q3, 12, _, by simp only [zB, decide_true, decide_false, Bool.false_eq_true, if_false, if_true, List.getElem?_cons_zero, List.getElem?_cons_succ, beq_self_eq_true, bne_self_eq_false, Int.reduceBNe, Int.reduceBEq, Int.reduceLT, Int.reduceGT, Int.reduceLE, Int.reduceGE, Nat.reduceAdd, Nat.reduceMul, Nat.reduceLeDiff, sel_0, sel_1], hQ, fun K hK => (by cases hK), fun _ => rfl⟩
      | some b =>
        obtain ⟨U2, q4, e7, g1, g2, g3, g4⟩ := lput_some hB (k + 1) hCU hQ.1 ⟨hcpp, hcq⟩ (by simp only [List.length_append]; omega) hkk (by omega) hss v (by omega) hv0 hnot hb'
        have hbl := lvC_len hkk hb'
        have w3 : IntKind.wrap .i64 ((i : Int) + 1) = ((i + 1 : Nat) : Int) := by rw [wr _ (by omega)]; omega
        refine .inr ⟨m, ([.ptr p 0, .int .i64 (l.length : Int), .agg [isl L, .int .i64 (Z : Int), isl (natI M)], .int .i64 (L.length : Int), .ptr cp 0, .is (L.length - onesN L) (ints (L.drop (onesN L))), .int .i64 ((L.length - onesN L : Nat) : Int), .int .i64 ((i + 1 : Nat) : Int)], U2), by omega, by simp only [zB, decide_true, decide_false, Bool.false_eq_true, if_false, if_true, List.getElem?_cons_zero, List.getElem?_cons_succ, beq_self_eq_true, bne_self_eq_false, Int.reduceBNe, Int.reduceBEq, Int.reduceLT, Int.reduceGT, Int.reduceLE, Int.reduceGE, Nat.reduceAdd, Nat.reduceMul, Nat.reduceLeDiff, c3, x1, x2, x3, e7, w3], i + 1, U2, q4, aftN kk v.natAbs, 0, done ++ b, by omega, rfl, ?_, g4, (aft_le hkk _).1, by omega, .inl rfl, ?_, by rw [List.length_append]; omega, ?_⟩
        · refine ⟨by rw [← List.append_assoc]; exact g1, hQ.2.1.trans g2 (fun j hj => ?_), ?_⟩
          · have hSU := hQ.2.1.1
            simp only [List.mem_cons, List.not_mem_nil, or_false] at hj ⊢
            rcases hj with rfl | rfl | rfl
            · exact .inl (.inl rfl)
            · rcases hQ.2.2 with h | h
              · exact .inl (.inr h)
              · exact .inr h
            · right; have := hP.2.1.1; omega
          · have hSU := hQ.2.1.1
            rcases g3 with h | h
            · rw [h]; exact hQ.2.2
            · exact .inr (by omega)
        · have := hCU.lt
          rcases g3 with h | h
          · rw [h]; exact hcq
          · omega
        · rw [hlv]
          simp only [lvsP, hb', Option.map_map]
          congr 1
          funext x
          simp [List.append_assoc]
    | zero =>
      have hi : i = L.length - onesN L := by omega
      subst hi
      have c3 : ¬ (((L.length - onesN L : Nat) : Int) < ((L.length - onesN L : Nat) : Int)) := by omega
      refine .inl ⟨(0, [.ptr p 0, .int .i64 (l.length : Int), .agg [isl L, .int .i64 (Z : Int), isl (natI M)], .int .i64 (L.length : Int)], U), by simp only [zB, decide_true, decide_false, Bool.false_eq_true, if_false, if_true, List.getElem?_cons_zero, List.getElem?_cons_succ, beq_self_eq_true, bne_self_eq_false, Int.reduceBNe, Int.reduceBEq, Int.reduceLT, Int.reduceGT, Int.reduceLE, Int.reduceGE, Nat.reduceAdd, Nat.reduceMul, Nat.reduceLeDiff, c3], ?_⟩
      have hdn : List.drop (L.length - onesN L) (List.drop (onesN L) L) = [] := List.drop_eq_nil_of_le (by omega)
      rw [hdn, lvsP_nil, Option.map_some, List.append_nil] at hlv
      rw [hlv, Option.map_some]
      -- the zeros
      obtain ⟨V, q4, e8, p8⟩ := putzeros_c hB (k + 3) hQ.1 (by simp only [List.length_append]; omega) l.length (L.length : Nat) (Z : Nat)
      rw [hzer h0] at e8
      have hP8 := hQ.trans p8
      obtain ⟨zb, hzb⟩ : ∃ zb, zb = (zerP l.length (L.length : Nat) (Z : Nat)).2 := ⟨_, rfl⟩
      rw [← hzb] at hP8 hzl ⊢
      have hlM := (isl_il V (natI M) 0).len
      rw [natI_len] at hlM
      simp only [zB, decide_true, decide_false, Bool.false_eq_true, if_false, if_true, List.getElem?_cons_zero, List.getElem?_cons_succ, beq_self_eq_true, bne_self_eq_false, Int.reduceBNe, Int.reduceBEq, Int.reduceLT, Int.reduceGT, Int.reduceLE, Int.reduceGE, Nat.reduceAdd, Nat.reduceMul, Nat.reduceLeDiff, sel_0, sel_1, e8, hlM]
      have hMl : M.length ≤ 16 := by omega
      have hMs := hzr.2 h0
      refine loop_meas (WOut S p q bs _) (fun m st => ∃ (i left : Nat) (W : Heap) (q' : Nat) (done2 : List Bool), i + m = M.length ∧ st = ([.ptr p 0, .int .i64 (left : Int), isl (natI M), .int .i64 (M.length : Int), .int .i64 (i : Int)], W) ∧
          Puts S W p q q' bs (bs ++ tok ++ onesB (L.take (onesN L)) ++ done ++ zb ++ done2) ∧ left ≤ Z ∧ (M.drop i).sum ≤ left ∧ done2.length ≤ 80 * i ∧ runsP Z M = done2 ++ runsP left (M.drop i)) M.length
        ⟨0, Z, V, q4, [], by omega, rfl, by rw [List.append_nil]; exact hP8, Nat.le_refl _, by rw [List.drop_zero]; exact hMs, by simp, by rw [List.drop_zero]; rfl⟩ ?_
      rintro m st ⟨i, left, W, q5, done2, him, rfl, hR, hlz, hsm, hd2, hrp⟩
      have hfin : ∀ rest, runsP left (M.drop i) = rest → rest = [] → WOut S p q bs (some (tok ++ onesB (L.take (onesN L)) ++ done ++ zb ++ runsP Z M)) (some (AV.int .i64 0, W)) := fun rest h1 h2 => by
        refine ⟨W, q5, 0, _, rfl, hR, fun K hK => ⟨rfl, ?_⟩, fun h => by cases h⟩
        rw [← Option.some.inj hK, hrp, h1, h2, List.append_nil]
        simp only [List.append_assoc]
      cases m with
      | zero =>
        have c4 : ¬ ((i : Int) < (M.length : Int)) := by omega
        refine .inl ⟨(0, [], W), by simp only [zB, decide_true, decide_false, Bool.false_eq_true, if_false, if_true, List.getElem?_cons_zero, List.getElem?_cons_succ, beq_self_eq_true, bne_self_eq_false, Int.reduceBNe, Int.reduceBEq, Int.reduceLT, Int.reduceGT, Int.reduceLE, Int.reduceGE, Nat.reduceAdd, Nat.reduceMul, Nat.reduceLeDiff, c4], ?_⟩
        have := hfin _ rfl (by rw [List.drop_eq_nil_of_le (by omega)]; rfl)
        simp only [zB, decide_true, decide_false, Bool.false_eq_true, if_false, if_true, List.getElem?_cons_zero, List.getElem?_cons_succ, beq_self_eq_true, bne_self_eq_false, Int.reduceBNe, Int.reduceBEq, Int.reduceLT, Int.reduceGT, Int.reduceLE, Int.reduceGE, Nat.reduceAdd, Nat.reduceMul, Nat.reduceLeDiff, sel_0, sel_1]
        exact this
      | succ m =>
        have hi : i < M.length := by omega
        have c4 : (i : Int) < (M.length : Int) := by omega
        have hi' : i < (natI M).length := by rw [natI_len]; exact hi
        obtain ⟨t, cs, o, x1, x2, x3⟩ := (isl_il W (natI M) 0).at hi'
        rw [natI_at hi'] at x3
        by_cases hl0 : left = 0
        · have c5 : ((left : Int) == 0) = true := by simp [hl0]
          refine .inl ⟨(0, [], W), by simp only [zB, decide_true, decide_false, Bool.false_eq_true, if_false, if_true, List.getElem?_cons_zero, List.getElem?_cons_succ, beq_self_eq_true, bne_self_eq_false, Int.reduceBNe, Int.reduceBEq, Int.reduceLT, Int.reduceGT, Int.reduceLE, Int.reduceGE, Nat.reduceAdd, Nat.reduceMul, Nat.reduceLeDiff, c4, x1, x2, x3, c5], ?_⟩
          have := hfin _ rfl (by rw [hl0]; exact runsP_zero _ (by omega))
          simp only [zB, decide_true, decide_false, Bool.false_eq_true, if_false, if_true, List.getElem?_cons_zero, List.getElem?_cons_succ, beq_self_eq_true, bne_self_eq_false, Int.reduceBNe, Int.reduceBEq, Int.reduceLT, Int.reduceGT, Int.reduceLE, Int.reduceGE, Nat.reduceAdd, Nat.reduceMul, Nat.reduceLeDiff, sel_0, sel_1]
          exact this
        · have c5 : ((left : Int) == 0) = false := by simp [hl0]
          rw [List.drop_eq_getElem_cons hi, List.sum_cons] at hsm
          obtain ⟨W2, q6, e9, p9⟩ := putrun_c hB (k + 3) hR.1 (by simp only [List.length_append]; omega) (left : Nat) (M[i] : Nat)
          have hr0 : (runP (left : Nat) (M[i] : Nat)).1 = 0 := by
            unfold runP
            rw [if_neg (by omega)]
            split <;> rfl
          rw [hr0] at e9
          have hrl := runP_len (left : Int) (M[i] : Nat)
          have w4 : IntKind.wrap .i64 ((left : Int) - ((M[i] : Nat) : Int)) = ((left - M[i] : Nat) : Int) := by rw [wr _ (by omega)]; omega
          have w5 : IntKind.wrap .i64 ((i : Int) + 1) = ((i + 1 : Nat) : Int) := by rw [wr _ (by omega)]; omega
          refine .inr ⟨m, ([.ptr p 0, .int .i64 ((left - M[i] : Nat) : Int), isl (natI M), .int .i64 (M.length : Int), .int .i64 ((i + 1 : Nat) : Int)], W2), by omega, by simp only [zB, decide_true, decide_false, Bool.false_eq_true, if_false, if_true, List.getElem?_cons_zero, List.getElem?_cons_succ, beq_self_eq_true, bne_self_eq_false, Int.reduceBNe, Int.reduceBEq, Int.reduceLT, Int.reduceGT, Int.reduceLE, Int.reduceGE, Nat.reduceAdd, Nat.reduceMul, Nat.reduceLeDiff, c4, x1, x2, x3, c5, e9, w4, w5], i + 1, left - M[i], W2, q6, done2 ++ (runP (left : Nat) (M[i] : Nat)).2, by omega, rfl, ?_, by omega, by omega, by rw [List.length_append]; omega, ?_⟩
          · rw [← List.append_assoc]; exact hR.trans p9
          · rw [hrp, List.drop_eq_getElem_cons hi]; simp only [runsP, List.append_assoc]
theorem vput_c (hw : Wr S p q bs) (hb : bs.length ≤ 1000000) (cls : Int) {a : AV} {l : List Int} {d : Nat} (hl : IL S a l d) (hd : d ≠ p ∧ d ≠ q) (hlen : l.length ≤ 1000000000) :
    ∃ S' q', Cn B (k + 7) f_vblock_Put 0 [.ptr p 0, .int .i64 cls, a] S = some (.int .i64 (putR cls l).1, S') ∧ Puts S S' p q q' bs (bs ++ (putR cls l).2) := by
  rw [c_vblock_Put _ _ _ _ _ _ (hB.no _ _ _ _ (kn_no (by decide))), T_vblock_Put]
  unfold putR
  by_cases g1 : cls < 0
  · rw [if_pos (.inl g1)]
    exact ⟨S, q, by simp only [zB, decide_true, decide_false, Bool.false_eq_true, if_false, if_true, List.getElem?_cons_zero, List.getElem?_cons_succ, beq_self_eq_true, bne_self_eq_false, Int.reduceBNe, Int.reduceBEq, Int.reduceLT, Int.reduceGT, Int.reduceLE, Int.reduceGE, Nat.reduceAdd, Nat.reduceMul, Nat.reduceLeDiff, g1], by rw [List.append_nil]; exact Puts.refl hw⟩
  by_cases g2 : cls > 4
  · rw [if_pos (.inr (.inl g2))]
    exact ⟨S, q, by simp only [zB, decide_true, decide_false, Bool.false_eq_true, if_false, if_true, List.getElem?_cons_zero, List.getElem?_cons_succ, beq_self_eq_true, bne_self_eq_false, Int.reduceBNe, Int.reduceBEq, Int.reduceLT, Int.reduceGT, Int.reduceLE, Int.reduceGE, Nat.reduceAdd, Nat.reduceMul, Nat.reduceLeDiff, g1, g2], by rw [List.append_nil]; exact Puts.refl hw⟩
  have e1 := vsized_c hB (k + 5) (S := S) (l.length : Int)
  by_cases g3 : sizedI (l.length : Int) = false
  · rw [if_pos (.inr (.inr (.inl g3)))]
    rw [g3] at e1
    exact ⟨S, q, by simp only [zB, decide_true, decide_false, Bool.false_eq_true, if_false, if_true, List.getElem?_cons_zero, List.getElem?_cons_succ, beq_self_eq_true, bne_self_eq_false, Int.reduceBNe, Int.reduceBEq, Int.reduceLT, Int.reduceGT, Int.reduceLE, Int.reduceGE, Nat.reduceAdd, Nat.reduceMul, Nat.reduceLeDiff, g1, g2, hl.len, e1], by rw [List.append_nil]; exact Puts.refl hw⟩
  obtain ⟨S1, e2, f2⟩ := of_c hB (k + 4) hl hlen
  have g3' : sizedI (l.length : Int) = true := by simpa using g3
  rw [g3'] at e1
  unfold ofR at e2
  rw [if_neg g3] at e2
  by_cases g4 : rngd l = false
  · rw [if_pos (.inr (.inr (.inr g4)))]
    rw [if_pos g4] at e2
    refine ⟨S1, q, ?_, by rw [List.append_nil]; exact ⟨hw.fr f2 (by simp) (by simp), f2.nil, .inl rfl⟩⟩
    unfold zR at e2
    simp only [zB, decide_true, decide_false, Bool.false_eq_true, if_false, if_true, List.getElem?_cons_zero, List.getElem?_cons_succ, beq_self_eq_true, bne_self_eq_false, Int.reduceBNe, Int.reduceBEq, Int.reduceLT, Int.reduceGT, Int.reduceLE, Int.reduceGE, Nat.reduceAdd, Nat.reduceMul, Nat.reduceLeDiff, g1, g2, hl.len, e1, e2, List.length_cons, List.length_nil, List.all_cons, List.all_nil, cell_nils, cell_i]
  rw [if_neg (by simp only [not_or]; exact ⟨g1, g2, g3, g4⟩)]
  rw [if_neg g4] at e2
  have hblk := Blk.mk' g3 g4
  obtain ⟨S2, e3, w3, f3⟩ := write_c hB (k + 5) (S := S1)
  obtain ⟨S3, q3, r3, bs3, e4, p4, k4, n4⟩ := vwrite_c hB k w3 (by simp) (cls := cls) ⟨by omega, by omega⟩ hblk
  have hl1 := (hl.fr f2 (by simp)).fr f3 (by simp)
  have hltp := hw.lt
  have hn1 := f2.1
  have hn2 := f3.1
  have hF3 : Fr S S3 [] := (f2.trans f3 (fun j hj => by simp at hj)).trans p4.2.1 (fun j hj => .inr (by simp at hj; omega))
  have hw3 : Wr S3 p q bs := hw.fr hF3 (by simp) (by simp)
  have hl3 : IL S3 a l d := hl.fr hF3 (by simp)
  unfold ofA at e2 e4
  cases hK : blkC cls l with
  | none =>
    have := n4 hK
    subst this
    refine ⟨S3, q, ?_, by rw [List.append_nil]; exact ⟨hw3, hF3.nil, .inl rfl⟩⟩
    simp only [zB, decide_true, decide_false, Bool.false_eq_true, if_false, if_true, List.getElem?_cons_zero, List.getElem?_cons_succ, beq_self_eq_true, bne_self_eq_false, Int.reduceBNe, Int.reduceBEq, Int.reduceLT, Int.reduceGT, Int.reduceLE, Int.reduceGE, Nat.reduceAdd, Nat.reduceMul, Nat.reduceLeDiff, g1, g2, hl.len, e1, e2, List.length_cons, List.length_nil, List.all_cons, List.all_nil, isl_cell, cell_i, e3, hl1.len, set3_a, take3, e4]
  | some Kb =>
    obtain ⟨hr, hb3⟩ := k4 Kb hK
    subst hr
    obtain ⟨S4, q4, r4, bs4, e5, p5, k5, n5⟩ := vwrite_c hB k hw3 hb (cls := cls) ⟨by omega, by omega⟩ hblk
    obtain ⟨hr5, hb5⟩ := k5 Kb hK
    subst hr5 hb5
    unfold ofA at e5
    refine ⟨S4, q4, ?_, p5.1, hF3.nil.trans p5.2.1 (fun j hj => .inl hj), ?_⟩
    · simp only [zB, decide_true, decide_false, Bool.false_eq_true, if_false, if_true, List.getElem?_cons_zero, List.getElem?_cons_succ, beq_self_eq_true, bne_self_eq_false, Int.reduceBNe, Int.reduceBEq, Int.reduceLT, Int.reduceGT, Int.reduceLE, Int.reduceGE, Nat.reduceAdd, Nat.reduceMul, Nat.reduceLeDiff, g1, g2, hl.len, e1, e2, List.length_cons, List.length_nil, List.all_cons, List.all_nil, isl_cell, cell_i, e3, hl1.len, set3_a, take3, e4, hl3.len, e5]
    · rcases p5.2.2 with h | h
      · exact .inl h
      · exact .inr (by have := hF3.1; omega)
theorem vfits_c {a : AV} {l : List Int} {d : Nat} (hl : IL S a l d) (hd : d < S.next ∨ ∀ S, IL S a l 0) (hlen : l.length ≤ 1000000000) : ∃ S', Cn B (k + 8) f_vblock_Fits 0 [a] S = some (.bool ((putR 0 l).1 == 0), S') ∧ Fr S S' [] := by
  rw [c_vblock_Fits _ _ _ _ (hB.no _ _ _ _ (kn_no (by decide))), T_vblock_Fits]
  obtain ⟨S1, e1, w1, f1⟩ := write_c hB (k + 6) (S := S)
  have key : ∃ d', IL S1 a l d' ∧ d' ≠ S.next := by
    rcases hd with hd | hd
    · exact ⟨d, hl.fr f1 (by simp), by omega⟩
    · by_cases h0 : S.next = 0
      · rcases hd S1 with h | h | ⟨h1, h2, h3⟩
        · exact ⟨1, .inl h, by omega⟩
        · exact ⟨1, .inr (.inl h), by omega⟩
        · rcases hd ⟨0, fun _ => none, (none, [])⟩ with h | h | ⟨_, h, _⟩
          · exact ⟨1, .inl h, by omega⟩
          · exact ⟨1, .inr (.inl h), by omega⟩
          · cases h
      · exact ⟨0, hd S1, by omega⟩
  obtain ⟨d', hl1, hd'⟩ := key
  obtain ⟨S2, q2, e2, p2⟩ := vput_c hB k w1 (by simp) 0 hl1 ⟨hd', hd'⟩ hlen
  exact ⟨S2, by simp only [zB, decide_true, decide_false, Bool.false_eq_true, if_false, if_true, List.getElem?_cons_zero, List.getElem?_cons_succ, beq_self_eq_true, bne_self_eq_false, Int.reduceBNe, Int.reduceBEq, Int.reduceLT, Int.reduceGT, Int.reduceLE, Int.reduceGE, Nat.reduceAdd, Nat.reduceMul, Nat.reduceLeDiff, e1, e2], f1.trans p2.2.1 (fun j hj => .inr (by simp at hj; omega))⟩
end
theorem sel_2 {β : Type} (f g h : List AV → Heap → Option β) (fs : List (List AV → Heap → Option β)) (v : List AV) (S : Heap) : sel (f :: g :: h :: fs) 2 v S = h v S := (rfl)
def fill : List Int → List Nat → Nat → List Int → List Int
  | [], _, _, out => out
  | v :: L, B, pos, out => fill L B.tail (pos - 1 - B.headD 0) (out.set pos v)
theorem fill_shift : ∀ (L : List Int) (B : List Nat) (pos : Nat) (x : Int) (out : List Int), B.length = L.length - 1 → (L.length - 1) + B.sum ≤ pos → fill L B (pos + 1) (x :: out) = x :: fill L B pos out
  | [], B, pos, x, out, h1, h2 => rfl
  | [v], B, pos, x, out, h1, h2 => by simp [fill]
  | v :: w :: L, B, pos, x, out, h1, h2 => by
    cases B with
    | nil => simp at h1
    | cons b B =>
      simp only [List.length_cons, List.sum_cons] at h1 h2
      have e : pos + 1 - 1 - b = (pos - 1 - b) + 1 := by omega
      have ih := fill_shift (w :: L) B (pos - 1 - b) x (out.set pos v) (by simp only [List.length_cons]; omega) (by simp only [List.length_cons]; omega)
      simp only [fill, List.tail_cons, List.headD_cons, List.set_cons_succ] at ih ⊢
      rw [e]
      exact ih
end Go.Ab.tV
