/- Readers of bits: what the functions of package bits and golomb come to. No condition beyond what each lemma names. -/
import Derived.Test.YtbmcdphiolidkaaGreatDoorVLB
set_option maxRecDepth 100000
set_option linter.unusedSimpArgs false
set_option linter.unusedVariables false
set_option linter.unusedSectionVars false
namespace Go.Ab.tV
open Go Go.Proofs

-- loops
theorem bloop {step : LSt → Option (LSt ⊕ (Nat × LSt))} {s : LSt} {α : Type} {f : Nat × LSt → Option α} :
    bO (ctlV.loop step s) f = (match step s with | some (.inl s') => bO (ctlV.loop step s') f | some (.inr x) => f x | none => none) := by
  show bO (loopW step s) f = _
  cases h : step s with
  | none =>
    have : loopW step s = none := by
      unfold loopW
      rw [dif_neg]
      rintro ⟨x, hx⟩
      cases hx with
      | done k => rw [h] at k; cases k
      | cont k _ => rw [h] at k; cases k
    rw [this]; rfl
  | some y =>
    cases y with
    | inl s' => simp only; rw [loopW_cont h]; rfl
    | inr x => simp only; rw [loopW_done h]; rfl
theorem loop_meas {step : LSt → Option (LSt ⊕ (Nat × LSt))} {α : Type} {f : Nat × LSt → Option α} {s0 : LSt} (W : Option α → Prop) (P : Nat → LSt → Prop) (m0 : Nat) (h0 : P m0 s0)
    (hs : ∀ m s, P m s → (∃ x, step s = some (.inr x) ∧ W (f x)) ∨ (∃ m' s', m' < m ∧ step s = some (.inl s') ∧ P m' s')) : W (bO (ctlV.loop step s0) f) := by
  induction m0 using Nat.strongRecOn generalizing s0 with
  | ind m ih =>
    rcases hs m s0 h0 with ⟨x, h1, h2⟩ | ⟨m', s', h1, h2, h3⟩
    · rw [bloop, h1]; exact h2
    · rw [bloop, h2]; exact ih m' h1 h3

-- heaps
def Fr (S S' : Heap) (l : List Nat) : Prop := S.next ≤ S'.next ∧ S'.cx = S.cx ∧ ∀ j, j < S.next → j ∉ l → S'.blk j = S.blk j
theorem Fr.refl (S : Heap) (l : List Nat) : Fr S S l := ⟨Nat.le_refl _, rfl, fun _ _ _ => rfl⟩
theorem Fr.trans {S T U : Heap} {l l' : List Nat} (h1 : Fr S T l) (h2 : Fr T U l') (h : ∀ j ∈ l', j ∈ l ∨ S.next ≤ j) : Fr S U l :=
  ⟨Nat.le_trans h1.1 h2.1, h2.2.1.trans h1.2.1, fun j hj hn => (h2.2.2 j (Nat.lt_of_lt_of_le hj h1.1) fun hm => by rcases h j hm with h | h; exact hn h; omega).trans (h1.2.2 j hj hn)⟩
theorem Fr.weak {S T : Heap} {l l' : List Nat} (h : Fr S T l) (hl : ∀ j ∈ l, j ∈ l' ∨ S.next ≤ j) : Fr S T l' := (Fr.refl S l').trans h hl
theorem Fr.nil {S T : Heap} {l : List Nat} (h : Fr S T []) : Fr S T l := h.weak fun j hj => by simp at hj
theorem Fr.alloc (S : Heap) (c : List AV) (l : List Nat) : Fr S (S.alloc c) l := ⟨Nat.le_succ _, rfl, fun j hj _ => by simp only [Heap.alloc]; rw [if_neg (by omega)]⟩
theorem Fr.set {S T : Heap} {l : List Nat} (h : Fr S T l) {i : Nat} (hi : i ∈ l ∨ S.next ≤ i) (c : Option (List AV)) : Fr S (T.set i c) l :=
  ⟨h.1, h.2.1, fun j hj hn => by
    have : ¬ j = i := fun e => by subst e; rcases hi with h | h; exact hn h; omega
    simp only [Heap.set]; rw [if_neg this]; exact h.2.2 j hj hn⟩
theorem Fr.alloc' {S T : Heap} {l : List Nat} (h : Fr S T l) (c : List AV) : Fr S (T.alloc c) l := h.trans (Fr.alloc T c []) (fun j hj => by simp at hj)
theorem Fr.get {S T : Heap} {l : List Nat} (h : Fr S T l) {j : Nat} (hj : j < S.next) (hn : j ∉ l) : T.blk j = S.blk j := h.2.2 j hj hn
theorem set_next (S : Heap) (i : Nat) (c : Option (List AV)) : (S.set i c).next = S.next := (rfl)
theorem alloc_next (S : Heap) (c : List AV) : (S.alloc c).next = S.next + 1 := (rfl)
theorem alloc_blk (S : Heap) (c : List AV) : (S.alloc c).blk S.next = some c := by simp [Heap.alloc]
theorem set_blk (S : Heap) (i : Nat) (c : Option (List AV)) : (S.set i c).blk i = c := by simp [Heap.set]
theorem set_other (S : Heap) {i j : Nat} (c : Option (List AV)) (h : j ≠ i) : (S.set i c).blk j = S.blk j := by simp [Heap.set, h]
theorem alloc_other (S : Heap) {j : Nat} (c : List AV) (h : j ≠ S.next) : (S.alloc c).blk j = S.blk j := by simp [Heap.alloc, h]
theorem putV_p {i o : Nat} {vs cs : List AV} {S : Heap} (h : S.blk i = some cs) (hl : o + vs.length ≤ cs.length) : putV (.ptr i o) vs S = some (S.set i (some (setCells cs o vs))) := by
  simp only [putV, h, if_pos hl]
theorem aShl (k : IntKind) (x : Int) (y : Nat) : aShift .shl k x (y : Int) = some (.int k (shlI k x y)) := by
  unfold aShift; rw [if_neg (by omega)]
theorem aShr (k : IntKind) (x : Int) (y : Nat) : aShift .shr k x (y : Int) = some (.int k (shrI k x y)) := by
  unfold aShift; rw [if_neg (by omega)]
theorem ba_get (s : ByteArray) (i : Nat) : s[i]? = s.data[i]? := by
  by_cases h : i < s.size
  · rw [getElem?_pos s i h, getElem?_pos s.data i h]; rfl
  · rw [getElem?_neg s i h, getElem?_neg s.data i h]

/-- The functions of which something is known beforehand, computed by the kernel, and for which arguments. -/
def knownF : List Nat := [f_spindlelaw21_known, f_spindleref18_pairs, f_vlc_cut, f_spindleref18_cut, f_vlc_Pair, f_spindleref18_Pair, f_spindleref18_Symbol]
def knA (f : Nat) (args : List AV) : Bool := match args with
  | [] => decide (f ∈ [f_spindlelaw21_known, f_spindleref18_pairs])
  | [.int .i64 n] => (decide (f ∈ [f_vlc_cut, f_spindleref18_cut]) && decide (0 ≤ n) && decide (n ≤ 15)) || (decide (f ∈ [f_vlc_Pair, f_spindleref18_Pair]) && decide (0 ≤ n) && decide (n ≤ 61))
  | [.int .i64 a, .int .i64 b] => decide (f ∈ [f_spindleref18_Symbol]) && decide (0 ≤ a) && decide (a ≤ 16) && decide (0 ≤ b) && decide (b ≤ 3)
  | _ => false
def kn (f : Nat) (args : List AV) : Bool := decide (f ∈ knownF) && knA f args
theorem kn_no {f : Nat} {args : List AV} (h : f ∉ knownF) : kn f args = false := by simp [kn, h]
/-- What is known beforehand: of the known calls what the kernel computes, of others nothing. -/
structure Silent (B : CallF) : Prop where
  no : ∀ f way args S, kn f args = false → B f way args S = none
  yes : ∀ f args S, kn f args = true → B f 0 args S = locC (tabN (rows (ctlF 1000)) 60) f 0 args S
noncomputable def chk (f : Nat) (args : List AV) (v : AV) : Bool := (match tabN (rows (ctlF 1000)) 60 f 0 args S0 with | some r => r.1.beq v | none => false) && noId v && noIdL args && kn f args
theorem chk_c {B : CallF} (hB : Silent B) {f : Nat} {args : List AV} {v : AV} (h : chk f args v = true) (k : Nat) (S : Heap) : Cn B k f 0 args S = some (v, S) := by
  simp only [chk, Bool.and_eq_true] at h
  obtain ⟨⟨⟨h1, h2⟩, h3⟩, h4⟩ := h
  have hb : B f 0 args S = some (v, S) := by
    rw [hB.yes _ _ _ h4]
    unfold locC
    rw [if_pos h3]
    split at h1
    · rename_i r hr
      rw [hr]
      have := AV.beq_eq _ _ h1
      simp only [this, h2, if_true]
    · cases h1
  cases k with
  | zero => exact hb
  | succ k => simp only [Cn, callN, hb]

structure Rdr (S : Heap) (p : Nat) (s : ByteArray) (a : Nat) : Prop where
  blk : S.blk p = some [.str s, .int .i64 (a : Int)]
  lt : p < S.next
  sz : s.size ≤ 1099511627776
  le : a ≤ 8 * s.size
theorem Rdr.fr {S T : Heap} {p : Nat} {s : ByteArray} {a : Nat} {l : List Nat} (h : Rdr S p s a) (f : Fr S T l) (hp : p ∉ l) : Rdr T p s a :=
  ⟨(f.get h.lt hp).trans h.blk, Nat.lt_of_lt_of_le h.lt f.1, h.sz, h.le⟩
theorem Rdr.put {S : Heap} {p : Nat} {s : ByteArray} {a : Nat} (h : Rdr S p s a) (x : Int) : putV (.ptr p 1) [.int .i64 x] S = some (S.set p (some [.str s, .int .i64 x])) := by
  rw [putV_p h.blk (by simp)]; rfl
theorem Rdr.set {S : Heap} {p : Nat} {s : ByteArray} {a : Nat} (h : Rdr S p s a) {a' : Nat} (ha : a' ≤ 8 * s.size) : Rdr (S.set p (some [.str s, .int .i64 (a' : Int)])) p s a' :=
  ⟨set_blk _ _ _, h.lt, h.sz, ha⟩

section
variable {B : CallF} (hB : Silent B) (k : Nat) {S : Heap} {p : Nat} {s : ByteArray} {a : Nat} (h : Rdr S p s a)
include hB h
theorem left_c : Cn B (k + 1) f_bits_Reader_Left 0 [.ptr p 0] S = some (.int .i64 ((8 * s.size - a : Nat) : Int), S) := by
  rw [c_bits_Reader_Left _ _ _ _ (hB.no _ _ _ _ (kn_no (by decide))), T_bits_Reader_Left]
  have := h.sz
  have := h.le
  have w1 : IntKind.wrap .i64 (8 * (s.size : Int)) = 8 * s.size := wr _ (by omega)
  have w2 : IntKind.wrap .i64 (8 * (s.size : Int) - a) = ((8 * s.size - a : Nat) : Int) := by rw [wr _ (by omega)]; omega
  simp only [eql_ptr37, eql_nilp37, eql_ptr42, eql_nilp42, eql_ptr58, eql_nilp58, eql_ptr277, eql_nilp277, eql_nils32, eql_is32, eql_hs32, eql_nils33, eql_is33, eql_hs33, eql_nils34, eql_is34, eql_hs34, len_nils26, len_is26, len_hs26, len_nils32, len_is32, len_hs32, len_nils33, len_is33, len_hs33, len_nils34, len_is34, len_hs34, len_nils61, len_is61, len_hs61, len_nils124, len_is124, len_hs124, len_nils156, len_is156, len_hs156, len_nils245, len_is245, len_hs245, bO_s, gB_t, asBool_b, asInt_i, asAgg_a, asTup_a, asStr_s, asCons_c, asNil_n, nthA_0, nthA_s, aggCells_a, addV_p, addV_i, seeV_p, seeV_i, same_nil, same_1, same_2, tr_v, decide_true, decide_false, Bool.false_eq_true, if_false, if_true, Bool.not_true, Bool.not_false, Bool.and_true, Bool.true_and, Bool.and_self, List.getElem?_cons_zero, List.getElem?_cons_succ, Nat.zero_add, Nat.add_zero, beq_self_eq_true, bne_self_eq_false, Int.reduceBNe, Int.reduceBEq, Int.reduceLT, Int.reduceGT, Int.reduceLE, Int.reduceGE, Nat.reduceAdd, Nat.reduceMul, Nat.reduceLeDiff, h.blk, w1, w2]
theorem pos_c : Cn B (k + 1) f_bits_Reader_Pos 0 [.ptr p 0] S = some (.int .i64 (a : Int), S) := by
  rw [c_bits_Reader_Pos _ _ _ _ (hB.no _ _ _ _ (kn_no (by decide))), T_bits_Reader_Pos]
  simp only [eql_ptr37, eql_nilp37, eql_ptr42, eql_nilp42, eql_ptr58, eql_nilp58, eql_ptr277, eql_nilp277, eql_nils32, eql_is32, eql_hs32, eql_nils33, eql_is33, eql_hs33, eql_nils34, eql_is34, eql_hs34, len_nils26, len_is26, len_hs26, len_nils32, len_is32, len_hs32, len_nils33, len_is33, len_hs33, len_nils34, len_is34, len_hs34, len_nils61, len_is61, len_hs61, len_nils124, len_is124, len_hs124, len_nils156, len_is156, len_hs156, len_nils245, len_is245, len_hs245, bO_s, gB_t, asBool_b, asInt_i, asAgg_a, asTup_a, asStr_s, asCons_c, asNil_n, nthA_0, nthA_s, aggCells_a, addV_p, addV_i, seeV_p, seeV_i, same_nil, same_1, same_2, tr_v, decide_true, decide_false, Bool.false_eq_true, if_false, if_true, Bool.not_true, Bool.not_false, Bool.and_true, Bool.true_and, Bool.and_self, List.getElem?_cons_zero, List.getElem?_cons_succ, Nat.zero_add, Nat.add_zero, beq_self_eq_true, bne_self_eq_false, Int.reduceBNe, Int.reduceBEq, Int.reduceLT, Int.reduceGT, Int.reduceLE, Int.reduceGE, Nat.reduceAdd, Nat.reduceMul, Nat.reduceLeDiff, h.blk]
theorem u_ok (n : Nat) (hn : n ≤ 64) (hL : a + n ≤ 8 * s.size) :
    ∃ S', Cn B (k + 2) f_bits_Reader_U 0 [.ptr p 0, .int .i64 (n : Int)] S = some (.tup [.int .u64 ((num s a n : Nat) : Int), .int .i64 0], S') ∧ Rdr S' p s (a + n) ∧ Fr S S' [p] := by
  rw [c_bits_Reader_U _ _ _ _ _ (hB.no _ _ _ _ (kn_no (by decide))), T_bits_Reader_U]
  have e1 := left_c hB k h
  have c1 : ¬ ((n : Int) < 0) := by omega
  have c2 : ¬ ((n : Int) > 64) := by omega
  have c3 : ¬ ((n : Int) > ((8 * s.size - a : Nat) : Int)) := by omega
  simp only [eql_ptr37, eql_nilp37, eql_ptr42, eql_nilp42, eql_ptr58, eql_nilp58, eql_ptr277, eql_nilp277, eql_nils32, eql_is32, eql_hs32, eql_nils33, eql_is33, eql_hs33, eql_nils34, eql_is34, eql_hs34, len_nils26, len_is26, len_hs26, len_nils32, len_is32, len_hs32, len_nils33, len_is33, len_hs33, len_nils34, len_is34, len_hs34, len_nils61, len_is61, len_hs61, len_nils124, len_is124, len_hs124, len_nils156, len_is156, len_hs156, len_nils245, len_is245, len_hs245, bO_s, gB_t, asBool_b, asInt_i, asAgg_a, asTup_a, asStr_s, asCons_c, asNil_n, nthA_0, nthA_s, aggCells_a, addV_p, addV_i, seeV_p, seeV_i, same_nil, same_1, same_2, tr_v, decide_true, decide_false, Bool.false_eq_true, if_false, if_true, Bool.not_true, Bool.not_false, Bool.and_true, Bool.true_and, Bool.and_self, List.getElem?_cons_zero, List.getElem?_cons_succ, Nat.zero_add, Nat.add_zero, beq_self_eq_true, bne_self_eq_false, Int.reduceBNe, Int.reduceBEq, Int.reduceLT, Int.reduceGT, Int.reduceLE, Int.reduceGE, Nat.reduceAdd, Nat.reduceMul, Nat.reduceLeDiff, c1, c2, e1, c3]
  refine loop_meas (fun o => ∃ S', o = some (AV.tup [.int .u64 ((num s a n : Nat) : Int), .int .i64 0], S') ∧ Rdr S' p s (a + n) ∧ Fr S S' [p])
    (fun m st => ∃ d T, d + m = n ∧ st = ([.ptr p 0, .int .i64 (m : Int), .int .u64 ((num s a d : Nat) : Int)], T) ∧ Rdr T p s (a + d) ∧ Fr S T [p]) n ⟨0, S, by omega, by simp [num], h, Fr.refl S _⟩ ?_
  rintro m st ⟨d, T, hd, rfl, hT, hF⟩
  by_cases hm : m = 0
  · subst hm
    have : d = n := by omega
    subst this
    have c4 : ¬ (((0 : Nat) : Int) > 0) := by omega
    refine .inl ⟨(0, [.int .u64 ((num s a d : Nat) : Int)], T), by simp only [eql_ptr37, eql_nilp37, eql_ptr42, eql_nilp42, eql_ptr58, eql_nilp58, eql_ptr277, eql_nilp277, eql_nils32, eql_is32, eql_hs32, eql_nils33, eql_is33, eql_hs33, eql_nils34, eql_is34, eql_hs34, len_nils26, len_is26, len_hs26, len_nils32, len_is32, len_hs32, len_nils33, len_is33, len_hs33, len_nils34, len_is34, len_hs34, len_nils61, len_is61, len_hs61, len_nils124, len_is124, len_hs124, len_nils156, len_is156, len_hs156, len_nils245, len_is245, len_hs245, bO_s, gB_t, asBool_b, asInt_i, asAgg_a, asTup_a, asStr_s, asCons_c, asNil_n, nthA_0, nthA_s, aggCells_a, addV_p, addV_i, seeV_p, seeV_i, same_nil, same_1, same_2, tr_v, decide_true, decide_false, Bool.false_eq_true, if_false, if_true, Bool.not_true, Bool.not_false, Bool.and_true, Bool.true_and, Bool.and_self, List.getElem?_cons_zero, List.getElem?_cons_succ, Nat.zero_add, Nat.add_zero, beq_self_eq_true, bne_self_eq_false, Int.reduceBNe, Int.reduceBEq, Int.reduceLT, Int.reduceGT, Int.reduceLE, Int.reduceGE, Nat.reduceAdd, Nat.reduceMul, Nat.reduceLeDiff, c4], T, by simp only [eql_ptr37, eql_nilp37, eql_ptr42, eql_nilp42, eql_ptr58, eql_nilp58, eql_ptr277, eql_nilp277, eql_nils32, eql_is32, eql_hs32, eql_nils33, eql_is33, eql_hs33, eql_nils34, eql_is34, eql_hs34, len_nils26, len_is26, len_hs26, len_nils32, len_is32, len_hs32, len_nils33, len_is33, len_hs33, len_nils34, len_is34, len_hs34, len_nils61, len_is61, len_hs61, len_nils124, len_is124, len_hs124, len_nils156, len_is156, len_hs156, len_nils245, len_is245, len_hs245, bO_s, gB_t, asBool_b, asInt_i, asAgg_a, asTup_a, asStr_s, asCons_c, asNil_n, nthA_0, nthA_s, aggCells_a, addV_p, addV_i, seeV_p, seeV_i, same_nil, same_1, same_2, tr_v, decide_true, decide_false, Bool.false_eq_true, if_false, if_true, Bool.not_true, Bool.not_false, Bool.and_true, Bool.true_and, Bool.and_self, List.getElem?_cons_zero, List.getElem?_cons_succ, Nat.zero_add, Nat.add_zero, beq_self_eq_true, bne_self_eq_false, Int.reduceBNe, Int.reduceBEq, Int.reduceLT, Int.reduceGT, Int.reduceLE, Int.reduceGE, Nat.reduceAdd, Nat.reduceMul, Nat.reduceLeDiff, sel], hT, hF⟩
  · have hsz := h.sz
    have hle := hT.le
    have c4 : (m : Int) > 0 := by omega
    obtain ⟨b, hb⟩ : ∃ b, s.data[(a + d) / 8]? = some b := by
      have : (a + d) / 8 < s.data.size := by have : s.size = s.data.size := rfl; omega
      exact ⟨_, Array.getElem?_eq_getElem this⟩
    obtain ⟨r, hr⟩ : ∃ r, r = (a + d) % 8 := ⟨_, rfl⟩
    obtain ⟨kk, hk⟩ : ∃ kk, kk = min (8 - r) m := ⟨_, rfl⟩
    have w3 : IntKind.wrap .i64 (8 - Int.tmod ((a + d : Nat) : Int) 8) = ((8 - r : Nat) : Int) := by rw [tmodL, ← hr, wr _ (by omega)]; omega
    have w4 : (if ((8 - r : Nat) : Int) < (m : Int) then ((8 - r : Nat) : Int) else (m : Int)) = (kk : Int) := by split <;> omega
    have w5 : IntKind.wrap .i64 (8 - ((8 - r : Nat) : Int)) = (r : Int) := by rw [wr _ (by omega)]; omega
    have w6 : IntKind.wrap .i64 (8 - (kk : Int)) = ((8 - kk : Nat) : Int) := by rw [wr _ (by omega)]; omega
    have w7 : IntKind.wrap .i64 (Int.tdiv ((a + d : Nat) : Int) 8) = (((a + d) / 8 : Nat) : Int) := by rw [tdivL, wr _ (by omega)]
    have w8 : (0 : Int) ≤ (((a + d) / 8 : Nat) : Int) := by omega
    have w9 : IntKind.wrap .i64 (((a + d : Nat) : Int) + (kk : Int)) = ((a + (d + kk) : Nat) : Int) := by rw [wr _ (by omega)]; omega
    have w10 : IntKind.wrap .i64 ((m : Int) - (kk : Int)) = ((m - kk : Nat) : Int) := by rw [wr _ (by omega)]; omega
    have hnum := num_lt s a d
    have hbyte := num_lt s (a + d) kk
    have hp1 : num s a d * 2 ^ kk + num s (a + d) kk < 18446744073709551616 := by
      have h1 := num_add s a d kk
      have h2 := num_lt s a (d + kk)
      have h3 : 2 ^ (d + kk) ≤ 2 ^ 64 := Nat.pow_le_pow_right (by omega) (by omega)
      omega
    have hv : orI .u64 (shlI .u64 ((num s a d : Nat) : Int) (kk : Int)) (IntKind.wrap .u64 (shrI .u8 (shlI .u8 ((UInt8.toNat b : Nat) : Int) (r : Int)) ((8 - kk : Nat) : Int))) = ((num s a (d + kk) : Nat) : Int) := by
      have hb2 := num_byte hb kk (by omega)
      rw [← hr] at hb2
      have hlt : num s (a + d) kk < 256 := by
        rw [hb2]; exact Nat.lt_of_le_of_lt (Nat.div_le_self _ _) (Nat.mod_lt _ (by omega))
      rw [shl8 _ _ (by omega), shr8 _ _ (by omega), ← hb2, wu _ (by omega), shl64 _ _ (by omega) (by omega), or64 _ _ (by omega) (by omega), or_mul _ _ _ hbyte, num_add]
    refine .inr ⟨m - kk, _, by omega, by simp only [eql_ptr37, eql_nilp37, eql_ptr42, eql_nilp42, eql_ptr58, eql_nilp58, eql_ptr277, eql_nilp277, eql_nils32, eql_is32, eql_hs32, eql_nils33, eql_is33, eql_hs33, eql_nils34, eql_is34, eql_hs34, len_nils26, len_is26, len_hs26, len_nils32, len_is32, len_hs32, len_nils33, len_is33, len_hs33, len_nils34, len_is34, len_hs34, len_nils61, len_is61, len_hs61, len_nils124, len_is124, len_hs124, len_nils156, len_is156, len_hs156, len_nils245, len_is245, len_hs245, bO_s, gB_t, asBool_b, asInt_i, asAgg_a, asTup_a, asStr_s, asCons_c, asNil_n, nthA_0, nthA_s, aggCells_a, addV_p, addV_i, seeV_p, seeV_i, same_nil, same_1, same_2, tr_v, decide_true, decide_false, Bool.false_eq_true, if_false, if_true, Bool.not_true, Bool.not_false, Bool.and_true, Bool.true_and, Bool.and_self, List.getElem?_cons_zero, List.getElem?_cons_succ, Nat.zero_add, Nat.add_zero, beq_self_eq_true, bne_self_eq_false, Int.reduceBNe, Int.reduceBEq, Int.reduceLT, Int.reduceGT, Int.reduceLE, Int.reduceGE, Nat.reduceAdd, Nat.reduceMul, Nat.reduceLeDiff, c4, hT.blk, w3, w4, w5, w6, w7, w8, w9, w10, ba_get, Int.toNat_natCast, hb, aShl, aShr, hT.put, hv], d + kk, T.set p (some [.str s, .int .i64 ((a + (d + kk) : Nat) : Int)]), by omega, rfl, hT.set (by omega), hF.set (.inl (by simp)) _⟩
theorem u_short (n : Nat) (hn : n ≤ 64) (hL : 8 * s.size < a + n) : Cn B (k + 2) f_bits_Reader_U 0 [.ptr p 0, .int .i64 (n : Int)] S = some (.tup [.int .u64 0, .int .i64 5], S) := by
  rw [c_bits_Reader_U _ _ _ _ _ (hB.no _ _ _ _ (kn_no (by decide))), T_bits_Reader_U]
  have e1 := left_c hB k h
  have := h.le
  have c1 : ¬ ((n : Int) < 0) := by omega
  have c2 : ¬ ((n : Int) > 64) := by omega
  have c3 : ((n : Int) > ((8 * s.size - a : Nat) : Int)) := by omega
  simp only [eql_ptr37, eql_nilp37, eql_ptr42, eql_nilp42, eql_ptr58, eql_nilp58, eql_ptr277, eql_nilp277, eql_nils32, eql_is32, eql_hs32, eql_nils33, eql_is33, eql_hs33, eql_nils34, eql_is34, eql_hs34, len_nils26, len_is26, len_hs26, len_nils32, len_is32, len_hs32, len_nils33, len_is33, len_hs33, len_nils34, len_is34, len_hs34, len_nils61, len_is61, len_hs61, len_nils124, len_is124, len_hs124, len_nils156, len_is156, len_hs156, len_nils245, len_is245, len_hs245, bO_s, gB_t, asBool_b, asInt_i, asAgg_a, asTup_a, asStr_s, asCons_c, asNil_n, nthA_0, nthA_s, aggCells_a, addV_p, addV_i, seeV_p, seeV_i, same_nil, same_1, same_2, tr_v, decide_true, decide_false, Bool.false_eq_true, if_false, if_true, Bool.not_true, Bool.not_false, Bool.and_true, Bool.true_and, Bool.and_self, List.getElem?_cons_zero, List.getElem?_cons_succ, Nat.zero_add, Nat.add_zero, beq_self_eq_true, bne_self_eq_false, Int.reduceBNe, Int.reduceBEq, Int.reduceLT, Int.reduceGT, Int.reduceLE, Int.reduceGE, Nat.reduceAdd, Nat.reduceMul, Nat.reduceLeDiff, c1, c2, e1, c3]
theorem bit_ok (hL : a < 8 * s.size) : ∃ S', Cn B (k + 3) f_bits_Reader_Bit 0 [.ptr p 0] S = some (.tup [.int .u8 ((sb s a : Nat) : Int), .int .i64 0], S') ∧ Rdr S' p s (a + 1) ∧ Fr S S' [p] := by
  rw [c_bits_Reader_Bit _ _ _ _ (hB.no _ _ _ _ (kn_no (by decide))), T_bits_Reader_Bit]
  obtain ⟨S', e, h1, h2⟩ := u_ok hB k h 1 (by omega) (by omega)
  have hs := sb_lt s a
  have w1 : IntKind.wrap .u8 ((num s a 1 : Nat) : Int) = ((sb s a : Nat) : Int) := by
    simp only [num, Nat.mul_zero, Nat.zero_add, Nat.add_zero]; exact wb _ (by omega)
  rw [show (((1 : Nat)) : Int) = 1 from rfl] at e
  exact ⟨S', by simp only [eql_ptr37, eql_nilp37, eql_ptr42, eql_nilp42, eql_ptr58, eql_nilp58, eql_ptr277, eql_nilp277, eql_nils32, eql_is32, eql_hs32, eql_nils33, eql_is33, eql_hs33, eql_nils34, eql_is34, eql_hs34, len_nils26, len_is26, len_hs26, len_nils32, len_is32, len_hs32, len_nils33, len_is33, len_hs33, len_nils34, len_is34, len_hs34, len_nils61, len_is61, len_hs61, len_nils124, len_is124, len_hs124, len_nils156, len_is156, len_hs156, len_nils245, len_is245, len_hs245, bO_s, gB_t, asBool_b, asInt_i, asAgg_a, asTup_a, asStr_s, asCons_c, asNil_n, nthA_0, nthA_s, aggCells_a, addV_p, addV_i, seeV_p, seeV_i, same_nil, same_1, same_2, tr_v, decide_true, decide_false, Bool.false_eq_true, if_false, if_true, Bool.not_true, Bool.not_false, Bool.and_true, Bool.true_and, Bool.and_self, List.getElem?_cons_zero, List.getElem?_cons_succ, Nat.zero_add, Nat.add_zero, beq_self_eq_true, bne_self_eq_false, Int.reduceBNe, Int.reduceBEq, Int.reduceLT, Int.reduceGT, Int.reduceLE, Int.reduceGE, Nat.reduceAdd, Nat.reduceMul, Nat.reduceLeDiff, e, w1], h1, h2⟩
theorem bit_short (hL : a = 8 * s.size) : Cn B (k + 3) f_bits_Reader_Bit 0 [.ptr p 0] S = some (.tup [.int .u8 0, .int .i64 5], S) := by
  rw [c_bits_Reader_Bit _ _ _ _ (hB.no _ _ _ _ (kn_no (by decide))), T_bits_Reader_Bit]
  have e := u_short hB k h 1 (by omega) (by omega)
  rw [show (((1 : Nat)) : Int) = 1 from rfl] at e
  have w1 : IntKind.wrap .u8 0 = 0 := wb _ (by omega)
  simp only [eql_ptr37, eql_nilp37, eql_ptr42, eql_nilp42, eql_ptr58, eql_nilp58, eql_ptr277, eql_nilp277, eql_nils32, eql_is32, eql_hs32, eql_nils33, eql_is33, eql_hs33, eql_nils34, eql_is34, eql_hs34, len_nils26, len_is26, len_hs26, len_nils32, len_is32, len_hs32, len_nils33, len_is33, len_hs33, len_nils34, len_is34, len_hs34, len_nils61, len_is61, len_hs61, len_nils124, len_is124, len_hs124, len_nils156, len_is156, len_hs156, len_nils245, len_is245, len_hs245, bO_s, gB_t, asBool_b, asInt_i, asAgg_a, asTup_a, asStr_s, asCons_c, asNil_n, nthA_0, nthA_s, aggCells_a, addV_p, addV_i, seeV_p, seeV_i, same_nil, same_1, same_2, tr_v, decide_true, decide_false, Bool.false_eq_true, if_false, if_true, Bool.not_true, Bool.not_false, Bool.and_true, Bool.true_and, Bool.and_self, List.getElem?_cons_zero, List.getElem?_cons_succ, Nat.zero_add, Nat.add_zero, beq_self_eq_true, bne_self_eq_false, Int.reduceBNe, Int.reduceBEq, Int.reduceLT, Int.reduceGT, Int.reduceLE, Int.reduceGE, Nat.reduceAdd, Nat.reduceMul, Nat.reduceLeDiff, e, w1]
theorem rcopy_c : ∃ S', Cn B (k + 1) f_bits_Reader_Copy 0 [.ptr p 0] S = some (.ptr S.next 0, S') ∧ Rdr S' S.next s a ∧ Fr S S' [] := by
  rw [c_bits_Reader_Copy _ _ _ _ (hB.no _ _ _ _ (kn_no (by decide))), T_bits_Reader_Copy]
  have t2 : ∀ x y : AV, List.take 2 (List.drop 0 [x, y]) = [x, y] := fun _ _ => rfl
  have hp : ∀ c : List AV, c.length = 2 → ∀ x y : AV, putV (.ptr S.next 0) [x, y] (S.alloc c) = some ((S.alloc c).set S.next (some [x, y])) := fun c hc x y => by
    rw [putV_p (alloc_blk S c) (by simp [hc])]
    match c, hc with
    | [_, _], _ => rfl
  refine ⟨(S.alloc [.str ByteArray.empty, .int .i64 0]).set S.next (some [.str s, .int .i64 (a : Int)]), ?_, ⟨set_blk _ _ _, by rw [set_next, alloc_next]; omega, h.sz, h.le⟩, (Fr.alloc S _ _).set (.inr (Nat.le_refl _)) _⟩
  simp only [eql_ptr37, eql_nilp37, eql_ptr42, eql_nilp42, eql_ptr58, eql_nilp58, eql_ptr277, eql_nilp277, eql_nils32, eql_is32, eql_hs32, eql_nils33, eql_is33, eql_hs33, eql_nils34, eql_is34, eql_hs34, len_nils26, len_is26, len_hs26, len_nils32, len_is32, len_hs32, len_nils33, len_is33, len_hs33, len_nils34, len_is34, len_hs34, len_nils61, len_is61, len_hs61, len_nils124, len_is124, len_hs124, len_nils156, len_is156, len_hs156, len_nils245, len_is245, len_hs245, bO_s, gB_t, asBool_b, asInt_i, asAgg_a, asTup_a, asStr_s, asCons_c, asNil_n, nthA_0, nthA_s, aggCells_a, addV_p, addV_i, seeV_p, seeV_i, same_nil, same_1, same_2, tr_v, decide_true, decide_false, Bool.false_eq_true, if_false, if_true, Bool.not_true, Bool.not_false, Bool.and_true, Bool.true_and, Bool.and_self, List.getElem?_cons_zero, List.getElem?_cons_succ, Nat.zero_add, Nat.add_zero, beq_self_eq_true, bne_self_eq_false, Int.reduceBNe, Int.reduceBEq, Int.reduceLT, Int.reduceGT, Int.reduceLE, Int.reduceGE, Nat.reduceAdd, Nat.reduceMul, Nat.reduceLeDiff, h.blk, t2, hp [.str ByteArray.empty, .int .i64 0] rfl, List.length_cons, List.length_nil, List.all_cons, List.all_nil, cell, Bool.and_true, Bool.and_self]
end

-- how many zeros are before the next 1
def lead (s : ByteArray) : Nat → Nat → Except Int Nat
  | 0, _ => .error 4
  | f + 1, a => if 8 * s.size ≤ a then .error 5 else if sb s a = 1 then .ok 0 else (lead s f (a + 1)).map (· + 1)
theorem lead_zero (s : ByteArray) (a : Nat) : lead s 0 a = .error 4 := rfl
theorem lead_succ (s : ByteArray) (f a : Nat) : lead s (f + 1) a = if 8 * s.size ≤ a then .error 5 else if sb s a = 1 then .ok 0 else (lead s f (a + 1)).map (· + 1) := rfl
theorem map_map' (x : Except Int Nat) (i : Nat) : (x.map (· + 1)).map (· + i) = x.map (· + (i + 1)) := by
  cases x with
  | error e => rfl
  | ok v => simp only [Except.map]; congr 1; omega
theorem lead_ok {s : ByteArray} : ∀ {f a z : Nat}, lead s f a = .ok z → z < f ∧ a + z + 1 ≤ 8 * s.size ∧ num s a (z + 1) = 1
  | 0, a, z, h => by cases h
  | f + 1, a, z, h => by
    unfold lead at h
    split at h
    · cases h
    · split at h
      · rename_i h1 h2
        cases h
        exact ⟨by omega, by omega, by simp [num, h2]⟩
      · rename_i h1 h2
        cases hl : lead s f (a + 1) with
        | error e => rw [hl] at h; cases h
        | ok w =>
          rw [hl] at h
          simp only [Except.map, Except.ok.injEq] at h
          subst h
          obtain ⟨h3, h4, h5⟩ := lead_ok hl
          have := sb_lt s a
          have h6 : sb s a = 0 := by omega
          exact ⟨by omega, by omega, by rw [num_succ, h6, h5]; omega⟩
def encLen : Except Int Nat → AV
  | .ok z => .tup [.int .i64 ((2 * z + 1 : Nat) : Int), .int .i64 0]
  | .error e => .tup [.int .i64 0, .int .i64 e]
section
variable {B : CallF} (hB : Silent B) (k : Nat) {S : Heap} {p : Nat} {s : ByteArray} {a : Nat} (h : Rdr S p s a)
include hB h
theorem length_c : ∃ S', Cn B (k + 4) f_golomb_length 0 [.ptr p 0] S = some (encLen (lead s 32 a), S') ∧ Fr S S' [] := by
  rw [c_golomb_length _ _ _ _ (hB.no _ _ _ _ (kn_no (by decide))), T_golomb_length]
  obtain ⟨S1, e1, h1, f1⟩ := rcopy_c hB (k + 2) h
  simp only [eql_ptr37, eql_nilp37, eql_ptr42, eql_nilp42, eql_ptr58, eql_nilp58, eql_ptr277, eql_nilp277, eql_nils32, eql_is32, eql_hs32, eql_nils33, eql_is33, eql_hs33, eql_nils34, eql_is34, eql_hs34, len_nils26, len_is26, len_hs26, len_nils32, len_is32, len_hs32, len_nils33, len_is33, len_hs33, len_nils34, len_is34, len_hs34, len_nils61, len_is61, len_hs61, len_nils124, len_is124, len_hs124, len_nils156, len_is156, len_hs156, len_nils245, len_is245, len_hs245, bO_s, gB_t, asBool_b, asInt_i, asAgg_a, asTup_a, asStr_s, asCons_c, asNil_n, nthA_0, nthA_s, aggCells_a, addV_p, addV_i, seeV_p, seeV_i, same_nil, same_1, same_2, tr_v, decide_true, decide_false, Bool.false_eq_true, if_false, if_true, Bool.not_true, Bool.not_false, Bool.and_true, Bool.true_and, Bool.and_self, List.getElem?_cons_zero, List.getElem?_cons_succ, Nat.zero_add, Nat.add_zero, beq_self_eq_true, bne_self_eq_false, Int.reduceBNe, Int.reduceBEq, Int.reduceLT, Int.reduceGT, Int.reduceLE, Int.reduceGE, Nat.reduceAdd, Nat.reduceMul, Nat.reduceLeDiff, e1]
  refine loop_meas (fun o => ∃ S', o = some (encLen (lead s 32 a), S') ∧ Fr S S' [])
    (fun m st => ∃ i T, i + m = 32 ∧ i ≤ 31 ∧ st = ([.ptr S.next 0, .int .i64 (i : Int)], T) ∧ Rdr T S.next s (a + i) ∧ Fr S T [] ∧ lead s 32 a = (lead s m (a + i)).map (· + i)) 32 ⟨0, S1, by omega, by omega, rfl, h1, f1, ?_⟩ ?_
  · cases lead s 32 (a + 0) <;> rfl
  rintro m st ⟨i, T, hi, hi', rfl, hT, hF, hl⟩
  obtain ⟨m, rfl⟩ : ∃ m', m = m' + 1 := ⟨m - 1, by omega⟩
  rw [lead_succ s m (a + i)] at hl
  have hle := hT.le
  by_cases hs : 8 * s.size ≤ a + i
  · rw [if_pos hs] at hl
    have e2 := bit_short hB k hT (by omega)
    refine .inl ⟨(1, [.int .i64 0, .int .i64 5], T), by simp only [eql_ptr37, eql_nilp37, eql_ptr42, eql_nilp42, eql_ptr58, eql_nilp58, eql_ptr277, eql_nilp277, eql_nils32, eql_is32, eql_hs32, eql_nils33, eql_is33, eql_hs33, eql_nils34, eql_is34, eql_hs34, len_nils26, len_is26, len_hs26, len_nils32, len_is32, len_hs32, len_nils33, len_is33, len_hs33, len_nils34, len_is34, len_hs34, len_nils61, len_is61, len_hs61, len_nils124, len_is124, len_hs124, len_nils156, len_is156, len_hs156, len_nils245, len_is245, len_hs245, bO_s, gB_t, asBool_b, asInt_i, asAgg_a, asTup_a, asStr_s, asCons_c, asNil_n, nthA_0, nthA_s, aggCells_a, addV_p, addV_i, seeV_p, seeV_i, same_nil, same_1, same_2, tr_v, decide_true, decide_false, Bool.false_eq_true, if_false, if_true, Bool.not_true, Bool.not_false, Bool.and_true, Bool.true_and, Bool.and_self, List.getElem?_cons_zero, List.getElem?_cons_succ, Nat.zero_add, Nat.add_zero, beq_self_eq_true, bne_self_eq_false, Int.reduceBNe, Int.reduceBEq, Int.reduceLT, Int.reduceGT, Int.reduceLE, Int.reduceGE, Nat.reduceAdd, Nat.reduceMul, Nat.reduceLeDiff, e2], T, by simp only [eql_ptr37, eql_nilp37, eql_ptr42, eql_nilp42, eql_ptr58, eql_nilp58, eql_ptr277, eql_nilp277, eql_nils32, eql_is32, eql_hs32, eql_nils33, eql_is33, eql_hs33, eql_nils34, eql_is34, eql_hs34, len_nils26, len_is26, len_hs26, len_nils32, len_is32, len_hs32, len_nils33, len_is33, len_hs33, len_nils34, len_is34, len_hs34, len_nils61, len_is61, len_hs61, len_nils124, len_is124, len_hs124, len_nils156, len_is156, len_hs156, len_nils245, len_is245, len_hs245, bO_s, gB_t, asBool_b, asInt_i, asAgg_a, asTup_a, asStr_s, asCons_c, asNil_n, nthA_0, nthA_s, aggCells_a, addV_p, addV_i, seeV_p, seeV_i, same_nil, same_1, same_2, tr_v, decide_true, decide_false, Bool.false_eq_true, if_false, if_true, Bool.not_true, Bool.not_false, Bool.and_true, Bool.true_and, Bool.and_self, List.getElem?_cons_zero, List.getElem?_cons_succ, Nat.zero_add, Nat.add_zero, beq_self_eq_true, bne_self_eq_false, Int.reduceBNe, Int.reduceBEq, Int.reduceLT, Int.reduceGT, Int.reduceLE, Int.reduceGE, Nat.reduceAdd, Nat.reduceMul, Nat.reduceLeDiff, sel, hl, Except.map, encLen], hF⟩
  · rw [if_neg hs] at hl
    obtain ⟨T', e2, h2, f2⟩ := bit_ok hB k hT (by omega)
    have hF' := hF.trans f2 (fun j hj => by simp at hj; omega)
    by_cases hb : sb s (a + i) = 1
    · rw [if_pos hb] at hl
      have w1 : IntKind.wrap .i64 (2 * (i : Int)) = 2 * i := wr _ (by omega)
      have w2 : IntKind.wrap .i64 (2 * (i : Int) + 1) = ((2 * i + 1 : Nat) : Int) := by rw [wr _ (by omega)]; omega
      refine .inl ⟨(0, [.int .i64 (i : Int)], T'), by simp only [eql_ptr37, eql_nilp37, eql_ptr42, eql_nilp42, eql_ptr58, eql_nilp58, eql_ptr277, eql_nilp277, eql_nils32, eql_is32, eql_hs32, eql_nils33, eql_is33, eql_hs33, eql_nils34, eql_is34, eql_hs34, len_nils26, len_is26, len_hs26, len_nils32, len_is32, len_hs32, len_nils33, len_is33, len_hs33, len_nils34, len_is34, len_hs34, len_nils61, len_is61, len_hs61, len_nils124, len_is124, len_hs124, len_nils156, len_is156, len_hs156, len_nils245, len_is245, len_hs245, bO_s, gB_t, asBool_b, asInt_i, asAgg_a, asTup_a, asStr_s, asCons_c, asNil_n, nthA_0, nthA_s, aggCells_a, addV_p, addV_i, seeV_p, seeV_i, same_nil, same_1, same_2, tr_v, decide_true, decide_false, Bool.false_eq_true, if_false, if_true, Bool.not_true, Bool.not_false, Bool.and_true, Bool.true_and, Bool.and_self, List.getElem?_cons_zero, List.getElem?_cons_succ, Nat.zero_add, Nat.add_zero, beq_self_eq_true, bne_self_eq_false, Int.reduceBNe, Int.reduceBEq, Int.reduceLT, Int.reduceGT, Int.reduceLE, Int.reduceGE, Nat.reduceAdd, Nat.reduceMul, Nat.reduceLeDiff, e2, hb, Int.natCast_one], T', by simp only [eql_ptr37, eql_nilp37, eql_ptr42, eql_nilp42, eql_ptr58, eql_nilp58, eql_ptr277, eql_nilp277, eql_nils32, eql_is32, eql_hs32, eql_nils33, eql_is33, eql_hs33, eql_nils34, eql_is34, eql_hs34, len_nils26, len_is26, len_hs26, len_nils32, len_is32, len_hs32, len_nils33, len_is33, len_hs33, len_nils34, len_is34, len_hs34, len_nils61, len_is61, len_hs61, len_nils124, len_is124, len_hs124, len_nils156, len_is156, len_hs156, len_nils245, len_is245, len_hs245, bO_s, gB_t, asBool_b, asInt_i, asAgg_a, asTup_a, asStr_s, asCons_c, asNil_n, nthA_0, nthA_s, aggCells_a, addV_p, addV_i, seeV_p, seeV_i, same_nil, same_1, same_2, tr_v, decide_true, decide_false, Bool.false_eq_true, if_false, if_true, Bool.not_true, Bool.not_false, Bool.and_true, Bool.true_and, Bool.and_self, List.getElem?_cons_zero, List.getElem?_cons_succ, Nat.zero_add, Nat.add_zero, beq_self_eq_true, bne_self_eq_false, Int.reduceBNe, Int.reduceBEq, Int.reduceLT, Int.reduceGT, Int.reduceLE, Int.reduceGE, Nat.reduceAdd, Nat.reduceMul, Nat.reduceLeDiff, sel, hl, Except.map, encLen, w1, w2], hF'⟩
    · rw [if_neg hb, map_map'] at hl
      have hb0 : sb s (a + i) = 0 := by have := sb_lt s (a + i); omega
      have w1 : IntKind.wrap .i64 ((i : Int) + 1) = ((i + 1 : Nat) : Int) := by rw [wr _ (by omega)]; omega
      by_cases hm : m = 0
      · subst hm
        have hz : lead s 0 (a + i + 1) = .error 4 := rfl
        have c1 : ((i + 1 : Nat) : Int) > 31 := by omega
        refine .inl ⟨(1, [.int .i64 0, .int .i64 4], T'), by simp only [eql_ptr37, eql_nilp37, eql_ptr42, eql_nilp42, eql_ptr58, eql_nilp58, eql_ptr277, eql_nilp277, eql_nils32, eql_is32, eql_hs32, eql_nils33, eql_is33, eql_hs33, eql_nils34, eql_is34, eql_hs34, len_nils26, len_is26, len_hs26, len_nils32, len_is32, len_hs32, len_nils33, len_is33, len_hs33, len_nils34, len_is34, len_hs34, len_nils61, len_is61, len_hs61, len_nils124, len_is124, len_hs124, len_nils156, len_is156, len_hs156, len_nils245, len_is245, len_hs245, bO_s, gB_t, asBool_b, asInt_i, asAgg_a, asTup_a, asStr_s, asCons_c, asNil_n, nthA_0, nthA_s, aggCells_a, addV_p, addV_i, seeV_p, seeV_i, same_nil, same_1, same_2, tr_v, decide_true, decide_false, Bool.false_eq_true, if_false, if_true, Bool.not_true, Bool.not_false, Bool.and_true, Bool.true_and, Bool.and_self, List.getElem?_cons_zero, List.getElem?_cons_succ, Nat.zero_add, Nat.add_zero, beq_self_eq_true, bne_self_eq_false, Int.reduceBNe, Int.reduceBEq, Int.reduceLT, Int.reduceGT, Int.reduceLE, Int.reduceGE, Nat.reduceAdd, Nat.reduceMul, Nat.reduceLeDiff, e2, hb0, w1, c1, Int.natCast_zero], T', by simp only [eql_ptr37, eql_nilp37, eql_ptr42, eql_nilp42, eql_ptr58, eql_nilp58, eql_ptr277, eql_nilp277, eql_nils32, eql_is32, eql_hs32, eql_nils33, eql_is33, eql_hs33, eql_nils34, eql_is34, eql_hs34, len_nils26, len_is26, len_hs26, len_nils32, len_is32, len_hs32, len_nils33, len_is33, len_hs33, len_nils34, len_is34, len_hs34, len_nils61, len_is61, len_hs61, len_nils124, len_is124, len_hs124, len_nils156, len_is156, len_hs156, len_nils245, len_is245, len_hs245, bO_s, gB_t, asBool_b, asInt_i, asAgg_a, asTup_a, asStr_s, asCons_c, asNil_n, nthA_0, nthA_s, aggCells_a, addV_p, addV_i, seeV_p, seeV_i, same_nil, same_1, same_2, tr_v, decide_true, decide_false, Bool.false_eq_true, if_false, if_true, Bool.not_true, Bool.not_false, Bool.and_true, Bool.true_and, Bool.and_self, List.getElem?_cons_zero, List.getElem?_cons_succ, Nat.zero_add, Nat.add_zero, beq_self_eq_true, bne_self_eq_false, Int.reduceBNe, Int.reduceBEq, Int.reduceLT, Int.reduceGT, Int.reduceLE, Int.reduceGE, Nat.reduceAdd, Nat.reduceMul, Nat.reduceLeDiff, sel, hl, hz, Except.map, encLen], hF'⟩
      · have c1 : ¬ ((i + 1 : Nat) : Int) > 31 := by omega
        refine .inr ⟨m, ([.ptr S.next 0, .int .i64 ((i + 1 : Nat) : Int)], T'), by omega, by simp only [eql_ptr37, eql_nilp37, eql_ptr42, eql_nilp42, eql_ptr58, eql_nilp58, eql_ptr277, eql_nilp277, eql_nils32, eql_is32, eql_hs32, eql_nils33, eql_is33, eql_hs33, eql_nils34, eql_is34, eql_hs34, len_nils26, len_is26, len_hs26, len_nils32, len_is32, len_hs32, len_nils33, len_is33, len_hs33, len_nils34, len_is34, len_hs34, len_nils61, len_is61, len_hs61, len_nils124, len_is124, len_hs124, len_nils156, len_is156, len_hs156, len_nils245, len_is245, len_hs245, bO_s, gB_t, asBool_b, asInt_i, asAgg_a, asTup_a, asStr_s, asCons_c, asNil_n, nthA_0, nthA_s, aggCells_a, addV_p, addV_i, seeV_p, seeV_i, same_nil, same_1, same_2, tr_v, decide_true, decide_false, Bool.false_eq_true, if_false, if_true, Bool.not_true, Bool.not_false, Bool.and_true, Bool.true_and, Bool.and_self, List.getElem?_cons_zero, List.getElem?_cons_succ, Nat.zero_add, Nat.add_zero, beq_self_eq_true, bne_self_eq_false, Int.reduceBNe, Int.reduceBEq, Int.reduceLT, Int.reduceGT, Int.reduceLE, Int.reduceGE, Nat.reduceAdd, Nat.reduceMul, Nat.reduceLeDiff, e2, hb0, w1, c1, Int.natCast_zero], i + 1, T', by omega, by omega, rfl, h2, hF', hl⟩
end
/-- A number read, and where the reader is then; or an error. -/
abbrev Rn := Except Int (Nat × Nat)
def Rn.pos (a : Nat) : Rn → Nat
  | .ok (_, a') => a'
  | .error _ => a
def encU : Rn → AV
  | .ok (v, _) => .tup [.int .u64 (v : Int), .int .i64 0]
  | .error e => .tup [.int .u64 0, .int .i64 e]
/-- What a value is that was read, or not. -/
def resUk (r : Rn) (v : AV) : Prop := match r with
  | .ok (x, _) => v = .tup [.int .u64 (x : Int), .int .i64 0]
  | .error e => ∃ x, v = .tup [.int .u64 x, .int .i64 e]
def rU (s : ByteArray) (n a : Nat) : Rn := if 8 * s.size < a + n then .error 5 else .ok (num s a n, a + n)
def rUe (s : ByteArray) (a : Nat) : Rn := match lead s 32 a with
  | .error e => .error e
  | .ok z => if 8 * s.size < a + z + 1 + z then .error 5 else .ok (2 ^ z + num s (a + z + 1) z - 1, a + z + 1 + z)
def rUk (s : ByteArray) (k a : Nat) : Rn := match rUe s a with
  | .error e => .error e
  | .ok (v, a') => if 8 * s.size < a' + k then .error 5 else .ok (v * 2 ^ k + num s a' k, a' + k)
theorem lead_err {s : ByteArray} : ∀ {f a : Nat} {e : Int}, lead s f a = .error e → e = 4 ∨ e = 5
  | 0, a, e, h => by cases h; exact .inl rfl
  | f + 1, a, e, h => by
    unfold lead at h
    split at h
    · cases h; exact .inr rfl
    · split at h
      · cases h
      · cases hl : lead s f (a + 1) with
        | error e' => rw [hl] at h; cases h; exact lead_err hl
        | ok w => rw [hl] at h; cases h
theorem rUe_ok {s : ByteArray} {a v a' : Nat} (h : rUe s a = .ok (v, a')) : a < a' ∧ a' ≤ 8 * s.size ∧ v < 4294967295 := by
  unfold rUe at h
  split at h
  · cases h
  · rename_i z hz
    obtain ⟨h1, h2, _⟩ := lead_ok hz
    split at h
    · cases h
    · cases h
      have h3 := num_lt s (a + z + 1) z
      have h4 : 2 ^ z ≤ 2 ^ 31 := Nat.pow_le_pow_right (by omega) (by omega)
      exact ⟨by omega, by omega, by omega⟩
theorem rUe_err {s : ByteArray} {a : Nat} {e : Int} (h : rUe s a = .error e) : e = 4 ∨ e = 5 := by
  unfold rUe at h
  split at h
  · rename_i e' he; cases h; exact lead_err he
  · split at h
    · cases h; exact .inr rfl
    · cases h
theorem rUk_ok {s : ByteArray} {k a v a' : Nat} (h : rUk s k a = .ok (v, a')) : a < a' ∧ a' ≤ 8 * s.size ∧ v < 4294967295 * 2 ^ k := by
  unfold rUk at h
  split at h
  · cases h
  · rename_i w b hw
    obtain ⟨h1, h2, h3⟩ := rUe_ok hw
    split at h
    · cases h
    · cases h
      have h4 := num_lt s b k
      refine ⟨by omega, by omega, ?_⟩
      have h5 : (w + 1) * 2 ^ k ≤ 4294967295 * 2 ^ k := Nat.mul_le_mul_right _ (by omega)
      rw [Nat.add_mul, Nat.one_mul] at h5
      omega
theorem rUk_err {s : ByteArray} {k a : Nat} {e : Int} (h : rUk s k a = .error e) : e = 4 ∨ e = 5 := by
  unfold rUk at h
  split at h
  · rename_i e' he; cases h; exact rUe_err he
  · split at h
    · cases h; exact .inr rfl
    · cases h
section
variable {B : CallF} (hB : Silent B) (k : Nat) {S : Heap} {p : Nat} {s : ByteArray} {a : Nat} (h : Rdr S p s a)
include hB h
theorem u_c (n : Nat) (hn : n ≤ 64) : ∃ S', Cn B (k + 2) f_bits_Reader_U 0 [.ptr p 0, .int .i64 (n : Int)] S = some (encU (rU s n a), S') ∧ Rdr S' p s ((rU s n a).pos a) ∧ Fr S S' [p] := by
  unfold rU
  by_cases hL : 8 * s.size < a + n
  · rw [if_pos hL]
    exact ⟨S, u_short hB k h n hn hL, h, Fr.refl S _⟩
  · rw [if_neg hL]
    exact u_ok hB k h n hn (by omega)
theorem ue_c : ∃ S', Cn B (k + 5) f_golomb_Ue 0 [.ptr p 0] S = some (encU (rUe s a), S') ∧ Rdr S' p s ((rUe s a).pos a) ∧ Fr S S' [p] := by
  rw [c_golomb_Ue _ _ _ _ (hB.no _ _ _ _ (kn_no (by decide))), T_golomb_Ue]
  obtain ⟨S1, e1, f1⟩ := length_c hB k h
  have h1 := h.fr f1 (by simp)
  unfold rUe
  cases hl : lead s 32 a with
  | error e =>
    rw [hl] at e1
    have he := lead_err hl
    have c1 : (e != 0) = true := by rcases he with rfl | rfl <;> rfl
    exact ⟨S1, by simp only [eql_ptr37, eql_nilp37, eql_ptr42, eql_nilp42, eql_ptr58, eql_nilp58, eql_ptr277, eql_nilp277, eql_nils32, eql_is32, eql_hs32, eql_nils33, eql_is33, eql_hs33, eql_nils34, eql_is34, eql_hs34, len_nils26, len_is26, len_hs26, len_nils32, len_is32, len_hs32, len_nils33, len_is33, len_hs33, len_nils34, len_is34, len_hs34, len_nils61, len_is61, len_hs61, len_nils124, len_is124, len_hs124, len_nils156, len_is156, len_hs156, len_nils245, len_is245, len_hs245, bO_s, gB_t, asBool_b, asInt_i, asAgg_a, asTup_a, asStr_s, asCons_c, asNil_n, nthA_0, nthA_s, aggCells_a, addV_p, addV_i, seeV_p, seeV_i, same_nil, same_1, same_2, tr_v, decide_true, decide_false, Bool.false_eq_true, if_false, if_true, Bool.not_true, Bool.not_false, Bool.and_true, Bool.true_and, Bool.and_self, List.getElem?_cons_zero, List.getElem?_cons_succ, Nat.zero_add, Nat.add_zero, beq_self_eq_true, bne_self_eq_false, Int.reduceBNe, Int.reduceBEq, Int.reduceLT, Int.reduceGT, Int.reduceLE, Int.reduceGE, Nat.reduceAdd, Nat.reduceMul, Nat.reduceLeDiff, e1, encLen, c1, encU], h1, f1.nil⟩
  | ok z =>
    rw [hl] at e1
    obtain ⟨l1, l2, l3⟩ := lead_ok hl
    simp only
    by_cases hL : 8 * s.size < a + z + 1 + z
    · rw [if_pos hL]
      have e2 := u_short hB (k + 2) h1 (2 * z + 1) (by omega) (by omega)
      exact ⟨S1, by simp only [eql_ptr37, eql_nilp37, eql_ptr42, eql_nilp42, eql_ptr58, eql_nilp58, eql_ptr277, eql_nilp277, eql_nils32, eql_is32, eql_hs32, eql_nils33, eql_is33, eql_hs33, eql_nils34, eql_is34, eql_hs34, len_nils26, len_is26, len_hs26, len_nils32, len_is32, len_hs32, len_nils33, len_is33, len_hs33, len_nils34, len_is34, len_hs34, len_nils61, len_is61, len_hs61, len_nils124, len_is124, len_hs124, len_nils156, len_is156, len_hs156, len_nils245, len_is245, len_hs245, bO_s, gB_t, asBool_b, asInt_i, asAgg_a, asTup_a, asStr_s, asCons_c, asNil_n, nthA_0, nthA_s, aggCells_a, addV_p, addV_i, seeV_p, seeV_i, same_nil, same_1, same_2, tr_v, decide_true, decide_false, Bool.false_eq_true, if_false, if_true, Bool.not_true, Bool.not_false, Bool.and_true, Bool.true_and, Bool.and_self, List.getElem?_cons_zero, List.getElem?_cons_succ, Nat.zero_add, Nat.add_zero, beq_self_eq_true, bne_self_eq_false, Int.reduceBNe, Int.reduceBEq, Int.reduceLT, Int.reduceGT, Int.reduceLE, Int.reduceGE, Nat.reduceAdd, Nat.reduceMul, Nat.reduceLeDiff, e1, encLen, e2, encU], h1, f1.nil⟩
    · rw [if_neg hL]
      obtain ⟨S2, e2, h2, f2⟩ := u_ok hB (k + 2) h1 (2 * z + 1) (by omega) (by omega)
      have hn : num s a (2 * z + 1) = 2 ^ z + num s (a + z + 1) z := by
        rw [show 2 * z + 1 = z + 1 + z by omega, num_add, l3, show a + (z + 1) = a + z + 1 by omega]; omega
      have h3 := num_lt s (a + z + 1) z
      have h4 : 2 ^ z ≤ 2 ^ 31 := Nat.pow_le_pow_right (by omega) (by omega)
      have h5 : 0 < 2 ^ z := Nat.pow_pos (by omega)
      have w1 : IntKind.wrap .u64 (((2 ^ z + num s (a + z + 1) z : Nat) : Int) - 1) = ((2 ^ z + num s (a + z + 1) z - 1 : Nat) : Int) := by rw [wu _ (by omega)]; omega
      rw [hn] at e2
      refine ⟨S2, by simp only [eql_ptr37, eql_nilp37, eql_ptr42, eql_nilp42, eql_ptr58, eql_nilp58, eql_ptr277, eql_nilp277, eql_nils32, eql_is32, eql_hs32, eql_nils33, eql_is33, eql_hs33, eql_nils34, eql_is34, eql_hs34, len_nils26, len_is26, len_hs26, len_nils32, len_is32, len_hs32, len_nils33, len_is33, len_hs33, len_nils34, len_is34, len_hs34, len_nils61, len_is61, len_hs61, len_nils124, len_is124, len_hs124, len_nils156, len_is156, len_hs156, len_nils245, len_is245, len_hs245, bO_s, gB_t, asBool_b, asInt_i, asAgg_a, asTup_a, asStr_s, asCons_c, asNil_n, nthA_0, nthA_s, aggCells_a, addV_p, addV_i, seeV_p, seeV_i, same_nil, same_1, same_2, tr_v, decide_true, decide_false, Bool.false_eq_true, if_false, if_true, Bool.not_true, Bool.not_false, Bool.and_true, Bool.true_and, Bool.and_self, List.getElem?_cons_zero, List.getElem?_cons_succ, Nat.zero_add, Nat.add_zero, beq_self_eq_true, bne_self_eq_false, Int.reduceBNe, Int.reduceBEq, Int.reduceLT, Int.reduceGT, Int.reduceLE, Int.reduceGE, Nat.reduceAdd, Nat.reduceMul, Nat.reduceLeDiff, e1, encLen, e2, encU, w1], ?_, f1.nil.trans f2 (fun j hj => .inl hj)⟩
      rw [show a + (2 * z + 1) = a + z + 1 + z by omega] at h2
      exact h2
theorem uk1_c {q : Nat} {n : Nat} (hn : n ≤ 8) (hq : S.blk q = some [.int .i64 (n : Int)]) (hlt : q < S.next) (hne : q ≠ p) :
    ∃ S' v, Cn B (k + 6) f_golomb_Uk_1 0 [.ptr p 0, .ptr q 0] S = some (v, S') ∧ resUk (rUk s n a) v ∧ (∀ w a', rUk s n a = .ok (w, a') → Rdr S' p s a') ∧ Fr S S' [p] := by
  rw [c_golomb_Uk_1 _ _ _ _ _ (hB.no _ _ _ _ (kn_no (by decide))), T_golomb_Uk_1]
  obtain ⟨S1, e1, h1, f1⟩ := ue_c hB k h
  have hq1 := (f1.get hlt (by simp [hne])).trans hq
  unfold rUk
  cases hl : rUe s a with
  | error e =>
    rw [hl] at e1 h1
    have c1 : (e != 0) = true := by rcases rUe_err hl with rfl | rfl <;> rfl
    exact ⟨S1, .tup [.int .u64 0, .int .i64 e], by simp only [eql_ptr37, eql_nilp37, eql_ptr42, eql_nilp42, eql_ptr58, eql_nilp58, eql_ptr277, eql_nilp277, eql_nils32, eql_is32, eql_hs32, eql_nils33, eql_is33, eql_hs33, eql_nils34, eql_is34, eql_hs34, len_nils26, len_is26, len_hs26, len_nils32, len_is32, len_hs32, len_nils33, len_is33, len_hs33, len_nils34, len_is34, len_hs34, len_nils61, len_is61, len_hs61, len_nils124, len_is124, len_hs124, len_nils156, len_is156, len_hs156, len_nils245, len_is245, len_hs245, bO_s, gB_t, asBool_b, asInt_i, asAgg_a, asTup_a, asStr_s, asCons_c, asNil_n, nthA_0, nthA_s, aggCells_a, addV_p, addV_i, seeV_p, seeV_i, same_nil, same_1, same_2, tr_v, decide_true, decide_false, Bool.false_eq_true, if_false, if_true, Bool.not_true, Bool.not_false, Bool.and_true, Bool.true_and, Bool.and_self, List.getElem?_cons_zero, List.getElem?_cons_succ, Nat.zero_add, Nat.add_zero, beq_self_eq_true, bne_self_eq_false, Int.reduceBNe, Int.reduceBEq, Int.reduceLT, Int.reduceGT, Int.reduceLE, Int.reduceGE, Nat.reduceAdd, Nat.reduceMul, Nat.reduceLeDiff, e1, c1, encU], ⟨0, rfl⟩, (fun v a' he => by cases he), f1⟩
  | ok x =>
    obtain ⟨v, b⟩ := x
    rw [hl] at e1 h1
    simp only [Rn.pos] at h1
    obtain ⟨l1, l2, l3⟩ := rUe_ok hl
    have h5 : 2 ^ n ≤ 2 ^ 8 := Nat.pow_le_pow_right (by omega) hn
    have h6 : v * 2 ^ n ≤ 4294967295 * 256 := Nat.mul_le_mul (by omega) (by omega)
    have hsh := shl64 v n (by omega) (by omega)
    simp only
    by_cases hL : 8 * s.size < b + n
    · rw [if_pos hL]
      have e2 := u_short hB (k + 3) h1 n (by omega) hL
      exact ⟨S1, .tup [.int .u64 (orI .u64 ((v * 2 ^ n : Nat) : Int) 0), .int .i64 5], by simp only [eql_ptr37, eql_nilp37, eql_ptr42, eql_nilp42, eql_ptr58, eql_nilp58, eql_ptr277, eql_nilp277, eql_nils32, eql_is32, eql_hs32, eql_nils33, eql_is33, eql_hs33, eql_nils34, eql_is34, eql_hs34, len_nils26, len_is26, len_hs26, len_nils32, len_is32, len_hs32, len_nils33, len_is33, len_hs33, len_nils34, len_is34, len_hs34, len_nils61, len_is61, len_hs61, len_nils124, len_is124, len_hs124, len_nils156, len_is156, len_hs156, len_nils245, len_is245, len_hs245, bO_s, gB_t, asBool_b, asInt_i, asAgg_a, asTup_a, asStr_s, asCons_c, asNil_n, nthA_0, nthA_s, aggCells_a, addV_p, addV_i, seeV_p, seeV_i, same_nil, same_1, same_2, tr_v, decide_true, decide_false, Bool.false_eq_true, if_false, if_true, Bool.not_true, Bool.not_false, Bool.and_true, Bool.true_and, Bool.and_self, List.getElem?_cons_zero, List.getElem?_cons_succ, Nat.zero_add, Nat.add_zero, beq_self_eq_true, bne_self_eq_false, Int.reduceBNe, Int.reduceBEq, Int.reduceLT, Int.reduceGT, Int.reduceLE, Int.reduceGE, Nat.reduceAdd, Nat.reduceMul, Nat.reduceLeDiff, e1, encU, hq1, e2, aShl, hsh], ⟨_, rfl⟩, (fun v a' he => by cases he), f1⟩
    · rw [if_neg hL]
      obtain ⟨S2, e2, h2, f2⟩ := u_ok hB (k + 3) h1 n (by omega) (by omega)
      have hq2 := (f2.get (Nat.lt_of_lt_of_le hlt f1.1) (by simp [hne])).trans hq1
      have h3 := num_lt s b n
      have ho : orI .u64 ((v * 2 ^ n : Nat) : Int) ((num s b n : Nat) : Int) = ((v * 2 ^ n + num s b n : Nat) : Int) := by
        rw [or64 _ _ (by omega) (by omega), or_mul _ _ _ h3]
      exact ⟨S2, _, by simp only [eql_ptr37, eql_nilp37, eql_ptr42, eql_nilp42, eql_ptr58, eql_nilp58, eql_ptr277, eql_nilp277, eql_nils32, eql_is32, eql_hs32, eql_nils33, eql_is33, eql_hs33, eql_nils34, eql_is34, eql_hs34, len_nils26, len_is26, len_hs26, len_nils32, len_is32, len_hs32, len_nils33, len_is33, len_hs33, len_nils34, len_is34, len_hs34, len_nils61, len_is61, len_hs61, len_nils124, len_is124, len_hs124, len_nils156, len_is156, len_hs156, len_nils245, len_is245, len_hs245, bO_s, gB_t, asBool_b, asInt_i, asAgg_a, asTup_a, asStr_s, asCons_c, asNil_n, nthA_0, nthA_s, aggCells_a, addV_p, addV_i, seeV_p, seeV_i, same_nil, same_1, same_2, tr_v, decide_true, decide_false, Bool.false_eq_true, if_false, if_true, Bool.not_true, Bool.not_false, Bool.and_true, Bool.true_and, Bool.and_self, List.getElem?_cons_zero, List.getElem?_cons_succ, Nat.zero_add, Nat.add_zero, beq_self_eq_true, bne_self_eq_false, Int.reduceBNe, Int.reduceBEq, Int.reduceLT, Int.reduceGT, Int.reduceLE, Int.reduceGE, Nat.reduceAdd, Nat.reduceMul, Nat.reduceLeDiff, e1, encU, hq1, e2, hq2, aShl, hsh, ho], rfl, (fun v' a' he => by cases he; exact h2), f1.trans f2 (fun j hj => .inl hj)⟩
theorem uk_c {n : Nat} (hn : n ≤ 8) : ∃ S', Cn B (k + 7) f_golomb_Uk 0 [.ptr p 0, .int .i64 (n : Int)] S = some (encU (rUk s n a), S') ∧ Rdr S' p s ((rUk s n a).pos a) ∧ Fr S S' [p] := by
  rw [c_golomb_Uk _ _ _ _ _ (hB.no _ _ _ _ (kn_no (by decide))), T_golomb_Uk]
  have lt := h.lt
  have c1 : ¬ ((n : Int) < 0) := by omega
  have c2 : ¬ ((n : Int) > 8) := by omega
  obtain ⟨S2, hS2⟩ : ∃ S2, S2 = S.alloc [.int .i64 (n : Int)] := ⟨_, rfl⟩
  have f2 : Fr S S2 [] := by rw [hS2]; exact Fr.alloc _ _ _
  have n2 : S2.next = S.next + 1 := by rw [hS2]; rfl
  have b2 : S2.blk S.next = some [.int .i64 (n : Int)] := by rw [hS2]; exact alloc_blk _ _
  obtain ⟨S3, e3, h3, f3⟩ := rcopy_c hB (k + 5) (h.fr f2 (by simp))
  have b3 : S3.blk S.next = some [.int .i64 (n : Int)] := (f3.get (by omega) (by simp)).trans b2
  have m3 := f3.1
  obtain ⟨S4, v4, e4, r4, h4, f4⟩ := uk1_c hB k h3 (q := S.next) hn b3 (by omega) (by omega)
  have b4 : S4.blk S.next = some [.int .i64 (n : Int)] := (f4.get (by omega) (by simp; omega)).trans b3
  have m4 := f4.1
  have f24 : Fr S S4 [] := (f2.trans f3 (fun j hj => .inl hj)).trans f4 (fun j hj => by simp at hj; omega)
  have h4' := h.fr f24 (by simp)
  obtain ⟨S5, v5, e5, r5, h5, f5⟩ := uk1_c hB k h4' (q := S.next) hn b4 (by omega) (by omega)
  cases hl : rUk s n a with
  | error e =>
    rw [hl] at r4
    obtain ⟨x, rfl⟩ := r4
    have c3 : (e != 0) = true := by rcases rUk_err hl with rfl | rfl <;> rfl
    exact ⟨S4, by simp only [eql_ptr37, eql_nilp37, eql_ptr42, eql_nilp42, eql_ptr58, eql_nilp58, eql_ptr277, eql_nilp277, eql_nils32, eql_is32, eql_hs32, eql_nils33, eql_is33, eql_hs33, eql_nils34, eql_is34, eql_hs34, len_nils26, len_is26, len_hs26, len_nils32, len_is32, len_hs32, len_nils33, len_is33, len_hs33, len_nils34, len_is34, len_hs34, len_nils61, len_is61, len_hs61, len_nils124, len_is124, len_hs124, len_nils156, len_is156, len_hs156, len_nils245, len_is245, len_hs245, bO_s, gB_t, asBool_b, asInt_i, asAgg_a, asTup_a, asStr_s, asCons_c, asNil_n, nthA_0, nthA_s, aggCells_a, addV_p, addV_i, seeV_p, seeV_i, same_nil, same_1, same_2, tr_v, decide_true, decide_false, Bool.false_eq_true, if_false, if_true, Bool.not_true, Bool.not_false, Bool.and_true, Bool.true_and, Bool.and_self, List.getElem?_cons_zero, List.getElem?_cons_succ, Nat.zero_add, Nat.add_zero, beq_self_eq_true, bne_self_eq_false, Int.reduceBNe, Int.reduceBEq, Int.reduceLT, Int.reduceGT, Int.reduceLE, Int.reduceGE, Nat.reduceAdd, Nat.reduceMul, Nat.reduceLeDiff, ← hS2, b2, c1, c2, e3, e4, c3, encU], h4', f24.nil⟩
  | ok x =>
    obtain ⟨w, b⟩ := x
    rw [hl] at r4 r5
    cases r4
    cases r5
    exact ⟨S5, by simp only [eql_ptr37, eql_nilp37, eql_ptr42, eql_nilp42, eql_ptr58, eql_nilp58, eql_ptr277, eql_nilp277, eql_nils32, eql_is32, eql_hs32, eql_nils33, eql_is33, eql_hs33, eql_nils34, eql_is34, eql_hs34, len_nils26, len_is26, len_hs26, len_nils32, len_is32, len_hs32, len_nils33, len_is33, len_hs33, len_nils34, len_is34, len_hs34, len_nils61, len_is61, len_hs61, len_nils124, len_is124, len_hs124, len_nils156, len_is156, len_hs156, len_nils245, len_is245, len_hs245, bO_s, gB_t, asBool_b, asInt_i, asAgg_a, asTup_a, asStr_s, asCons_c, asNil_n, nthA_0, nthA_s, aggCells_a, addV_p, addV_i, seeV_p, seeV_i, same_nil, same_1, same_2, tr_v, decide_true, decide_false, Bool.false_eq_true, if_false, if_true, Bool.not_true, Bool.not_false, Bool.and_true, Bool.true_and, Bool.and_self, List.getElem?_cons_zero, List.getElem?_cons_succ, Nat.zero_add, Nat.add_zero, beq_self_eq_true, bne_self_eq_false, Int.reduceBNe, Int.reduceBEq, Int.reduceLT, Int.reduceGT, Int.reduceLE, Int.reduceGE, Nat.reduceAdd, Nat.reduceMul, Nat.reduceLeDiff, ← hS2, b2, c1, c2, e3, e4, encU, e5], h5 _ _ hl, f24.nil.trans f5 (fun j hj => .inl hj)⟩
end
end Go.Ab.tV
