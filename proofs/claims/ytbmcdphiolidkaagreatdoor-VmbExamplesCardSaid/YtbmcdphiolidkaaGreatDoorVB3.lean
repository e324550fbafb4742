/- Writers of bits: the strings that they give; codes of numbers. No condition beyond what each lemma names. -/
import Derived.Test.YtbmcdphiolidkaaGreatDoorVB2
set_option maxRecDepth 100000
set_option linter.unusedSimpArgs false
set_option linter.unusedVariables false
set_option linter.unusedSectionVars false
namespace Go.Ab.tV
open Go Go.Proofs

def strB (l : List Nat) : ByteArray := ⟨(l.map UInt8.ofNat).toArray⟩
theorem strB_size (l : List Nat) : (strB l).size = l.length := by simp [strB, ByteArray.size]
theorem bytesOf_u8s : ∀ {l : List Nat}, (∀ x ∈ l, x < 256) → bytesOf (u8s l) = some (l.map UInt8.ofNat)
  | [], _ => rfl
  | x :: l, h => by
    have ih := bytesOf_u8s (l := l) fun y hy => h y (by simp [hy])
    show (match bytesOf (u8s l) with | some r => some (UInt8.ofNat ((x : Int).toNat) :: r) | none => none) = _
    rw [ih]; rfl
theorem b2s_hs {S : Heap} {q : Nat} {l : List Nat} (h : S.blk q = some (u8s l)) (hl : ∀ x ∈ l, x < 256) : aB2S (.hs q 0 l.length 1) S = some (strB l) := by
  simp only [aB2S, h, Nat.zero_add, u8s_len, Nat.le_refl, and_self, if_true, List.drop_zero]
  rw [List.take_of_length_le (by rw [u8s_len]; exact Nat.le_refl _), bytesOf_u8s hl]; rfl
theorem b2s_H {S : Heap} {p q : Nat} {W : List Nat} {part n : Nat} (h : WrX S p q W part n) : aB2S (if W = [] then .nils else .hs q 0 W.length 1) S = some (strB W) := by
  by_cases h0 : W = []
  · subst h0; rfl
  · rw [if_neg h0]; exact b2s_hs (h.row h0).1 h.b8
theorem strB_app (l m : List Nat) : strB l ++ strB m = strB (l ++ m) := by
  apply ByteArray.ext
  simp [strB]
theorem strB_get (l : List Nat) (i : Nat) : (strB l).data[i]? = (l[i]?).map UInt8.ofNat := by simp [strB]
/-- The bytes with zeros at the end. -/
def pad (W : List Nat) (part n : Nat) : List Nat := W ++ (if n = 0 then [] else [part * 2 ^ (8 - n) % 256])
theorem pad_lt {W : List Nat} {part n : Nat} (h : ∀ x ∈ W, x < 256) : ∀ x ∈ pad W part n, x < 256 := by
  intro x hx
  rcases List.mem_append.1 hx with hx | hx
  · exact h x hx
  · split at hx
    · simp at hx
    · rw [List.mem_singleton.1 hx]; exact Nat.mod_lt _ (by omega)
theorem hasB {s : ByteArray} : ∀ {l : List Nat} {o : Nat}, (∀ x ∈ l, x < 256) → (∀ i (h : i < l.length), s.data[o + i]? = some (UInt8.ofNat l[i])) → o + l.length ≤ s.size → Has s (8 * o) (l.flatMap (bitsN 8))
  | [], o, _, _, hs => Has.nil (by simp at hs; omega)
  | x :: l, o, hx, hd, hs => by
    simp only [List.length_cons] at hs
    rw [List.flatMap_cons, Has.app, bitsN_len]
    refine ⟨?_, ?_⟩
    · have h0 := hd 0 (by simp)
      have hx0 := hx x (by simp)
      simp only [List.getElem_cons_zero, Nat.add_zero] at h0
      have hn : num s (8 * o) 8 = x := by
        have := num_byte (s := s) (a := 8 * o) (b := UInt8.ofNat x) (by rw [Nat.mul_div_cancel_left _ (by omega)]; exact h0) 8 (by omega)
        rw [this]
        have e : (UInt8.ofNat x).toNat = x := by simp [UInt8.toNat_ofNat']; omega
        rw [e, Nat.mul_mod_right]
        simp; omega
      have := bitsN_of (s := s) (n := 8) (a := 8 * o) (by omega)
      rw [hn] at this
      exact this
    · have := hasB (s := s) (l := l) (o := o + 1) (fun y hy => hx y (by simp [hy])) (fun i h => by
        have := hd (i + 1) (by simp; omega)
        rw [show o + (i + 1) = o + 1 + i by omega] at this
        simpa using this) (by omega)
      rw [show 8 * (o + 1) = 8 * o + 8 by omega] at this
      exact this
/-- The string that begins with the bytes of a writer has its bits. -/
theorem has_pad {W : List Nat} {part n : Nat} (hW : ∀ x ∈ W, x < 256) (hn : n < 8) (hp : part < 2 ^ n) {s : ByteArray} (hd : ∀ i (h : i < (pad W part n).length), s.data[i]? = some (UInt8.ofNat (pad W part n)[i])) (hs : (pad W part n).length ≤ s.size) :
    Has s 0 (bitsW W part n) := by
  have h := hasB (s := s) (l := pad W part n) (o := 0) (pad_lt hW) (fun i h => by rw [Nat.zero_add]; exact hd i h) (by omega)
  rw [Nat.mul_zero] at h
  unfold pad at h
  unfold bitsW
  by_cases h0 : n = 0
  · subst h0
    simpa [bitsN] using h
  · rw [if_neg h0, List.flatMap_append, List.flatMap_cons, List.flatMap_nil, List.append_nil] at h
    have h1 : part * 2 ^ (8 - n) < 256 := by
      have : part * 2 ^ (8 - n) < 2 ^ n * 2 ^ (8 - n) := Nat.mul_lt_mul_of_pos_right hp (Nat.pow_pos (by omega))
      rw [← Nat.pow_add, show n + (8 - n) = 8 by omega] at this
      exact this
    have h2 : bitsN 8 (part * 2 ^ (8 - n) % 256) = bitsN n part ++ bitsN (8 - n) (part * 2 ^ (8 - n)) := by
      rw [Nat.mod_eq_of_lt h1, show bitsN 8 = bitsN (n + (8 - n)) by congr 1; omega, bitsN_add, Nat.mul_div_cancel _ (Nat.pow_pos (by omega))]
    rw [h2, ← List.append_assoc, Has.app] at h
    exact h.1
/-- Bits as characters. -/
def bitC (b : Bool) : Nat := if b then 49 else 48
def bitStr (bs : List Bool) : ByteArray := strB (bs.map bitC)

section
variable {B : CallF} (hB : Silent B) (k : Nat) {S : Heap} {p q : Nat} {bs : List Bool}
include hB
theorem write_c : ∃ S', Cn B (k + 1) f_bits_Write 0 [] S = some (.ptr S.next 0, S') ∧ Wr S' S.next S.next [] ∧ Fr S S' [] := by
  rw [c_bits_Write _ _ _ (hB.no _ _ _ _ (kn_no (by decide))), T_bits_Write]
  exact ⟨S.alloc [.nils, .int .u8 0, .int .i64 0], by simp only [eql_ptr37, eql_nilp37, eql_ptr42, eql_nilp42, eql_ptr58, eql_nilp58, eql_ptr277, eql_nilp277, eql_nils32, eql_is32, eql_hs32, eql_nils33, eql_is33, eql_hs33, eql_nils34, eql_is34, eql_hs34, len_nils26, len_is26, len_hs26, len_nils32, len_is32, len_hs32, len_nils33, len_is33, len_hs33, len_nils34, len_is34, len_hs34, len_nils61, len_is61, len_hs61, len_nils124, len_is124, len_hs124, len_nils156, len_is156, len_hs156, len_nils245, len_is245, len_hs245, bO_s, gB_t, asBool_b, asInt_i, asAgg_a, asTup_a, asStr_s, asCons_c, asNil_n, nthA_0, nthA_s, aggCells_a, addV_p, addV_i, seeV_p, seeV_i, same_nil, same_1, same_2, tr_v, decide_true, decide_false, Bool.false_eq_true, if_false, if_true, Bool.not_true, Bool.not_false, Bool.and_true, Bool.true_and, Bool.and_self, List.getElem?_cons_zero, List.getElem?_cons_succ, Nat.zero_add, Nat.add_zero, beq_self_eq_true, bne_self_eq_false, Int.reduceBNe, Int.reduceBEq, Int.reduceLT, Int.reduceGT, Int.reduceLE, Int.reduceGE, Nat.reduceAdd, Nat.reduceMul, Nat.reduceLeDiff], ⟨[], 0, 0, ⟨alloc_blk _ _, fun h => absurd rfl h, fun _ => rfl, Nat.lt_succ_self _, by omega, by omega, by simp⟩, rfl⟩, Fr.alloc _ _ _⟩
theorem wlen_c (h : Wr S p q bs) (hb : bs.length ≤ 4000000000) : Cn B (k + 1) f_bits_Writer_Len 0 [.ptr p 0] S = some (.int .i64 (bs.length : Int), S) := by
  obtain ⟨W, part, n, hX, rfl⟩ := h
  rw [bitsW_len] at hb ⊢
  rw [c_bits_Writer_Len _ _ _ _ (hB.no _ _ _ _ (kn_no (by decide))), T_bits_Writer_Len]
  have w1 : IntKind.wrap .i64 (8 * (W.length : Int)) = 8 * W.length := wr _ (by omega)
  have w2 : IntKind.wrap .i64 (8 * (W.length : Int) + n) = ((8 * W.length + n : Nat) : Int) := by rw [wr _ (by omega)]; omega
  simp only [eql_ptr37, eql_nilp37, eql_ptr42, eql_nilp42, eql_ptr58, eql_nilp58, eql_ptr277, eql_nilp277, eql_nils32, eql_is32, eql_hs32, eql_nils33, eql_is33, eql_hs33, eql_nils34, eql_is34, eql_hs34, len_nils26, len_is26, len_hs26, len_nils32, len_is32, len_hs32, len_nils33, len_is33, len_hs33, len_nils34, len_is34, len_hs34, len_nils61, len_is61, len_hs61, len_nils124, len_is124, len_hs124, len_nils156, len_is156, len_hs156, len_nils245, len_is245, len_hs245, bO_s, gB_t, asBool_b, asInt_i, asAgg_a, asTup_a, asStr_s, asCons_c, asNil_n, nthA_0, nthA_s, aggCells_a, addV_p, addV_i, seeV_p, seeV_i, same_nil, same_1, same_2, tr_v, decide_true, decide_false, Bool.false_eq_true, if_false, if_true, Bool.not_true, Bool.not_false, Bool.and_true, Bool.true_and, Bool.and_self, List.getElem?_cons_zero, List.getElem?_cons_succ, Nat.zero_add, Nat.add_zero, beq_self_eq_true, bne_self_eq_false, Int.reduceBNe, Int.reduceBEq, Int.reduceLT, Int.reduceGT, Int.reduceLE, Int.reduceGE, Nat.reduceAdd, Nat.reduceMul, Nat.reduceLeDiff, hX.blk, lenH, w1, w2]
theorem wbytes_c {W : List Nat} {part n : Nat} (h : WrX S p q W part n) (hb : W.length ≤ 1000000000) : Cn B (k + 1) f_bits_Writer_Bytes 0 [.ptr p 0] S = some (.str (strB (pad W part n)), S) := by
  rw [c_bits_Writer_Bytes _ _ _ _ (hB.no _ _ _ _ (kn_no (by decide))), T_bits_Writer_Bytes]
  have e1 := b2s_H h
  have hn := h.n8
  by_cases h0 : n = 0
  · subst h0
    have c1 : (((0 : Nat) : Int) == 0) = true := rfl
    simp only [eql_ptr37, eql_nilp37, eql_ptr42, eql_nilp42, eql_ptr58, eql_nilp58, eql_ptr277, eql_nilp277, eql_nils32, eql_is32, eql_hs32, eql_nils33, eql_is33, eql_hs33, eql_nils34, eql_is34, eql_hs34, len_nils26, len_is26, len_hs26, len_nils32, len_is32, len_hs32, len_nils33, len_is33, len_hs33, len_nils34, len_is34, len_hs34, len_nils61, len_is61, len_hs61, len_nils124, len_is124, len_hs124, len_nils156, len_is156, len_hs156, len_nils245, len_is245, len_hs245, bO_s, gB_t, asBool_b, asInt_i, asAgg_a, asTup_a, asStr_s, asCons_c, asNil_n, nthA_0, nthA_s, aggCells_a, addV_p, addV_i, seeV_p, seeV_i, same_nil, same_1, same_2, tr_v, decide_true, decide_false, Bool.false_eq_true, if_false, if_true, Bool.not_true, Bool.not_false, Bool.and_true, Bool.true_and, Bool.and_self, List.getElem?_cons_zero, List.getElem?_cons_succ, Nat.zero_add, Nat.add_zero, beq_self_eq_true, bne_self_eq_false, Int.reduceBNe, Int.reduceBEq, Int.reduceLT, Int.reduceGT, Int.reduceLE, Int.reduceGE, Nat.reduceAdd, Nat.reduceMul, Nat.reduceLeDiff, h.blk, c1, e1, pad, List.append_nil]
  · have c1 : ((n : Int) == 0) = false := by simp; omega
    have w1 : IntKind.wrap .i64 (8 - (n : Int)) = ((8 - n : Nat) : Int) := by rw [wr _ (by omega)]; omega
    have w2 := shl8 part (8 - n) (by omega)
    have e2 : aB2S (.is 1 [.int .u8 ((part * 2 ^ (8 - n) % 256 : Nat) : Int)]) S = some (strB [part * 2 ^ (8 - n) % 256]) := by
      have hlt : part * 2 ^ (8 - n) % 256 < 256 := Nat.mod_lt _ (by omega)
      generalize part * 2 ^ (8 - n) % 256 = x at hlt
      rfl
    have e3 : aStr .add (strB W) (strB [part * 2 ^ (8 - n) % 256]) = some (.str (strB (pad W part n))) := by
      have hsz : ¬ ((((strB W).size + (strB [part * 2 ^ (8 - n) % 256]).size : Nat) : Int) > IntKind.i64.max) := by
        rw [strB_size, strB_size]
        simp only [IntKind.max, IntKind.signed, IntKind.bits, List.length_cons, List.length_nil]
        simp; omega
      unfold aStr
      rw [if_neg hsz, strB_app]
      unfold pad
      rw [if_neg h0]
    simp only [eql_ptr37, eql_nilp37, eql_ptr42, eql_nilp42, eql_ptr58, eql_nilp58, eql_ptr277, eql_nilp277, eql_nils32, eql_is32, eql_hs32, eql_nils33, eql_is33, eql_hs33, eql_nils34, eql_is34, eql_hs34, len_nils26, len_is26, len_hs26, len_nils32, len_is32, len_hs32, len_nils33, len_is33, len_hs33, len_nils34, len_is34, len_hs34, len_nils61, len_is61, len_hs61, len_nils124, len_is124, len_hs124, len_nils156, len_is156, len_hs156, len_nils245, len_is245, len_hs245, bO_s, gB_t, asBool_b, asInt_i, asAgg_a, asTup_a, asStr_s, asCons_c, asNil_n, nthA_0, nthA_s, aggCells_a, addV_p, addV_i, seeV_p, seeV_i, same_nil, same_1, same_2, tr_v, decide_true, decide_false, Bool.false_eq_true, if_false, if_true, Bool.not_true, Bool.not_false, Bool.and_true, Bool.true_and, Bool.and_self, List.getElem?_cons_zero, List.getElem?_cons_succ, Nat.zero_add, Nat.add_zero, beq_self_eq_true, bne_self_eq_false, Int.reduceBNe, Int.reduceBEq, Int.reduceLT, Int.reduceGT, Int.reduceLE, Int.reduceGE, Nat.reduceAdd, Nat.reduceMul, Nat.reduceLeDiff, h.blk, c1, e1, w1, aShl, w2, e2, e3]
theorem wbits_c (h : Wr S p q bs) (hb : bs.length ≤ 1000000000) : ∃ S', Cn B (k + 2) f_bits_Writer_Bits 0 [.ptr p 0] S = some (.str (bitStr bs), S') ∧ Fr S S' [] := by
  have e2 := wlen_c hB k h (by omega)
  obtain ⟨W, part, n, hX, hbs⟩ := h
  have hl := congrArg List.length hbs
  rw [bitsW_len] at hl
  have e1 := wbytes_c hB k hX (by omega)
  rw [c_bits_Writer_Bits _ _ _ _ (hB.no _ _ _ _ (kn_no (by decide))), T_bits_Writer_Bits]
  have hn8 := hX.n8
  have hpl : 8 * (pad W part n).length < bs.length + 8 ∧ bs.length ≤ 8 * (pad W part n).length := by
    unfold pad
    split <;> simp <;> omega
  have hH : Has (strB (pad W part n)) 0 bs := by
    rw [hbs]
    exact has_pad hX.b8 hX.n8 hX.pt (fun i h => by rw [strB_get, List.getElem?_eq_getElem h]; rfl) (by rw [strB_size]; exact Nat.le_refl _)
  have c1 : (0 : Int) ≤ (bs.length : Int) := by omega
  have c2 : (bs.length : Int) ≤ (bs.length : Int) := Int.le_refl _
  have c3 : (bs.length : Int) * ((1 : Nat) : Int) ≤ (2 ^ 44 : Int) := by omega
  have c4 : (bs.length : Int) ≤ (2 ^ 44 : Int) := by omega
  simp only [eql_ptr37, eql_nilp37, eql_ptr42, eql_nilp42, eql_ptr58, eql_nilp58, eql_ptr277, eql_nilp277, eql_nils32, eql_is32, eql_hs32, eql_nils33, eql_is33, eql_hs33, eql_nils34, eql_is34, eql_hs34, len_nils26, len_is26, len_hs26, len_nils32, len_is32, len_hs32, len_nils33, len_is33, len_hs33, len_nils34, len_is34, len_hs34, len_nils61, len_is61, len_hs61, len_nils124, len_is124, len_hs124, len_nils156, len_is156, len_hs156, len_nils245, len_is245, len_hs245, bO_s, gB_t, asBool_b, asInt_i, asAgg_a, asTup_a, asStr_s, asCons_c, asNil_n, nthA_0, nthA_s, aggCells_a, addV_p, addV_i, seeV_p, seeV_i, same_nil, same_1, same_2, tr_v, decide_true, decide_false, Bool.false_eq_true, if_false, if_true, Bool.not_true, Bool.not_false, Bool.and_true, Bool.true_and, Bool.and_self, List.getElem?_cons_zero, List.getElem?_cons_succ, Nat.zero_add, Nat.add_zero, beq_self_eq_true, bne_self_eq_false, Int.reduceBNe, Int.reduceBEq, Int.reduceLT, Int.reduceGT, Int.reduceLE, Int.reduceGE, Nat.reduceAdd, Nat.reduceMul, Nat.reduceLeDiff, e1, e2, c1, c2, c3, c4, Int.toNat_natCast, Int.le_refl]
  refine loop_meas (fun o => ∃ S', o = some (AV.str (bitStr bs), S') ∧ Fr S S' [])
    (fun m st => ∃ i T, i + m = bs.length ∧ st = ([.str (strB (pad W part n)), .hs S.next 0 bs.length 1, .int .i64 (bs.length : Int), .int .i64 (i : Int)], T) ∧ T.blk S.next = some (u8s ((bs.take i).map bitC ++ List.replicate m 0)) ∧ Fr S T []) bs.length
    ⟨0, _, by omega, rfl, by rw [alloc_blk]; simp [u8s_rep], Fr.alloc _ _ _⟩ ?_
  rintro m st ⟨i, T, him, rfl, hT, hF⟩
  cases m with
  | zero =>
    have hi : i = bs.length := by omega
    subst hi
    have c5 : ¬ ((bs.length : Int) < (bs.length : Int)) := by omega
    refine .inl ⟨(0, [.hs S.next 0 bs.length 1], T), by simp only [eql_ptr37, eql_nilp37, eql_ptr42, eql_nilp42, eql_ptr58, eql_nilp58, eql_ptr277, eql_nilp277, eql_nils32, eql_is32, eql_hs32, eql_nils33, eql_is33, eql_hs33, eql_nils34, eql_is34, eql_hs34, len_nils26, len_is26, len_hs26, len_nils32, len_is32, len_hs32, len_nils33, len_is33, len_hs33, len_nils34, len_is34, len_hs34, len_nils61, len_is61, len_hs61, len_nils124, len_is124, len_hs124, len_nils156, len_is156, len_hs156, len_nils245, len_is245, len_hs245, bO_s, gB_t, asBool_b, asInt_i, asAgg_a, asTup_a, asStr_s, asCons_c, asNil_n, nthA_0, nthA_s, aggCells_a, addV_p, addV_i, seeV_p, seeV_i, same_nil, same_1, same_2, tr_v, decide_true, decide_false, Bool.false_eq_true, if_false, if_true, Bool.not_true, Bool.not_false, Bool.and_true, Bool.true_and, Bool.and_self, List.getElem?_cons_zero, List.getElem?_cons_succ, Nat.zero_add, Nat.add_zero, beq_self_eq_true, bne_self_eq_false, Int.reduceBNe, Int.reduceBEq, Int.reduceLT, Int.reduceGT, Int.reduceLE, Int.reduceGE, Nat.reduceAdd, Nat.reduceMul, Nat.reduceLeDiff, c5], T, ?_, hF⟩
    rw [List.replicate_zero, List.append_nil, List.take_length] at hT
    have := b2s_hs (l := bs.map bitC) hT (fun x hx => by
      obtain ⟨b, _, rfl⟩ := List.mem_map.1 hx
      unfold bitC; split <;> omega)
    rw [List.length_map] at this
    simp only [eql_ptr37, eql_nilp37, eql_ptr42, eql_nilp42, eql_ptr58, eql_nilp58, eql_ptr277, eql_nilp277, eql_nils32, eql_is32, eql_hs32, eql_nils33, eql_is33, eql_hs33, eql_nils34, eql_is34, eql_hs34, len_nils26, len_is26, len_hs26, len_nils32, len_is32, len_hs32, len_nils33, len_is33, len_hs33, len_nils34, len_is34, len_hs34, len_nils61, len_is61, len_hs61, len_nils124, len_is124, len_hs124, len_nils156, len_is156, len_hs156, len_nils245, len_is245, len_hs245, bO_s, gB_t, asBool_b, asInt_i, asAgg_a, asTup_a, asStr_s, asCons_c, asNil_n, nthA_0, nthA_s, aggCells_a, addV_p, addV_i, seeV_p, seeV_i, same_nil, same_1, same_2, tr_v, decide_true, decide_false, Bool.false_eq_true, if_false, if_true, Bool.not_true, Bool.not_false, Bool.and_true, Bool.true_and, Bool.and_self, List.getElem?_cons_zero, List.getElem?_cons_succ, Nat.zero_add, Nat.add_zero, beq_self_eq_true, bne_self_eq_false, Int.reduceBNe, Int.reduceBEq, Int.reduceLT, Int.reduceGT, Int.reduceLE, Int.reduceGE, Nat.reduceAdd, Nat.reduceMul, Nat.reduceLeDiff, sel, this, bitStr]
  | succ m =>
    have c5 : (i : Int) < (bs.length : Int) := by omega
    have hib : i < bs.length := by omega
    have hsb := hH.2 i hib
    rw [Nat.zero_add] at hsb
    have hq : i / 8 < (pad W part n).length := by omega
    have hd : (strB (pad W part n)).data[i / 8]? = some (UInt8.ofNat (pad W part n)[i / 8]) := by rw [strB_get, List.getElem?_eq_getElem hq]; rfl
    obtain ⟨b, hb8⟩ : ∃ b, b = UInt8.ofNat (pad W part n)[i / 8] := ⟨_, rfl⟩
    rw [← hb8] at hd
    have w1 : IntKind.wrap .i64 (Int.tdiv (i : Int) 8) = ((i / 8 : Nat) : Int) := by rw [tdivL, wr _ (by omega)]
    have w2 : IntKind.wrap .i64 (7 - Int.tmod (i : Int) 8) = ((7 - i % 8 : Nat) : Int) := by rw [tmodL, wr _ (by omega)]; omega
    have c6 : (0 : Int) ≤ ((i / 8 : Nat) : Int) := by omega
    have w3 := shr8 b.toNat (7 - i % 8) (by omega)
    have hsb2 : b.toNat / 2 ^ (7 - i % 8) % 2 = if bs[i] then 1 else 0 := by
      rw [← hsb]; unfold sb; rw [hd]; rfl
    have hlt := b.toNat_lt
    have w4 : andI .u8 ((b.toNat / 2 ^ (7 - i % 8) : Nat) : Int) 1 = ((b.toNat / 2 ^ (7 - i % 8) % 2 : Nat) : Int) := by
      have := and8 (b.toNat / 2 ^ (7 - i % 8)) 1 (Nat.lt_of_le_of_lt (Nat.div_le_self _ _) hlt) (by omega)
      rw [Nat.and_one_is_mod] at this
      exact this
    have w5 : IntKind.wrap .u8 (48 + ((b.toNat / 2 ^ (7 - i % 8) % 2 : Nat) : Int)) = ((bitC bs[i] : Nat) : Int) := by
      rw [hsb2]
      unfold bitC
      cases bs[i] <;> rfl
    have w6 : IntKind.wrap .i64 ((i : Int) + 1) = ((i + 1 : Nat) : Int) := by rw [wr _ (by omega)]; omega
    have e3 : aIdx 1 (.hs S.next 0 bs.length 1) (i : Int) = some (.ptr S.next i) := by simp [aIdx, hib]
    have hsz : ((bs.take i).map bitC).length = i := by simp; omega
    have e4 : putV (.ptr S.next i) [.int .u8 ((bitC bs[i] : Nat) : Int)] T = some (T.set S.next (some (u8s ((bs.take (i + 1)).map bitC ++ List.replicate m 0)))) := by
      rw [putV_p hT (by rw [u8s_len, List.length_append, hsz]; simp)]
      congr 3
      have := setCells_append [.int .u8 ((bitC bs[i] : Nat) : Int)] (u8s ((bs.take i).map bitC)) [.int .u8 0] (u8s (List.replicate m 0)) rfl
      rw [u8s_len, hsz] at this
      rw [List.replicate_succ, u8s_app]
      have e5 : u8s (0 :: List.replicate m 0) = [.int .u8 0] ++ u8s (List.replicate m 0) := rfl
      rw [e5, ← List.append_assoc, this, List.take_add_one, List.getElem?_eq_getElem hib, Option.toList_some, List.map_append, u8s_app, u8s_app]
      rfl
    refine .inr ⟨m, _, by omega, by simp only [eql_ptr37, eql_nilp37, eql_ptr42, eql_nilp42, eql_ptr58, eql_nilp58, eql_ptr277, eql_nilp277, eql_nils32, eql_is32, eql_hs32, eql_nils33, eql_is33, eql_hs33, eql_nils34, eql_is34, eql_hs34, len_nils26, len_is26, len_hs26, len_nils32, len_is32, len_hs32, len_nils33, len_is33, len_hs33, len_nils34, len_is34, len_hs34, len_nils61, len_is61, len_hs61, len_nils124, len_is124, len_hs124, len_nils156, len_is156, len_hs156, len_nils245, len_is245, len_hs245, bO_s, gB_t, asBool_b, asInt_i, asAgg_a, asTup_a, asStr_s, asCons_c, asNil_n, nthA_0, nthA_s, aggCells_a, addV_p, addV_i, seeV_p, seeV_i, same_nil, same_1, same_2, tr_v, decide_true, decide_false, Bool.false_eq_true, if_false, if_true, Bool.not_true, Bool.not_false, Bool.and_true, Bool.true_and, Bool.and_self, List.getElem?_cons_zero, List.getElem?_cons_succ, Nat.zero_add, Nat.add_zero, beq_self_eq_true, bne_self_eq_false, Int.reduceBNe, Int.reduceBEq, Int.reduceLT, Int.reduceGT, Int.reduceLE, Int.reduceGE, Nat.reduceAdd, Nat.reduceMul, Nat.reduceLeDiff, c5, w1, c6, ba_get, Int.toNat_natCast, hd, w2, aShr, w3, w4, w5, e3, e4, w6], i + 1, T.set S.next (some (u8s ((bs.take (i + 1)).map bitC ++ List.replicate m 0))), by omega, rfl, set_blk _ _ _, hF.set (.inr (Nat.le_refl _)) _⟩
end

-- how many bits a number has
def L2 (x : Nat) : Nat := if x = 0 then 0 else Nat.log2 x + 1
theorem L2_eq {x n : Nat} (h1 : 2 ^ n ≤ x) (h2 : x < 2 ^ (n + 1)) : L2 x = n + 1 := by
  have h0 : x ≠ 0 := by have : 0 < 2 ^ n := Nat.pow_pos (by omega); omega
  unfold L2
  rw [if_neg h0, (Nat.log2_eq_iff h0).2 ⟨h1, h2⟩]
theorem L2_spec {x : Nat} (h : x ≠ 0) : 2 ^ (L2 x - 1) ≤ x ∧ x < 2 ^ L2 x ∧ 0 < L2 x := by
  unfold L2
  rw [if_neg h]
  have := (Nat.log2_eq_iff h (k := Nat.log2 x)).1 rfl
  exact ⟨this.1, this.2, by omega⟩
theorem L2_div {x k : Nat} (h : x / 2 ^ k ≠ 0) : L2 x = L2 (x / 2 ^ k) + k := by
  obtain ⟨h1, h2, h3⟩ := L2_spec h
  have hk : 0 < 2 ^ k := Nat.pow_pos (by omega)
  have e1 : 2 ^ (L2 (x / 2 ^ k) - 1 + k) ≤ x := by
    rw [Nat.pow_add]
    exact Nat.le_trans (Nat.mul_le_mul_right _ h1) (Nat.div_mul_le_self _ _)
  have e2 : x < 2 ^ (L2 (x / 2 ^ k) - 1 + k + 1) := by
    rw [show L2 (x / 2 ^ k) - 1 + k + 1 = L2 (x / 2 ^ k) + k by omega, Nat.pow_add]
    exact (Nat.div_lt_iff_lt_mul hk).1 h2
  rw [L2_eq e1 e2]; omega
theorem lentab : ∀ b : Fin 256, (ByteArray.mk #[0, 1, 2, 2, 3, 3, 3, 3, 4, 4, 4, 4, 4, 4, 4, 4, 5, 5, 5, 5, 5, 5, 5, 5, 5, 5, 5, 5, 5, 5, 5, 5, 6, 6, 6, 6, 6, 6, 6, 6, 6, 6, 6, 6, 6, 6, 6, 6, 6, 6, 6, 6, 6, 6, 6, 6, 6, 6, 6, 6, 6, 6, 6, 6, 7, 7, 7, 7, 7, 7, 7, 7, 7, 7, 7, 7, 7, 7, 7, 7, 7, 7, 7, 7, 7, 7, 7, 7, 7, 7, 7, 7, 7, 7, 7, 7, 7, 7, 7, 7, 7, 7, 7, 7, 7, 7, 7, 7, 7, 7, 7, 7, 7, 7, 7, 7, 7, 7, 7, 7, 7, 7, 7, 7, 7, 7, 7, 7, 8, 8, 8, 8, 8, 8, 8, 8, 8, 8, 8, 8, 8, 8, 8, 8, 8, 8, 8, 8, 8, 8, 8, 8, 8, 8, 8, 8, 8, 8, 8, 8, 8, 8, 8, 8, 8, 8, 8, 8, 8, 8, 8, 8, 8, 8, 8, 8, 8, 8, 8, 8, 8, 8, 8, 8, 8, 8, 8, 8, 8, 8, 8, 8, 8, 8, 8, 8, 8, 8, 8, 8, 8, 8, 8, 8, 8, 8, 8, 8, 8, 8, 8, 8, 8, 8, 8, 8, 8, 8, 8, 8, 8, 8, 8, 8, 8, 8, 8, 8, 8, 8, 8, 8, 8, 8, 8, 8, 8, 8, 8, 8, 8, 8, 8, 8, 8, 8, 8, 8, 8, 8, 8, 8, 8, 8, 8, 8]).data[b.val]? = some (UInt8.ofNat (L2 b.val)) ∧ (UInt8.ofNat (L2 b.val)).toNat = L2 b.val ∧ L2 b.val ≤ 8 := by decide +kernel
section
variable {B : CallF} (hB : Silent B) (k : Nat) {S : Heap} {p q : Nat} {bs : List Bool}
include hB
theorem len64_c (x : Nat) (hx : x < 4294967296) : Cn B (k + 1) f_math_bits_Len64 0 [.int .u64 (x : Int)] S = some (.int .i64 (L2 x : Int), S) := by
  rw [c_math_bits_Len64 _ _ _ _ (hB.no _ _ _ _ (kn_no (by decide))), T_math_bits_Len64]
  have c1 : ¬ ((x : Int) ≥ 4294967296) := by omega
  have hs : ∀ (y j : Nat), j ≤ 64 → shrI .u64 (y : Int) ((j : Nat) : Int) = ((y / 2 ^ j : Nat) : Int) := fun y j h => shr64 y j h
  have s16 : ∀ y : Nat, shrI .u64 (y : Int) 16 = ((y / 65536 : Nat) : Int) := fun y => hs y 16 (by omega)
  have s8 : ∀ y : Nat, shrI .u64 (y : Int) 8 = ((y / 256 : Nat) : Int) := fun y => hs y 8 (by omega)
  have w0 : IntKind.wrap .i64 (0 + 16) = 16 := wr _ (by omega)
  have w1 : IntKind.wrap .i64 (0 + 8) = 8 := wr _ (by omega)
  have w2 : IntKind.wrap .i64 (16 + 8) = 24 := wr _ (by omega)
  have fin : ∀ (y m : Nat), y < 256 → m ≤ 24 → (0 : Int) ≤ IntKind.wrap .u8 (y : Int) ∧ IntKind.wrap .u8 (y : Int) = (y : Int) ∧ (ByteArray.mk #[0, 1, 2, 2, 3, 3, 3, 3, 4, 4, 4, 4, 4, 4, 4, 4, 5, 5, 5, 5, 5, 5, 5, 5, 5, 5, 5, 5, 5, 5, 5, 5, 6, 6, 6, 6, 6, 6, 6, 6, 6, 6, 6, 6, 6, 6, 6, 6, 6, 6, 6, 6, 6, 6, 6, 6, 6, 6, 6, 6, 6, 6, 6, 6, 7, 7, 7, 7, 7, 7, 7, 7, 7, 7, 7, 7, 7, 7, 7, 7, 7, 7, 7, 7, 7, 7, 7, 7, 7, 7, 7, 7, 7, 7, 7, 7, 7, 7, 7, 7, 7, 7, 7, 7, 7, 7, 7, 7, 7, 7, 7, 7, 7, 7, 7, 7, 7, 7, 7, 7, 7, 7, 7, 7, 7, 7, 7, 7, 8, 8, 8, 8, 8, 8, 8, 8, 8, 8, 8, 8, 8, 8, 8, 8, 8, 8, 8, 8, 8, 8, 8, 8, 8, 8, 8, 8, 8, 8, 8, 8, 8, 8, 8, 8, 8, 8, 8, 8, 8, 8, 8, 8, 8, 8, 8, 8, 8, 8, 8, 8, 8, 8, 8, 8, 8, 8, 8, 8, 8, 8, 8, 8, 8, 8, 8, 8, 8, 8, 8, 8, 8, 8, 8, 8, 8, 8, 8, 8, 8, 8, 8, 8, 8, 8, 8, 8, 8, 8, 8, 8, 8, 8, 8, 8, 8, 8, 8, 8, 8, 8, 8, 8, 8, 8, 8, 8, 8, 8, 8, 8, 8, 8, 8, 8, 8, 8, 8, 8, 8, 8, 8, 8, 8, 8, 8, 8]).data[y]? = some (UInt8.ofNat (L2 y)) ∧ IntKind.wrap .i64 ((m : Int) + IntKind.wrap .i64 ((UInt8.toNat (UInt8.ofNat (L2 y)) : Nat) : Int)) = ((L2 y + m : Nat) : Int) := fun y m hy hm => by
    have h1 : IntKind.wrap .u8 (y : Int) = (y : Int) := wb _ (by omega)
    obtain ⟨t1, t2, t3⟩ := lentab ⟨y, hy⟩
    simp only at t1 t2 t3
    refine ⟨by rw [h1]; omega, h1, t1, ?_⟩
    rw [t2, wr (L2 y : Int) (by omega), wr _ (by omega)]; omega
  by_cases h1 : x ≥ 65536
  · have c2 : (x : Int) ≥ 65536 := by omega
    have d1 := L2_div (x := x) (k := 16) (by omega)
    rw [show (2 : Nat) ^ 16 = 65536 from rfl] at d1
    by_cases h2 : x / 65536 ≥ 256
    · have c3 : ((x / 65536 : Nat) : Int) ≥ 256 := by omega
      have d2 := L2_div (x := x / 65536) (k := 8) (by omega)
      rw [show (2 : Nat) ^ 8 = 256 from rfl] at d2
      obtain ⟨f1, f2, f3, f4⟩ := fin (x / 65536 / 256) 24 (by omega) (by omega)
      rw [show (((24 : Nat)) : Int) = 24 from rfl] at f4
      simp only [eql_ptr37, eql_nilp37, eql_ptr42, eql_nilp42, eql_ptr58, eql_nilp58, eql_ptr277, eql_nilp277, eql_nils32, eql_is32, eql_hs32, eql_nils33, eql_is33, eql_hs33, eql_nils34, eql_is34, eql_hs34, len_nils26, len_is26, len_hs26, len_nils32, len_is32, len_hs32, len_nils33, len_is33, len_hs33, len_nils34, len_is34, len_hs34, len_nils61, len_is61, len_hs61, len_nils124, len_is124, len_hs124, len_nils156, len_is156, len_hs156, len_nils245, len_is245, len_hs245, bO_s, gB_t, asBool_b, asInt_i, asAgg_a, asTup_a, asStr_s, asCons_c, asNil_n, nthA_0, nthA_s, aggCells_a, addV_p, addV_i, seeV_p, seeV_i, same_nil, same_1, same_2, tr_v, decide_true, decide_false, Bool.false_eq_true, if_false, if_true, Bool.not_true, Bool.not_false, Bool.and_true, Bool.true_and, Bool.and_self, List.getElem?_cons_zero, List.getElem?_cons_succ, Nat.zero_add, Nat.add_zero, beq_self_eq_true, bne_self_eq_false, Int.reduceBNe, Int.reduceBEq, Int.reduceLT, Int.reduceGT, Int.reduceLE, Int.reduceGE, Nat.reduceAdd, Nat.reduceMul, Nat.reduceLeDiff, c1, c2, s16, w0, c3, s8, w2, f2, Int.toNat_natCast, ba_get, f3, f4, show (0 : Int) ≤ ((x / 65536 / 256 : Nat) : Int) by omega]
      congr 3; omega
    · have c3 : ¬ ((x / 65536 : Nat) : Int) ≥ 256 := by omega
      obtain ⟨f1, f2, f3, f4⟩ := fin (x / 65536) 16 (by omega) (by omega)
      rw [show (((16 : Nat)) : Int) = 16 from rfl] at f4
      simp only [eql_ptr37, eql_nilp37, eql_ptr42, eql_nilp42, eql_ptr58, eql_nilp58, eql_ptr277, eql_nilp277, eql_nils32, eql_is32, eql_hs32, eql_nils33, eql_is33, eql_hs33, eql_nils34, eql_is34, eql_hs34, len_nils26, len_is26, len_hs26, len_nils32, len_is32, len_hs32, len_nils33, len_is33, len_hs33, len_nils34, len_is34, len_hs34, len_nils61, len_is61, len_hs61, len_nils124, len_is124, len_hs124, len_nils156, len_is156, len_hs156, len_nils245, len_is245, len_hs245, bO_s, gB_t, asBool_b, asInt_i, asAgg_a, asTup_a, asStr_s, asCons_c, asNil_n, nthA_0, nthA_s, aggCells_a, addV_p, addV_i, seeV_p, seeV_i, same_nil, same_1, same_2, tr_v, decide_true, decide_false, Bool.false_eq_true, if_false, if_true, Bool.not_true, Bool.not_false, Bool.and_true, Bool.true_and, Bool.and_self, List.getElem?_cons_zero, List.getElem?_cons_succ, Nat.zero_add, Nat.add_zero, beq_self_eq_true, bne_self_eq_false, Int.reduceBNe, Int.reduceBEq, Int.reduceLT, Int.reduceGT, Int.reduceLE, Int.reduceGE, Nat.reduceAdd, Nat.reduceMul, Nat.reduceLeDiff, c1, c2, s16, w0, c3, f2, Int.toNat_natCast, ba_get, f3, f4, show (0 : Int) ≤ ((x / 65536 : Nat) : Int) by omega]
      congr 3; omega
  · have c2 : ¬ (x : Int) ≥ 65536 := by omega
    by_cases h2 : x ≥ 256
    · have c3 : (x : Int) ≥ 256 := by omega
      have d2 := L2_div (x := x) (k := 8) (by omega)
      rw [show (2 : Nat) ^ 8 = 256 from rfl] at d2
      obtain ⟨f1, f2, f3, f4⟩ := fin (x / 256) 8 (by omega) (by omega)
      rw [show (((8 : Nat)) : Int) = 8 from rfl] at f4
      simp only [eql_ptr37, eql_nilp37, eql_ptr42, eql_nilp42, eql_ptr58, eql_nilp58, eql_ptr277, eql_nilp277, eql_nils32, eql_is32, eql_hs32, eql_nils33, eql_is33, eql_hs33, eql_nils34, eql_is34, eql_hs34, len_nils26, len_is26, len_hs26, len_nils32, len_is32, len_hs32, len_nils33, len_is33, len_hs33, len_nils34, len_is34, len_hs34, len_nils61, len_is61, len_hs61, len_nils124, len_is124, len_hs124, len_nils156, len_is156, len_hs156, len_nils245, len_is245, len_hs245, bO_s, gB_t, asBool_b, asInt_i, asAgg_a, asTup_a, asStr_s, asCons_c, asNil_n, nthA_0, nthA_s, aggCells_a, addV_p, addV_i, seeV_p, seeV_i, same_nil, same_1, same_2, tr_v, decide_true, decide_false, Bool.false_eq_true, if_false, if_true, Bool.not_true, Bool.not_false, Bool.and_true, Bool.true_and, Bool.and_self, List.getElem?_cons_zero, List.getElem?_cons_succ, Nat.zero_add, Nat.add_zero, beq_self_eq_true, bne_self_eq_false, Int.reduceBNe, Int.reduceBEq, Int.reduceLT, Int.reduceGT, Int.reduceLE, Int.reduceGE, Nat.reduceAdd, Nat.reduceMul, Nat.reduceLeDiff, c1, c2, c3, s8, w1, f2, Int.toNat_natCast, ba_get, f3, f4, show (0 : Int) ≤ ((x / 256 : Nat) : Int) by omega]
      congr 3; omega
    · have c3 : ¬ (x : Int) ≥ 256 := by omega
      obtain ⟨f1, f2, f3, f4⟩ := fin x 0 (by omega) (by omega)
      rw [show (((0 : Nat)) : Int) = 0 from rfl] at f4
      simp only [eql_ptr37, eql_nilp37, eql_ptr42, eql_nilp42, eql_ptr58, eql_nilp58, eql_ptr277, eql_nilp277, eql_nils32, eql_is32, eql_hs32, eql_nils33, eql_is33, eql_hs33, eql_nils34, eql_is34, eql_hs34, len_nils26, len_is26, len_hs26, len_nils32, len_is32, len_hs32, len_nils33, len_is33, len_hs33, len_nils34, len_is34, len_hs34, len_nils61, len_is61, len_hs61, len_nils124, len_is124, len_hs124, len_nils156, len_is156, len_hs156, len_nils245, len_is245, len_hs245, bO_s, gB_t, asBool_b, asInt_i, asAgg_a, asTup_a, asStr_s, asCons_c, asNil_n, nthA_0, nthA_s, aggCells_a, addV_p, addV_i, seeV_p, seeV_i, same_nil, same_1, same_2, tr_v, decide_true, decide_false, Bool.false_eq_true, if_false, if_true, Bool.not_true, Bool.not_false, Bool.and_true, Bool.true_and, Bool.and_self, List.getElem?_cons_zero, List.getElem?_cons_succ, Nat.zero_add, Nat.add_zero, beq_self_eq_true, bne_self_eq_false, Int.reduceBNe, Int.reduceBEq, Int.reduceLT, Int.reduceGT, Int.reduceLE, Int.reduceGE, Nat.reduceAdd, Nat.reduceMul, Nat.reduceLeDiff, c1, c2, c3, f2, Int.toNat_natCast, ba_get, f3, f4, show (0 : Int) ≤ (x : Int) by omega]
end
/-- The code of an unsigned number. -/
def ueC (v : Nat) : List Bool := bitsN (2 * L2 (v + 1) - 1) (v + 1)
def ukC (k v : Nat) : List Bool := ueC (v / 2 ^ k) ++ bitsN k (v % 2 ^ k)
theorem L2_le {v : Nat} (h : v < 4294967296) : L2 v ≤ 32 := by
  by_cases h0 : v = 0
  · subst h0; decide
  · obtain ⟨h1, h2, h3⟩ := L2_spec h0
    by_cases h4 : L2 v ≤ 32
    · exact h4
    · have : 2 ^ 32 ≤ 2 ^ (L2 v - 1) := Nat.pow_le_pow_right (by omega) (by omega)
      omega
theorem ueC_len (v : Nat) : (ueC v).length = 2 * L2 (v + 1) - 1 := by simp [ueC, bitsN_len]
section
variable {B : CallF} (hB : Silent B) (k : Nat) {S : Heap} {p q : Nat} {bs : List Bool}
include hB
theorem putue_c (h : Wr S p q bs) (v : Nat) (hv : v ≤ 4294967294) (hb : bs.length ≤ 900000000) :
    ∃ S' q', Cn B (k + 2) f_golomb_PutUe 0 [.ptr p 0, .int .u64 (v : Int)] S = some (.int .i64 0, S') ∧ Puts S S' p q q' bs (bs ++ ueC v) := by
  rw [c_golomb_PutUe _ _ _ _ _ (hB.no _ _ _ _ (kn_no (by decide))), T_golomb_PutUe]
  have c1 : ¬ ((v : Int) > 4294967294) := by omega
  have w1 : IntKind.wrap .u64 ((v : Int) + 1) = ((v + 1 : Nat) : Int) := by rw [wu _ (by omega)]; omega
  have e1 := len64_c hB k (S := S) (v + 1) (by omega)
  obtain ⟨h1, h2, h3⟩ := L2_spec (x := v + 1) (by omega)
  have h4 := L2_le (v := v + 1) (by omega)
  have w2 : IntKind.wrap .i64 (2 * (L2 (v + 1) : Int)) = 2 * (L2 (v + 1) : Int) := wr _ (by omega)
  have w3 : IntKind.wrap .i64 (2 * (L2 (v + 1) : Int) - 1) = ((2 * L2 (v + 1) - 1 : Nat) : Int) := by rw [wr _ (by omega)]; omega
  obtain ⟨S', q', e2, h5⟩ := put_c hB k h (2 * L2 (v + 1) - 1) (v + 1) (by omega) (Nat.lt_of_lt_of_le h2 (Nat.pow_le_pow_right (by omega) (by omega))) (by omega)
  exact ⟨S', q', by simp only [eql_ptr37, eql_nilp37, eql_ptr42, eql_nilp42, eql_ptr58, eql_nilp58, eql_ptr277, eql_nilp277, eql_nils32, eql_is32, eql_hs32, eql_nils33, eql_is33, eql_hs33, eql_nils34, eql_is34, eql_hs34, len_nils26, len_is26, len_hs26, len_nils32, len_is32, len_hs32, len_nils33, len_is33, len_hs33, len_nils34, len_is34, len_hs34, len_nils61, len_is61, len_hs61, len_nils124, len_is124, len_hs124, len_nils156, len_is156, len_hs156, len_nils245, len_is245, len_hs245, bO_s, gB_t, asBool_b, asInt_i, asAgg_a, asTup_a, asStr_s, asCons_c, asNil_n, nthA_0, nthA_s, aggCells_a, addV_p, addV_i, seeV_p, seeV_i, same_nil, same_1, same_2, tr_v, decide_true, decide_false, Bool.false_eq_true, if_false, if_true, Bool.not_true, Bool.not_false, Bool.and_true, Bool.true_and, Bool.and_self, List.getElem?_cons_zero, List.getElem?_cons_succ, Nat.zero_add, Nat.add_zero, beq_self_eq_true, bne_self_eq_false, Int.reduceBNe, Int.reduceBEq, Int.reduceLT, Int.reduceGT, Int.reduceLE, Int.reduceGE, Nat.reduceAdd, Nat.reduceMul, Nat.reduceLeDiff, c1, w1, e1, w2, w3, e2], h5⟩
theorem putuk_c (h : Wr S p q bs) (n v : Nat) (hn : n ≤ 8) (hv : v ≤ 4294967294) (hb : bs.length ≤ 800000000) :
    ∃ S' q', Cn B (k + 3) f_golomb_PutUk 0 [.ptr p 0, .int .i64 (n : Int), .int .u64 (v : Int)] S = some (.int .i64 0, S') ∧ Puts S S' p q q' bs (bs ++ ukC n v) := by
  rw [c_golomb_PutUk _ _ _ _ _ _ (hB.no _ _ _ _ (kn_no (by decide))), T_golomb_PutUk]
  have c1 : ¬ ((n : Int) < 0) := by omega
  have c2 : ¬ ((n : Int) > 8) := by omega
  have hd : v / 2 ^ n ≤ v := Nat.div_le_self _ _
  have w1 := shr64 v n (by omega)
  have c3 : ¬ (((v / 2 ^ n : Nat) : Int) > 4294967294) := by omega
  obtain ⟨S1, q1, e1, h1⟩ := putue_c hB k h (v / 2 ^ n) (by omega) (by omega)
  have hp8 : 2 ^ n ≤ 2 ^ 8 := Nat.pow_le_pow_right (by omega) hn
  have hp0 : 0 < 2 ^ n := Nat.pow_pos (by omega)
  have w2 : shlI .u64 1 (n : Int) = ((2 ^ n : Nat) : Int) := by
    have := shl64 1 n (by omega) (by omega)
    rw [Nat.one_mul] at this
    exact this
  have w3 : IntKind.wrap .u64 (((2 ^ n : Nat) : Int) - 1) = ((2 ^ n - 1 : Nat) : Int) := by rw [wu _ (by omega)]; omega
  have w4 : andI .u64 (v : Int) ((2 ^ n - 1 : Nat) : Int) = ((v % 2 ^ n : Nat) : Int) := by
    rw [and64 _ _ (by omega) (by omega), Nat.and_two_pow_sub_one_eq_mod]
  have hl := ueC_len (v / 2 ^ n)
  have hl2 := L2_le (v := v / 2 ^ n + 1) (by omega)
  obtain ⟨S2, q2, e2, h2⟩ := put_c hB (k + 1) h1.1 n (v % 2 ^ n) (by omega) (Nat.mod_lt _ hp0) (by rw [List.length_append]; omega)
  rw [List.append_assoc] at h2
  exact ⟨S2, q2, by simp only [eql_ptr37, eql_nilp37, eql_ptr42, eql_nilp42, eql_ptr58, eql_nilp58, eql_ptr277, eql_nilp277, eql_nils32, eql_is32, eql_hs32, eql_nils33, eql_is33, eql_hs33, eql_nils34, eql_is34, eql_hs34, len_nils26, len_is26, len_hs26, len_nils32, len_is32, len_hs32, len_nils33, len_is33, len_hs33, len_nils34, len_is34, len_hs34, len_nils61, len_is61, len_hs61, len_nils124, len_is124, len_hs124, len_nils156, len_is156, len_hs156, len_nils245, len_is245, len_hs245, bO_s, gB_t, asBool_b, asInt_i, asAgg_a, asTup_a, asStr_s, asCons_c, asNil_n, nthA_0, nthA_s, aggCells_a, addV_p, addV_i, seeV_p, seeV_i, same_nil, same_1, same_2, tr_v, decide_true, decide_false, Bool.false_eq_true, if_false, if_true, Bool.not_true, Bool.not_false, Bool.and_true, Bool.true_and, Bool.and_self, List.getElem?_cons_zero, List.getElem?_cons_succ, Nat.zero_add, Nat.add_zero, beq_self_eq_true, bne_self_eq_false, Int.reduceBNe, Int.reduceBEq, Int.reduceLT, Int.reduceGT, Int.reduceLE, Int.reduceGE, Nat.reduceAdd, Nat.reduceMul, Nat.reduceLeDiff, c1, c2, aShr, w1, c3, e1, aShl, w2, w3, w4, e2], h1.trans h2⟩
end
end Go.Ab.tV
