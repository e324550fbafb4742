/- What is known beforehand; what the arguments of the statements are; the statements of layer 18 that compare with the reference. -/
import Derived.Test.YtfkmmiinlipcpaaVB7
set_option maxRecDepth 100000
set_option linter.unusedSimpArgs false
set_option linter.unusedVariables false
set_option linter.unusedSectionVars false
namespace Go.Ab.tV
open Go Go.Proofs

noncomputable def Bk : CallF := fun f way args S => if kn f args = true ∧ way = 0 then locC (tabN (rows (ctlF 1000)) 60) f 0 args S else none
theorem mixed : Try.prog.follows .mixedOrders = true := by kernel_rfl
theorem noG : ∀ (i : Nat) (cs : List AV), (fun _ => none : Nat → Option (List AV)) i = some cs → noIdL cs = true := fun _ _ h => by cases h
theorem known_lt : ∀ f ∈ knownF, f < yldId := by
  have : (knownF.all fun f => decide (f < yldId)) = true := by decide
  exact fun f hf => of_decide_eq_true (List.all_eq_true.1 this f hf)
theorem Bk_ok : NOk Try.prog (fun _ => none) Bk := by
  have h0 := locC_ok noG (tabN_ok (rngC_ok (ctlF_ok 1000)) mixed (rows (ctlF 1000)) 60)
  refine ⟨fun f way args S r hlt h => ?_, fun f way args S h => ?_⟩
  · unfold Bk at h
    split at h
    · exact h0.ok _ _ _ _ _ hlt h
    · cases h
  · unfold Bk
    rw [if_neg]
    rintro ⟨hk, _⟩
    simp only [kn, Bool.and_eq_true, decide_eq_true_eq] at hk
    have := known_lt f hk.1
    omega
theorem Bk_silent : Silent Bk := ⟨fun f way args S h => by unfold Bk; rw [if_neg]; rw [h]; simp, fun f args S h => by unfold Bk; rw [if_pos ⟨h, rfl⟩]⟩
theorem Cn_ok (k : Nat) : NOk Try.prog (fun _ => none) (Cn Bk k) := callN_ok (rngC_ok ctlV_ok) mixed noG An Bk_ok k

-- arguments
theorem av3 {N F : Nat} {xs : List AV} (h : avOk Try.prog N (F + 1) 3 xs) : ∃ n : Int, xs = [.int .i64 n] ∧ -9223372036854775808 ≤ n ∧ n ≤ 9223372036854775807 := by
  unfold avOk at h
  rw [show Try.prog.underlying 3 = some (.int .i64) by kernel_rfl] at h
  simp only at h
  obtain ⟨n, h1, h2⟩ := h
  exact ⟨n, h1, by simpa [Lit.wf, IntKind.min, IntKind.max, IntKind.signed, IntKind.bits] using h2⟩
theorem av5 {N F : Nat} {xs : List AV} (h : avOk Try.prog N (F + 1) 5 xs) : ∃ n : Int, xs = [.int .u8 n] ∧ 0 ≤ n ∧ n ≤ 255 := by
  unfold avOk at h
  rw [show Try.prog.underlying 5 = some (.int .u8) by kernel_rfl] at h
  simp only at h
  obtain ⟨n, h1, h2⟩ := h
  exact ⟨n, h1, by simpa [Lit.wf, IntKind.min, IntKind.max, IntKind.signed, IntKind.bits] using h2⟩
theorem av9 {N F : Nat} {xs : List AV} (h : avOk Try.prog N (F + 1) 9 xs) : ∃ s, xs = [.str s] ∧ s.size ≤ N := by
  unfold avOk at h
  rw [show Try.prog.underlying 9 = some .string by kernel_rfl] at h
  exact h
theorem arg3 {a : AV} (h : argOk Try.prog maxLen 16 3 a) : ∃ n : Int, a = .int .i64 n ∧ -9223372036854775808 ≤ n ∧ n ≤ 9223372036854775807 := by
  unfold argOk at h
  rw [show Try.prog.underlying 3 = some (.int .i64) by kernel_rfl] at h
  obtain ⟨n, h1, h2⟩ := av3 h
  exact ⟨n, by simpa using h1, h2⟩
theorem arg5 {a : AV} (h : argOk Try.prog maxLen 16 5 a) : ∃ n : Int, a = .int .u8 n ∧ 0 ≤ n ∧ n ≤ 255 := by
  unfold argOk at h
  rw [show Try.prog.underlying 5 = some (.int .u8) by kernel_rfl] at h
  obtain ⟨n, h1, h2⟩ := av5 h
  exact ⟨n, by simpa using h1, h2⟩
theorem arg9 {a : AV} (h : argOk Try.prog maxLen 16 9 a) : ∃ s, a = .str s ∧ s.size ≤ maxLen := by
  unfold argOk at h
  rw [show Try.prog.underlying 9 = some .string by kernel_rfl] at h
  obtain ⟨s, h1, h2⟩ := av9 h
  exact ⟨s, by simpa using h1, h2⟩
theorem chunks_of {α : Type} {w : Nat} {enc : α → List AV} {Q : α → Prop} {R : List AV → Prop} (hR : ∀ l, R l → ∃ m : α, l = enc m ∧ Q m) : ∀ (n : Nat) (cs : List AV), cs.length = n * w → (∀ i, i < n → R (List.take w (List.drop (i * w) cs))) → ∃ ms : List α, ms.length = n ∧ cs = ms.flatMap enc ∧ ∀ m ∈ ms, Q m
  | 0, cs, hl, _ => ⟨[], rfl, List.length_eq_zero_iff.1 (by omega), by simp⟩
  | n + 1, cs, hl, h => by
    obtain ⟨m, e, hm⟩ := hR _ (h 0 (by omega))
    rw [Nat.add_mul, Nat.one_mul] at hl
    obtain ⟨ms, h1, h2, h3⟩ := chunks_of (w := w) (enc := enc) (Q := Q) hR n (cs.drop w) (by simp; omega) fun i hi => by
      have := h (i + 1) (by omega)
      rw [List.drop_drop]
      rw [show w + i * w = (i + 1) * w by rw [Nat.add_mul, Nat.one_mul]; omega]
      exact this
    refine ⟨m :: ms, by simp [h1], ?_, fun x hx => by rcases List.mem_cons.1 hx with rfl | hx; exact hm; exact h3 x hx⟩
    rw [Nat.zero_mul, List.drop_zero] at e
    rw [← List.take_append_drop w cs, e, h2]
    rfl
theorem flatK_len {α : Type} {w : Nat} {enc : α → List AV} (hw : ∀ a, (enc a).length = w) : ∀ ms : List α, (ms.flatMap enc).length = ms.length * w
  | [] => by simp
  | m :: ms => by rw [List.flatMap_cons, List.length_append, hw, flatK_len hw ms, List.length_cons, Nat.add_mul]; omega
theorem flatK_at {α : Type} {w : Nat} {enc : α → List AV} (hw : ∀ a, (enc a).length = w) : ∀ (ms : List α) (i : Nat) (h : i < ms.length), List.take w (List.drop (i * w) (ms.flatMap enc)) = enc ms[i]
  | m :: ms, 0, h => by
    rw [Nat.zero_mul, List.drop_zero, List.flatMap_cons, List.take_append_of_le_length (by rw [hw]; exact Nat.le_refl _), List.take_of_length_le (by rw [hw]; exact Nat.le_refl _)]; rfl
  | m :: ms, i + 1, h => by
    have e : (i + 1) * w = (enc m).length + i * w := by rw [hw, Nat.add_mul]; omega
    have e2 : ∀ (a b : List AV) (j : Nat), (a ++ b).drop (a.length + j) = b.drop j := fun a b j => by rw [← List.drop_drop, List.drop_left]
    rw [List.flatMap_cons, e, e2, flatK_at hw ms i (by simpa using h)]
    rfl
theorem one_of {l : List AV} {i : Nat} {c : AV} (h : List.take 1 (List.drop i l) = [c]) : l[i]? = some c := by
  have := congrArg (fun l => l[0]?) h
  simpa [List.getElem?_take_of_lt] using this
/-- A call. -/
structure Cal where
  w : Int
  a : Int
  b : Int
  c : Int
  d : Int
def Cal.cells (x : Cal) : List AV := [.int .u8 x.w, .int .i64 x.a, .int .i64 x.b, .int .i64 x.c, .int .i64 x.d]
def In64 (n : Int) : Prop := -9223372036854775808 ≤ n ∧ n ≤ 9223372036854775807
structure Cal.ok (x : Cal) : Prop where
  w : 0 ≤ x.w ∧ x.w ≤ 255
  a : In64 x.a
  b : In64 x.b
  c : In64 x.c
  d : In64 x.d
theorem cOf3 : Try.prog.cellsOf 3 = 1 := by kernel_rfl
theorem cOf5 : Try.prog.cellsOf 5 = 1 := by kernel_rfl
theorem set5 (a b c d e a' b' c' d' e' : AV) : setCells [a, b, c, d, e] 0 [a', b', c', d', e'] = [a', b', c', d', e'] := (rfl)
section
variable {B : CallF} (hB : Silent B) (k : Nat) {S : Heap}
include hB
theorem read_c (s : ByteArray) (hs : s.size ≤ 1099511627776) : ∃ S', Cn B (k + 1) f_bits_Read 0 [.str s] S = some (.ptr S.next 0, S') ∧ Rdr S' S.next s 0 ∧ Fr S S' [] ∧ S'.next = S.next + 1 := by
  rw [c_bits_Read _ _ _ _ (hB.no _ _ _ _ (kn_no (by decide))), T_bits_Read]
  exact ⟨S.alloc [.str s, .int .i64 0], by simp only [zB, decide_true, decide_false, Bool.false_eq_true, if_false, if_true, List.getElem?_cons_zero, List.getElem?_cons_succ, beq_self_eq_true, bne_self_eq_false, Int.reduceBNe, Int.reduceBEq, Int.reduceLT, Int.reduceGT, Int.reduceLE, Int.reduceGE, Nat.reduceAdd, Nat.reduceMul, Nat.reduceLeDiff], ⟨alloc_blk _ _, Nat.lt_succ_self _, hs, Nat.zero_le _⟩, Fr.alloc _ _ _, rfl⟩
theorem read1_c (s : ByteArray) (hs : s.size ≤ 1099511627776) : ∃ S', Cn B (k + 1) f_spindleref01_Read 0 [.str s] S = some (.ptr S.next 0, S') ∧ Rdr S' S.next s 0 ∧ Fr S S' [] ∧ S'.next = S.next + 1 := by
  rw [c_spindleref01_Read _ _ _ _ (hB.no _ _ _ _ (kn_no (by decide))), T_spindleref01_Read]
  exact ⟨S.alloc [.str s, .int .i64 0], by simp only [zB, decide_true, decide_false, Bool.false_eq_true, if_false, if_true, List.getElem?_cons_zero, List.getElem?_cons_succ, beq_self_eq_true, bne_self_eq_false, Int.reduceBNe, Int.reduceBEq, Int.reduceLT, Int.reduceGT, Int.reduceLE, Int.reduceGE, Nat.reduceAdd, Nat.reduceMul, Nat.reduceLeDiff], ⟨alloc_blk _ _, Nat.lt_succ_self _, hs, Nat.zero_le _⟩, Fr.alloc _ _ _, rfl⟩
end

-- the codes are short
theorem clsC_len {c n : Nat} (hn : n ≤ 63) : (clsC c n).length ≤ 80 := by
  unfold clsC
  split
  · rw [bitsN_len]; omega
  · unfold ukC
    rw [List.length_append, ueC_len, bitsN_len]
    have h1 : n / 2 ^ (c % 4) ≤ n := Nat.div_le_self _ _
    have := L2_le (v := n / 2 ^ (c % 4) + 1) (by omega)
    omega
theorem tokP_len (a b c d : Int) : (tokP a b c d).2.length ≤ 80 := by
  unfold tokP
  split
  · simp
  · split
    · simp
    · rename_i h1 h2
      have h3 : (symR c d).2 = 0 := by rcases symR_two c d with h | h; exact h; exact absurd h (by intro h4; exact h2 (by rw [h4]; decide))
      have := symR_le h3
      exact clsC_len (by omega)
theorem zerP_len (a b c : Int) : (zerP a b c).2.length ≤ 80 := by
  unfold zerP
  split
  · simp
  · rename_i h
    simp only [not_or] at h
    have hs := (sizedI_iff a).1 (by simpa using h.1)
    obtain ⟨f1, f2, f3, f4, f5, f6⟩ := cut_facts ⟨(a - b).toNat, by omega⟩
    simp only at f3
    split <;> simp only [bitsN_len] <;> omega
theorem runP_len (a b : Int) : (runP a b).2.length ≤ 80 := by
  unfold runP
  split
  · simp
  · split <;> simp only [bitsN_len] <;> omega

theorem maxLen_is : maxLen = 9223372036854775807 := by unfold maxLen; rfl
theorem strEq_self (s : ByteArray) : strEq s s = true := by simp [strEq]
end Go.Ab.tV
