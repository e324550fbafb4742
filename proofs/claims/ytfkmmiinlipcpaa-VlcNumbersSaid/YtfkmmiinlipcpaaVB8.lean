/- What is known beforehand; what the arguments of the statements are; the statements of layer 18 that compare with the reference. -/
import Derived.Test.YtfkmmiinlipcpaaVB7
set_option maxRecDepth 100000
set_option linter.unusedSimpArgs false
set_option linter.unusedVariables false
set_option linter.unusedSectionVars false
namespace Go.Ab.tV
open Go Go.Proofs

noncomputable def Bk : CallF := fun f way args S => if kn f args = true ∧ way = 0 then locC (tabN (rows (ctlF 1000)) 60) f 0 args S else none
theorem mixed : Try.prog.follows .mixedOrders = true := by kernel_rfl
theorem noG : ∀ (i : Nat) (cs : List AV), (fun _ => none : Nat → Option (List AV)) i = some cs → noIdL cs = true := fun _ _ h => by cases h
theorem known_lt : ∀ f ∈ knownF, f < yldId := by
  have : (knownF.all fun f => decide (f < yldId)) = true := by decide
  exact fun f hf => of_decide_eq_true (List.all_eq_true.1 this f hf)
theorem Bk_ok : NOk Try.prog (fun _ => none) Bk := by
  have h0 := locC_ok noG (tabN_ok (rngC_ok (ctlF_ok 1000)) mixed (rows (ctlF 1000)) 60)
  refine ⟨fun f way args S r hlt h => ?_, fun f way args S h => ?_⟩
  · unfold Bk at h
    split at h
    · exact h0.ok _ _ _ _ _ hlt h
    · cases h
  · unfold Bk
    rw [if_neg]
    rintro ⟨hk, _⟩
    simp only [kn, Bool.and_eq_true, decide_eq_true_eq] at hk
    have := known_lt f hk.1
    omega
theorem Bk_silent : Silent Bk := ⟨fun f way args S h => by unfold Bk; rw [if_neg]; rw [h]; simp, fun f args S h => by unfold Bk; rw [if_pos ⟨h, rfl⟩]⟩
theorem Cn_ok (k : Nat) : NOk Try.prog (fun _ => none) (Cn Bk k) := callN_ok (rngC_ok ctlV_ok) mixed noG An Bk_ok k

-- arguments
theorem av3 {N F : Nat} {xs : List AV} (h : avOk Try.prog N (F + 1) 3 xs) : ∃ n : Int, xs = [.int .i64 n] ∧ -9223372036854775808 ≤ n ∧ n ≤ 9223372036854775807 := by
  unfold avOk at h
  rw [show Try.prog.underlying 3 = some (.int .i64) by kernel_rfl] at h
  simp only at h
  obtain ⟨n, h1, h2⟩ := h
  exact ⟨n, h1, by simpa [Lit.wf, IntKind.min, IntKind.max, IntKind.signed, IntKind.bits] using h2⟩
theorem av5 {N F : Nat} {xs : List AV} (h : avOk Try.prog N (F + 1) 5 xs) : ∃ n : Int, xs = [.int .u8 n] ∧ 0 ≤ n ∧ n ≤ 255 := by
  unfold avOk at h
  rw [show Try.prog.underlying 5 = some (.int .u8) by kernel_rfl] at h
  simp only at h
  obtain ⟨n, h1, h2⟩ := h
  exact ⟨n, h1, by simpa [Lit.wf, IntKind.min, IntKind.max, IntKind.signed, IntKind.bits] using h2⟩
theorem av9 {N F : Nat} {xs : List AV} (h : avOk Try.prog N (F + 1) 9 xs) : ∃ s, xs = [.str s] ∧ s.size ≤ N := by
  unfold avOk at h
  rw [show Try.prog.underlying 9 = some .string by kernel_rfl] at h
  exact h
theorem arg3 {a : AV} (h : argOk Try.prog maxLen 16 3 a) : ∃ n : Int, a = .int .i64 n ∧ -9223372036854775808 ≤ n ∧ n ≤ 9223372036854775807 := by
  unfold argOk at h
  rw [show Try.prog.underlying 3 = some (.int .i64) by kernel_rfl] at h
  obtain ⟨n, h1, h2⟩ := av3 h
  exact ⟨n, by simpa using h1, h2⟩
theorem arg5 {a : AV} (h : argOk Try.prog maxLen 16 5 a) : ∃ n : Int, a = .int .u8 n ∧ 0 ≤ n ∧ n ≤ 255 := by
  unfold argOk at h
  rw [show Try.prog.underlying 5 = some (.int .u8) by kernel_rfl] at h
  obtain ⟨n, h1, h2⟩ := av5 h
  exact ⟨n, by simpa using h1, h2⟩
theorem arg9 {a : AV} (h : argOk Try.prog maxLen 16 9 a) : ∃ s, a = .str s ∧ s.size ≤ maxLen := by
  unfold argOk at h
  rw [show Try.prog.underlying 9 = some .string by kernel_rfl] at h
  obtain ⟨s, h1, h2⟩ := av9 h
  exact ⟨s, by simpa using h1, h2⟩
theorem chunks_of {α : Type} {w : Nat} {enc : α → List AV} {Q : α → Prop} {R : List AV → Prop} (hR : ∀ l, R l → ∃ m : α, l = enc m ∧ Q m) : ∀ (n : Nat) (cs : List AV), cs.length = n * w → (∀ i, i < n → R (List.take w (List.drop (i * w) cs))) → ∃ ms : List α, ms.length = n ∧ cs = ms.flatMap enc ∧ ∀ m ∈ ms, Q m
  | 0, cs, hl, _ => ⟨[], rfl, List.length_eq_zero_iff.1 (by omega), by simp⟩
  | n + 1, cs, hl, h => by
    obtain ⟨m, e, hm⟩ := hR _ (h 0 (by omega))
    rw [Nat.add_mul, Nat.one_mul] at hl
    obtain ⟨ms, h1, h2, h3⟩ := chunks_of (w := w) (enc := enc) (Q := Q) hR n (cs.drop w) (by simp; omega) fun i hi => by
      have := h (i + 1) (by omega)
      rw [List.drop_drop]
      rw [show w + i * w = (i + 1) * w by rw [Nat.add_mul, Nat.one_mul]; omega]
      exact this
    refine ⟨m :: ms, by simp [h1], ?_, fun x hx => by rcases List.mem_cons.1 hx with rfl | hx; exact hm; exact h3 x hx⟩
    rw [Nat.zero_mul, List.drop_zero] at e
    rw [← List.take_append_drop w cs, e, h2]
    rfl
theorem flatK_len {α : Type} {w : Nat} {enc : α → List AV} (hw : ∀ a, (enc a).length = w) : ∀ ms : List α, (ms.flatMap enc).length = ms.length * w
  | [] => by simp
  | m :: ms => by rw [List.flatMap_cons, List.length_append, hw, flatK_len hw ms, List.length_cons, Nat.add_mul]; omega
theorem flatK_at {α : Type} {w : Nat} {enc : α → List AV} (hw : ∀ a, (enc a).length = w) : ∀ (ms : List α) (i : Nat) (h : i < ms.length), List.take w (List.drop (i * w) (ms.flatMap enc)) = enc ms[i]
  | m :: ms, 0, h => by
    rw [Nat.zero_mul, List.drop_zero, List.flatMap_cons, List.take_append_of_le_length (by rw [hw]; exact Nat.le_refl _), List.take_of_length_le (by rw [hw]; exact Nat.le_refl _)]; rfl
  | m :: ms, i + 1, h => by
    have e : (i + 1) * w = (enc m).length + i * w := by rw [hw, Nat.add_mul]; omega
    have e2 : ∀ (a b : List AV) (j : Nat), (a ++ b).drop (a.length + j) = b.drop j := fun a b j => by rw [← List.drop_drop, List.drop_left]
    rw [List.flatMap_cons, e, e2, flatK_at hw ms i (by simpa using h)]
    rfl
theorem one_of {l : List AV} {i : Nat} {c : AV} (h : List.take 1 (List.drop i l) = [c]) : l[i]? = some c := by
  have := congrArg (fun l => l[0]?) h
  simpa [List.getElem?_take_of_lt] using this
/-- A call. -/
structure Cal where
  w : Int
  a : Int
  b : Int
  c : Int
  d : Int
def Cal.cells (x : Cal) : List AV := [.int .u8 x.w, .int .i64 x.a, .int .i64 x.b, .int .i64 x.c, .int .i64 x.d]
def In64 (n : Int) : Prop := -9223372036854775808 ≤ n ∧ n ≤ 9223372036854775807
structure Cal.ok (x : Cal) : Prop where
  w : 0 ≤ x.w ∧ x.w ≤ 255
  a : In64 x.a
  b : In64 x.b
  c : In64 x.c
  d : In64 x.d
theorem cOf3 : Try.prog.cellsOf 3 = 1 := by kernel_rfl
theorem cOf5 : Try.prog.cellsOf 5 = 1 := by kernel_rfl
theorem cOfC : Try.prog.cellsOf 41 = 5 := by kernel_rfl
theorem av_call {N F : Nat} {xs : List AV} (h : avOk Try.prog N (F + 2) 41 xs) : ∃ x : Cal, xs = x.cells ∧ x.ok := by
  unfold avOk at h
  obtain ⟨f1, f2, f3, f4, f5, hS, o1, o2, o3, o4, o5, t1, t2, t3, t4, t5⟩ : ∃ f1 f2 f3 f4 f5 : Field, Try.prog.underlying 41 = some (.struct #[f1, f2, f3, f4, f5]) ∧ f1.offset = 0 ∧ f2.offset = 1 ∧ f3.offset = 2 ∧ f4.offset = 3 ∧ f5.offset = 4 ∧ f1.type = 5 ∧ f2.type = 3 ∧ f3.type = 3 ∧ f4.type = 3 ∧ f5.type = 3 := by
    have hq : (match Try.prog.underlying 41 with | some (.struct fs) => fs.toList.map (fun f => (f.offset, f.type)) | _ => []) = [(0, 5), (1, 3), (2, 3), (3, 3), (4, 3)] := by kernel_rfl
    split at hq
    · rename_i fs hfs
      obtain ⟨l⟩ := fs
      match l, hq with
      | [f1, f2, f3, f4, f5], hq =>
        simp only [List.map_cons, List.map_nil, List.cons.injEq, Prod.mk.injEq, and_true] at hq
        obtain ⟨⟨a1, a2⟩, ⟨b1, b2⟩, ⟨c1, c2⟩, ⟨d1, d2⟩, e1, e2⟩ := hq
        exact ⟨f1, f2, f3, f4, f5, hfs, a1, b1, c1, d1, e1, a2, b2, c2, d2, e2⟩
    · cases hq
  rw [hS] at h
  simp only [cOfC] at h
  obtain ⟨hl, hf⟩ := h
  have h1 := hf f1 (by simp)
  have h2 := hf f2 (by simp)
  have h3 := hf f3 (by simp)
  have h4 := hf f4 (by simp)
  have h5 := hf f5 (by simp)
  rw [o1, t1, cOf5] at h1
  rw [o2, t2, cOf3] at h2
  rw [o3, t3, cOf3] at h3
  rw [o4, t4, cOf3] at h4
  rw [o5, t5, cOf3] at h5
  obtain ⟨w, e1, i1⟩ := av5 h1
  obtain ⟨a, e2, i2⟩ := av3 h2
  obtain ⟨b, e3, i3⟩ := av3 h3
  obtain ⟨c, e4, i4⟩ := av3 h4
  obtain ⟨d, e5, i5⟩ := av3 h5
  refine ⟨⟨w, a, b, c, d⟩, ?_, i1, i2, i3, i4, i5⟩
  match xs, hl with
  | [x1, x2, x3, x4, x5], _ =>
    simp at e1 e2 e3 e4 e5
    simp only [Cal.cells, e1, e2, e3, e4, e5]
theorem arg_call {a : AV} (h : argOk Try.prog maxLen 16 41 a) : ∃ x : Cal, a = .agg x.cells ∧ x.ok := by
  unfold argOk at h
  have hS : ∃ fs, Try.prog.underlying 41 = some (.struct fs) := by
    have hq : (match Try.prog.underlying 41 with | some (.struct fs) => true | _ => false) = true := by kernel_rfl
    split at hq
    · rename_i fs hfs; exact ⟨fs, hfs⟩
    · cases hq
  obtain ⟨fs, hS⟩ := hS
  rw [hS] at h
  obtain ⟨cs, rfl, h⟩ := h
  obtain ⟨x, rfl, hx⟩ := av_call (F := 14) h
  exact ⟨x, rfl, hx⟩
def RowC (a : AV) (l : List Cal) : Prop := (a = .nils ∧ l = []) ∨ a = .is l.length (l.flatMap Cal.cells)
theorem arg_calls {a : AV} (h : argOk Try.prog maxLen 16 37 a) : ∃ l : List Cal, RowC a l ∧ ∀ x ∈ l, x.ok := by
  unfold argOk at h
  have hu : Try.prog.underlying 37 = some (.slice 41) := by kernel_rfl
  rw [hu] at h
  simp only at h
  unfold avOk at h
  rw [hu] at h
  simp only [cOfC] at h
  rcases h with h | ⟨n, cs, h, h1, h2, h3⟩
  · exact ⟨[], .inl ⟨by simpa using h, rfl⟩, by simp⟩
  · obtain ⟨l, e1, e2, e3⟩ := chunks_of (Q := Cal.ok) (fun l hl => av_call (F := 13) hl) n cs h2 h3
    subst e1 e2
    exact ⟨l, .inr (by simpa using h), e3⟩
theorem RowC.len {a : AV} {l : List Cal} (h : RowC a l) : aLen Try.prog 37 a = some (.int .i64 (l.length : Int)) := by
  rcases h with ⟨rfl, rfl⟩ | rfl
  · exact len_nils37
  · exact len_is37 _ _
theorem RowC.at {a : AV} {l : List Cal} (h : RowC a l) {i : Nat} (hi : i < l.length) : ∃ cs, aIdx 5 a (i : Int) = some (.iptr cs) ∧ 5 ≤ cs.length ∧ List.take 5 cs = [.int .u8 l[i].w, .int .i64 l[i].a, .int .i64 l[i].b, .int .i64 l[i].c, .int .i64 l[i].d] := by
  rcases h with ⟨rfl, rfl⟩ | rfl
  · simp at hi
  · have hl := flatK_len (w := 5) (enc := Cal.cells) (fun _ => rfl) l
    exact ⟨(l.flatMap Cal.cells).drop (i * 5), by simp [aIdx, hi], by rw [List.length_drop]; omega, flatK_at (w := 5) (enc := Cal.cells) (fun _ => rfl) l i hi⟩
theorem set5 (a b c d e a' b' c' d' e' : AV) : setCells [a, b, c, d, e] 0 [a', b', c', d', e'] = [a', b', c', d', e'] := (rfl)
theorem known18_chk : chk f_spindlelaw18_known [] (.bool true) = true := by kernel_rfl
section
variable {B : CallF} (hB : Silent B) (k : Nat) {S : Heap}
include hB
theorem known18_c : Cn B k f_spindlelaw18_known 0 [] S = some (.bool true, S) := chk_c hB known18_chk _ _
theorem read_c (s : ByteArray) (hs : s.size ≤ 1099511627776) : ∃ S', Cn B (k + 1) f_bits_Read 0 [.str s] S = some (.ptr S.next 0, S') ∧ Rdr S' S.next s 0 ∧ Fr S S' [] ∧ S'.next = S.next + 1 := by
  rw [c_bits_Read _ _ _ _ (hB.no _ _ _ _ (kn_no (by decide))), T_bits_Read]
  exact ⟨S.alloc [.str s, .int .i64 0], by simp only [eql_ptr31, eql_nilp31, eql_ptr38, eql_nilp38, eql_ptr54, eql_nilp54, eql_ptr62, eql_nilp62, eql_ptr137, eql_nilp137, eql_ptr149, eql_nilp149, eql_b4, neq_b4, len_nils37, len_is37, len_hs37, len_nils71, len_is71, len_hs71, len_nils76, len_is76, len_hs76, len_nils81, len_is81, len_hs81, len_nils100, len_is100, len_hs100, len_nils103, len_is103, len_hs103, bO_s, gB_t, asBool_b, asInt_i, asAgg_a, asTup_a, asStr_s, asCons_c, asNil_n, nthA_0, nthA_s, aggCells_a, addV_p, addV_i, seeV_p, seeV_i, same_nil, same_1, same_2, tr_v, decide_true, decide_false, Bool.false_eq_true, if_false, if_true, Bool.not_true, Bool.not_false, Bool.and_true, Bool.true_and, Bool.and_self, List.getElem?_cons_zero, List.getElem?_cons_succ, Nat.zero_add, Nat.add_zero, beq_self_eq_true, bne_self_eq_false, Int.reduceBNe, Int.reduceBEq, Int.reduceLT, Int.reduceGT, Int.reduceLE, Int.reduceGE, Nat.reduceAdd, Nat.reduceMul, Nat.reduceLeDiff], ⟨alloc_blk _ _, Nat.lt_succ_self _, hs, Nat.zero_le _⟩, Fr.alloc _ _ _, rfl⟩
theorem read1_c (s : ByteArray) (hs : s.size ≤ 1099511627776) : ∃ S', Cn B (k + 1) f_spindleref01_Read 0 [.str s] S = some (.ptr S.next 0, S') ∧ Rdr S' S.next s 0 ∧ Fr S S' [] ∧ S'.next = S.next + 1 := by
  rw [c_spindleref01_Read _ _ _ _ (hB.no _ _ _ _ (kn_no (by decide))), T_spindleref01_Read]
  exact ⟨S.alloc [.str s, .int .i64 0], by simp only [eql_ptr31, eql_nilp31, eql_ptr38, eql_nilp38, eql_ptr54, eql_nilp54, eql_ptr62, eql_nilp62, eql_ptr137, eql_nilp137, eql_ptr149, eql_nilp149, eql_b4, neq_b4, len_nils37, len_is37, len_hs37, len_nils71, len_is71, len_hs71, len_nils76, len_is76, len_hs76, len_nils81, len_is81, len_hs81, len_nils100, len_is100, len_hs100, len_nils103, len_is103, len_hs103, bO_s, gB_t, asBool_b, asInt_i, asAgg_a, asTup_a, asStr_s, asCons_c, asNil_n, nthA_0, nthA_s, aggCells_a, addV_p, addV_i, seeV_p, seeV_i, same_nil, same_1, same_2, tr_v, decide_true, decide_false, Bool.false_eq_true, if_false, if_true, Bool.not_true, Bool.not_false, Bool.and_true, Bool.true_and, Bool.and_self, List.getElem?_cons_zero, List.getElem?_cons_succ, Nat.zero_add, Nat.add_zero, beq_self_eq_true, bne_self_eq_false, Int.reduceBNe, Int.reduceBEq, Int.reduceLT, Int.reduceGT, Int.reduceLE, Int.reduceGE, Nat.reduceAdd, Nat.reduceMul, Nat.reduceLeDiff], ⟨alloc_blk _ _, Nat.lt_succ_self _, hs, Nat.zero_le _⟩, Fr.alloc _ _ _, rfl⟩
end

-- the codes are short
theorem clsC_len {c n : Nat} (hn : n ≤ 63) : (clsC c n).length ≤ 80 := by
  unfold clsC
  split
  · rw [bitsN_len]; omega
  · unfold ukC
    rw [List.length_append, ueC_len, bitsN_len]
    have h1 : n / 2 ^ (c % 4) ≤ n := Nat.div_le_self _ _
    have := L2_le (v := n / 2 ^ (c % 4) + 1) (by omega)
    omega
theorem tokP_len (a b c d : Int) : (tokP a b c d).2.length ≤ 80 := by
  unfold tokP
  split
  · simp
  · split
    · simp
    · rename_i h1 h2
      have h3 : (symR c d).2 = 0 := by rcases symR_two c d with h | h; exact h; exact absurd h (by intro h4; exact h2 (by rw [h4]; decide))
      have := symR_le h3
      exact clsC_len (by omega)
theorem zerP_len (a b c : Int) : (zerP a b c).2.length ≤ 80 := by
  unfold zerP
  split
  · simp
  · rename_i h
    simp only [not_or] at h
    have hs := (sizedI_iff a).1 (by simpa using h.1)
    obtain ⟨f1, f2, f3, f4, f5, f6⟩ := cut_facts ⟨(a - b).toNat, by omega⟩
    simp only at f3
    split <;> simp only [bitsN_len] <;> omega
theorem runP_len (a b : Int) : (runP a b).2.length ≤ 80 := by
  unfold runP
  split
  · simp
  · split <;> simp only [bitsN_len] <;> omega

theorem pairs_law (t o n : Int) : ∃ S', Cn Bk 4 f_spindlelaw18_VlcPairs 0 [.int .i64 t, .int .i64 o, .int .i64 n] S0 = some (.bool true, S') := by
  have hB := Bk_silent
  rw [c_spindlelaw18_VlcPairs _ _ _ _ _ _ (hB.no _ _ _ _ (kn_no (by decide))), T_spindlelaw18_VlcPairs]
  have e1 := symbol_c hB 1 (S := S0) t o
  have e2 := symbol1_c hB 2 (S := S0) t o
  have e3 := pair_c hB 1 (S := S0) n
  have e4 := pair1_c hB 2 (S := S0) n
  have e5 := known18_c hB 3 (S := S0)
  exact ⟨S0, by simp only [eql_ptr31, eql_nilp31, eql_ptr38, eql_nilp38, eql_ptr54, eql_nilp54, eql_ptr62, eql_nilp62, eql_ptr137, eql_nilp137, eql_ptr149, eql_nilp149, eql_b4, neq_b4, len_nils37, len_is37, len_hs37, len_nils71, len_is71, len_hs71, len_nils76, len_is76, len_hs76, len_nils81, len_is81, len_hs81, len_nils100, len_is100, len_hs100, len_nils103, len_is103, len_hs103, bO_s, gB_t, asBool_b, asInt_i, asAgg_a, asTup_a, asStr_s, asCons_c, asNil_n, nthA_0, nthA_s, aggCells_a, addV_p, addV_i, seeV_p, seeV_i, same_nil, same_1, same_2, tr_v, decide_true, decide_false, Bool.false_eq_true, if_false, if_true, Bool.not_true, Bool.not_false, Bool.and_true, Bool.true_and, Bool.and_self, List.getElem?_cons_zero, List.getElem?_cons_succ, Nat.zero_add, Nat.add_zero, beq_self_eq_true, bne_self_eq_false, Int.reduceBNe, Int.reduceBEq, Int.reduceLT, Int.reduceGT, Int.reduceLE, Int.reduceGE, Nat.reduceAdd, Nat.reduceMul, Nat.reduceLeDiff, e1, e2, e3, e4, e5]⟩
theorem maxLen_is : maxLen = 9223372036854775807 := by unfold maxLen; rfl
theorem reads_law {s : ByteArray} {a : AV} {l : List Cal} (hl : RowC a l) (hok : ∀ x ∈ l, x.ok) : ∃ S', Cn Bk 10 f_spindlelaw18_VlcReads 0 [.str s, a] S0 = some (.bool true, S') := by
  have hB := Bk_silent
  rw [c_spindlelaw18_VlcReads _ _ _ _ _ (hB.no _ _ _ _ (kn_no (by decide))), T_spindlelaw18_VlcReads]
  have e0 := fun S => known18_c hB 9 (S := S)
  by_cases g1 : (s.size : Int) > 200
  · exact ⟨S0, by simp only [eql_ptr31, eql_nilp31, eql_ptr38, eql_nilp38, eql_ptr54, eql_nilp54, eql_ptr62, eql_nilp62, eql_ptr137, eql_nilp137, eql_ptr149, eql_nilp149, eql_b4, neq_b4, len_nils37, len_is37, len_hs37, len_nils71, len_is71, len_hs71, len_nils76, len_is76, len_hs76, len_nils81, len_is81, len_hs81, len_nils100, len_is100, len_hs100, len_nils103, len_is103, len_hs103, bO_s, gB_t, asBool_b, asInt_i, asAgg_a, asTup_a, asStr_s, asCons_c, asNil_n, nthA_0, nthA_s, aggCells_a, addV_p, addV_i, seeV_p, seeV_i, same_nil, same_1, same_2, tr_v, decide_true, decide_false, Bool.false_eq_true, if_false, if_true, Bool.not_true, Bool.not_false, Bool.and_true, Bool.true_and, Bool.and_self, List.getElem?_cons_zero, List.getElem?_cons_succ, Nat.zero_add, Nat.add_zero, beq_self_eq_true, bne_self_eq_false, Int.reduceBNe, Int.reduceBEq, Int.reduceLT, Int.reduceGT, Int.reduceLE, Int.reduceGE, Nat.reduceAdd, Nat.reduceMul, Nat.reduceLeDiff, g1, e0]⟩
  by_cases g2 : (l.length : Int) > 40
  · exact ⟨S0, by simp only [eql_ptr31, eql_nilp31, eql_ptr38, eql_nilp38, eql_ptr54, eql_nilp54, eql_ptr62, eql_nilp62, eql_ptr137, eql_nilp137, eql_ptr149, eql_nilp149, eql_b4, neq_b4, len_nils37, len_is37, len_hs37, len_nils71, len_is71, len_hs71, len_nils76, len_is76, len_hs76, len_nils81, len_is81, len_hs81, len_nils100, len_is100, len_hs100, len_nils103, len_is103, len_hs103, bO_s, gB_t, asBool_b, asInt_i, asAgg_a, asTup_a, asStr_s, asCons_c, asNil_n, nthA_0, nthA_s, aggCells_a, addV_p, addV_i, seeV_p, seeV_i, same_nil, same_1, same_2, tr_v, decide_true, decide_false, Bool.false_eq_true, if_false, if_true, Bool.not_true, Bool.not_false, Bool.and_true, Bool.true_and, Bool.and_self, List.getElem?_cons_zero, List.getElem?_cons_succ, Nat.zero_add, Nat.add_zero, beq_self_eq_true, bne_self_eq_false, Int.reduceBNe, Int.reduceBEq, Int.reduceLT, Int.reduceGT, Int.reduceLE, Int.reduceGE, Nat.reduceAdd, Nat.reduceMul, Nat.reduceLeDiff, g1, hl.len, g2, e0]⟩
  obtain ⟨S1, e1, h1, f1, n1⟩ := read_c hB 8 (S := S0) s (by omega)
  obtain ⟨S2, e2, h2, f2, n2⟩ := read1_c hB 8 (S := S1) s (by omega)
  obtain ⟨p, hp⟩ : ∃ p, p = S0.next := ⟨_, rfl⟩
  obtain ⟨p', hp'⟩ : ∃ p', p' = S1.next := ⟨_, rfl⟩
  rw [← hp] at e1 h1 n1
  rw [← hp'] at e2 h2 n2 n1
  have hne : p ≠ p' := by omega
  have h1' := h1.fr f2 (by simp)
  simp only [eql_ptr31, eql_nilp31, eql_ptr38, eql_nilp38, eql_ptr54, eql_nilp54, eql_ptr62, eql_nilp62, eql_ptr137, eql_nilp137, eql_ptr149, eql_nilp149, eql_b4, neq_b4, len_nils37, len_is37, len_hs37, len_nils71, len_is71, len_hs71, len_nils76, len_is76, len_hs76, len_nils81, len_is81, len_hs81, len_nils100, len_is100, len_hs100, len_nils103, len_is103, len_hs103, bO_s, gB_t, asBool_b, asInt_i, asAgg_a, asTup_a, asStr_s, asCons_c, asNil_n, nthA_0, nthA_s, aggCells_a, addV_p, addV_i, seeV_p, seeV_i, same_nil, same_1, same_2, tr_v, decide_true, decide_false, Bool.false_eq_true, if_false, if_true, Bool.not_true, Bool.not_false, Bool.and_true, Bool.true_and, Bool.and_self, List.getElem?_cons_zero, List.getElem?_cons_succ, Nat.zero_add, Nat.add_zero, beq_self_eq_true, bne_self_eq_false, Int.reduceBNe, Int.reduceBEq, Int.reduceLT, Int.reduceGT, Int.reduceLE, Int.reduceGE, Nat.reduceAdd, Nat.reduceMul, Nat.reduceLeDiff, g1, hl.len, g2, e1, e2]
  refine loop_meas (fun o => ∃ S', o = some (AV.bool true, S')) (fun m st => ∃ i T at', i + m = l.length ∧ st = ([a, .ptr p 0, .ptr p' 0, .int .i64 (i : Int)], T) ∧ Rdr T p s at' ∧ Rdr T p' s at') l.length ⟨0, S2, 0, by omega, rfl, h1', h2⟩ ?_
  rintro m st ⟨i, T, at', him, rfl, hT, hT'⟩
  cases m with
  | zero =>
    have c1 : ¬ ((i : Int) < (l.length : Int)) := by omega
    exact .inl ⟨(0, [], T), by simp only [eql_ptr31, eql_nilp31, eql_ptr38, eql_nilp38, eql_ptr54, eql_nilp54, eql_ptr62, eql_nilp62, eql_ptr137, eql_nilp137, eql_ptr149, eql_nilp149, eql_b4, neq_b4, len_nils37, len_is37, len_hs37, len_nils71, len_is71, len_hs71, len_nils76, len_is76, len_hs76, len_nils81, len_is81, len_hs81, len_nils100, len_is100, len_hs100, len_nils103, len_is103, len_hs103, bO_s, gB_t, asBool_b, asInt_i, asAgg_a, asTup_a, asStr_s, asCons_c, asNil_n, nthA_0, nthA_s, aggCells_a, addV_p, addV_i, seeV_p, seeV_i, same_nil, same_1, same_2, tr_v, decide_true, decide_false, Bool.false_eq_true, if_false, if_true, Bool.not_true, Bool.not_false, Bool.and_true, Bool.true_and, Bool.and_self, List.getElem?_cons_zero, List.getElem?_cons_succ, Nat.zero_add, Nat.add_zero, beq_self_eq_true, bne_self_eq_false, Int.reduceBNe, Int.reduceBEq, Int.reduceLT, Int.reduceGT, Int.reduceLE, Int.reduceGE, Nat.reduceAdd, Nat.reduceMul, Nat.reduceLeDiff, hl.len, c1], T, by simp only [eql_ptr31, eql_nilp31, eql_ptr38, eql_nilp38, eql_ptr54, eql_nilp54, eql_ptr62, eql_nilp62, eql_ptr137, eql_nilp137, eql_ptr149, eql_nilp149, eql_b4, neq_b4, len_nils37, len_is37, len_hs37, len_nils71, len_is71, len_hs71, len_nils76, len_is76, len_hs76, len_nils81, len_is81, len_hs81, len_nils100, len_is100, len_hs100, len_nils103, len_is103, len_hs103, bO_s, gB_t, asBool_b, asInt_i, asAgg_a, asTup_a, asStr_s, asCons_c, asNil_n, nthA_0, nthA_s, aggCells_a, addV_p, addV_i, seeV_p, seeV_i, same_nil, same_1, same_2, tr_v, decide_true, decide_false, Bool.false_eq_true, if_false, if_true, Bool.not_true, Bool.not_false, Bool.and_true, Bool.true_and, Bool.and_self, List.getElem?_cons_zero, List.getElem?_cons_succ, Nat.zero_add, Nat.add_zero, beq_self_eq_true, bne_self_eq_false, Int.reduceBNe, Int.reduceBEq, Int.reduceLT, Int.reduceGT, Int.reduceLE, Int.reduceGE, Nat.reduceAdd, Nat.reduceMul, Nat.reduceLeDiff, sel, e0]⟩
  | succ m =>
    have c1 : (i : Int) < (l.length : Int) := by omega
    have hi : i < l.length := by omega
    obtain ⟨cs, x1, x2, x3⟩ := hl.at hi
    have hx := hok _ (List.getElem_mem hi)
    generalize l[i] = x at x3 hx
    obtain ⟨xw, xa, xb, xc, xd⟩ := x
    have w1 : IntKind.wrap .i64 ((i : Int) + 1) = ((i + 1 : Nat) : Int) := by rw [wr _ (by omega)]; omega
    have fin : ∀ (T2 : Heap) (b : Nat), Rdr T2 p s b → Rdr T2 p' s b → ∃ m' s', m' < m + 1 ∧ some (Sum.inl ([a, .ptr p 0, .ptr p' 0, .int .i64 ((i + 1 : Nat) : Int)], T2) : LSt ⊕ (Nat × LSt)) = some (.inl s') ∧ ∃ i T at', i + m' = l.length ∧ s' = ([a, .ptr p 0, .ptr p' 0, .int .i64 (i : Int)], T) ∧ Rdr T p s at' ∧ Rdr T p' s at' :=
      fun T2 b r1 r2 => ⟨m, _, by omega, rfl, i + 1, T2, b, by omega, rfl, r1, r2⟩
    refine .inr ?_
    by_cases g3 : Int.tmod xw 3 = 0
    · have c3 : (Int.tmod xw 3 == 0) = true := by simp [g3]
      obtain ⟨T1, e3, r1, f3⟩ := token_c hB 0 hT xa xb
      obtain ⟨T2, e4, r2, f4⟩ := token1_c hB 2 (hT'.fr f3 (by simp [Ne.symm hne])) xa xb
      have r1' := r1.fr f4 (by simp [hne])
      have e5 := pos_c hB 8 r1'
      have e6 := pos1_c hB 8 r2
      obtain ⟨m', s', q1, q2, q3⟩ := fin T2 _ r1' r2
      exact ⟨m', s', q1, by rw [← q2]; simp only [eql_ptr31, eql_nilp31, eql_ptr38, eql_nilp38, eql_ptr54, eql_nilp54, eql_ptr62, eql_nilp62, eql_ptr137, eql_nilp137, eql_ptr149, eql_nilp149, eql_b4, neq_b4, len_nils37, len_is37, len_hs37, len_nils71, len_is71, len_hs71, len_nils76, len_is76, len_hs76, len_nils81, len_is81, len_hs81, len_nils100, len_is100, len_hs100, len_nils103, len_is103, len_hs103, bO_s, gB_t, asBool_b, asInt_i, asAgg_a, asTup_a, asStr_s, asCons_c, asNil_n, nthA_0, nthA_s, aggCells_a, addV_p, addV_i, seeV_p, seeV_i, same_nil, same_1, same_2, tr_v, decide_true, decide_false, Bool.false_eq_true, if_false, if_true, Bool.not_true, Bool.not_false, Bool.and_true, Bool.true_and, Bool.and_self, List.getElem?_cons_zero, List.getElem?_cons_succ, Nat.zero_add, Nat.add_zero, beq_self_eq_true, bne_self_eq_false, Int.reduceBNe, Int.reduceBEq, Int.reduceLT, Int.reduceGT, Int.reduceLE, Int.reduceGE, Nat.reduceAdd, Nat.reduceMul, Nat.reduceLeDiff, hl.len, c1, x1, x2, x3, List.length_cons, List.length_nil, List.all_cons, List.all_nil, cell, List.drop_zero, set5, c3, e3, e4, e5, e6, w1], q3⟩
    · have c3 : (Int.tmod xw 3 == 0) = false := by simp [g3]
      by_cases g4 : Int.tmod xw 3 = 1
      · have c4 : (Int.tmod xw 3 == 1) = true := by simp [g4]
        obtain ⟨T1, e3, r1, f3⟩ := zeros_c hB 6 hT xb xc
        obtain ⟨T2, e4, r2, f4⟩ := zeros1_c hB 6 (hT'.fr f3 (by simp [Ne.symm hne])) xb xc
        have r1' := r1.fr f4 (by simp [hne])
        have e5 := pos_c hB 8 r1'
        have e6 := pos1_c hB 8 r2
        obtain ⟨m', s', q1, q2, q3⟩ := fin T2 _ r1' r2
        exact ⟨m', s', q1, by rw [← q2]; simp only [eql_ptr31, eql_nilp31, eql_ptr38, eql_nilp38, eql_ptr54, eql_nilp54, eql_ptr62, eql_nilp62, eql_ptr137, eql_nilp137, eql_ptr149, eql_nilp149, eql_b4, neq_b4, len_nils37, len_is37, len_hs37, len_nils71, len_is71, len_hs71, len_nils76, len_is76, len_hs76, len_nils81, len_is81, len_hs81, len_nils100, len_is100, len_hs100, len_nils103, len_is103, len_hs103, bO_s, gB_t, asBool_b, asInt_i, asAgg_a, asTup_a, asStr_s, asCons_c, asNil_n, nthA_0, nthA_s, aggCells_a, addV_p, addV_i, seeV_p, seeV_i, same_nil, same_1, same_2, tr_v, decide_true, decide_false, Bool.false_eq_true, if_false, if_true, Bool.not_true, Bool.not_false, Bool.and_true, Bool.true_and, Bool.and_self, List.getElem?_cons_zero, List.getElem?_cons_succ, Nat.zero_add, Nat.add_zero, beq_self_eq_true, bne_self_eq_false, Int.reduceBNe, Int.reduceBEq, Int.reduceLT, Int.reduceGT, Int.reduceLE, Int.reduceGE, Nat.reduceAdd, Nat.reduceMul, Nat.reduceLeDiff, hl.len, c1, x1, x2, x3, List.length_cons, List.length_nil, List.all_cons, List.all_nil, cell, List.drop_zero, set5, c3, c4, e3, e4, e5, e6, w1], q3⟩
      · have c4 : (Int.tmod xw 3 == 1) = false := by simp [g4]
        obtain ⟨T1, e3, r1, f3⟩ := run_c hB 5 hT xa
        obtain ⟨T2, e4, r2, f4⟩ := run1_c hB 5 (hT'.fr f3 (by simp [Ne.symm hne])) xa
        have r1' := r1.fr f4 (by simp [hne])
        have e5 := pos_c hB 8 r1'
        have e6 := pos1_c hB 8 r2
        obtain ⟨m', s', q1, q2, q3⟩ := fin T2 _ r1' r2
        exact ⟨m', s', q1, by rw [← q2]; simp only [eql_ptr31, eql_nilp31, eql_ptr38, eql_nilp38, eql_ptr54, eql_nilp54, eql_ptr62, eql_nilp62, eql_ptr137, eql_nilp137, eql_ptr149, eql_nilp149, eql_b4, neq_b4, len_nils37, len_is37, len_hs37, len_nils71, len_is71, len_hs71, len_nils76, len_is76, len_hs76, len_nils81, len_is81, len_hs81, len_nils100, len_is100, len_hs100, len_nils103, len_is103, len_hs103, bO_s, gB_t, asBool_b, asInt_i, asAgg_a, asTup_a, asStr_s, asCons_c, asNil_n, nthA_0, nthA_s, aggCells_a, addV_p, addV_i, seeV_p, seeV_i, same_nil, same_1, same_2, tr_v, decide_true, decide_false, Bool.false_eq_true, if_false, if_true, Bool.not_true, Bool.not_false, Bool.and_true, Bool.true_and, Bool.and_self, List.getElem?_cons_zero, List.getElem?_cons_succ, Nat.zero_add, Nat.add_zero, beq_self_eq_true, bne_self_eq_false, Int.reduceBNe, Int.reduceBEq, Int.reduceLT, Int.reduceGT, Int.reduceLE, Int.reduceGE, Nat.reduceAdd, Nat.reduceMul, Nat.reduceLeDiff, hl.len, c1, x1, x2, x3, List.length_cons, List.length_nil, List.all_cons, List.all_nil, cell, List.drop_zero, set5, c3, c4, e3, e4, e5, e6, w1], q3⟩
theorem strEq_self (s : ByteArray) : strEq s s = true := by simp [strEq]
theorem writes_law {a : AV} {l : List Cal} (hl : RowC a l) (hok : ∀ x ∈ l, x.ok) : ∃ S', Cn Bk 10 f_spindlelaw18_VlcWrites 0 [a] S0 = some (.bool true, S') := by
  have hB := Bk_silent
  rw [c_spindlelaw18_VlcWrites _ _ _ _ (hB.no _ _ _ _ (kn_no (by decide))), T_spindlelaw18_VlcWrites]
  have e0 := fun S => known18_c hB 9 (S := S)
  by_cases g2 : (l.length : Int) > 40
  · exact ⟨S0, by simp only [eql_ptr31, eql_nilp31, eql_ptr38, eql_nilp38, eql_ptr54, eql_nilp54, eql_ptr62, eql_nilp62, eql_ptr137, eql_nilp137, eql_ptr149, eql_nilp149, eql_b4, neq_b4, len_nils37, len_is37, len_hs37, len_nils71, len_is71, len_hs71, len_nils76, len_is76, len_hs76, len_nils81, len_is81, len_hs81, len_nils100, len_is100, len_hs100, len_nils103, len_is103, len_hs103, bO_s, gB_t, asBool_b, asInt_i, asAgg_a, asTup_a, asStr_s, asCons_c, asNil_n, nthA_0, nthA_s, aggCells_a, addV_p, addV_i, seeV_p, seeV_i, same_nil, same_1, same_2, tr_v, decide_true, decide_false, Bool.false_eq_true, if_false, if_true, Bool.not_true, Bool.not_false, Bool.and_true, Bool.true_and, Bool.and_self, List.getElem?_cons_zero, List.getElem?_cons_succ, Nat.zero_add, Nat.add_zero, beq_self_eq_true, bne_self_eq_false, Int.reduceBNe, Int.reduceBEq, Int.reduceLT, Int.reduceGT, Int.reduceLE, Int.reduceGE, Nat.reduceAdd, Nat.reduceMul, Nat.reduceLeDiff, hl.len, g2, e0]⟩
  obtain ⟨S1, e1, h1, f1⟩ := write_c hB 8 (S := S0)
  obtain ⟨S2, e2, h2, f2⟩ := write1_c hB 8 (S := S1)
  have lt1 := h1.lt
  have h1' := h1.fr f2 (by simp) (by simp)
  have lt2 := f1.1
  simp only [eql_ptr31, eql_nilp31, eql_ptr38, eql_nilp38, eql_ptr54, eql_nilp54, eql_ptr62, eql_nilp62, eql_ptr137, eql_nilp137, eql_ptr149, eql_nilp149, eql_b4, neq_b4, len_nils37, len_is37, len_hs37, len_nils71, len_is71, len_hs71, len_nils76, len_is76, len_hs76, len_nils81, len_is81, len_hs81, len_nils100, len_is100, len_hs100, len_nils103, len_is103, len_hs103, bO_s, gB_t, asBool_b, asInt_i, asAgg_a, asTup_a, asStr_s, asCons_c, asNil_n, nthA_0, nthA_s, aggCells_a, addV_p, addV_i, seeV_p, seeV_i, same_nil, same_1, same_2, tr_v, decide_true, decide_false, Bool.false_eq_true, if_false, if_true, Bool.not_true, Bool.not_false, Bool.and_true, Bool.true_and, Bool.and_self, List.getElem?_cons_zero, List.getElem?_cons_succ, Nat.zero_add, Nat.add_zero, beq_self_eq_true, bne_self_eq_false, Int.reduceBNe, Int.reduceBEq, Int.reduceLT, Int.reduceGT, Int.reduceLE, Int.reduceGE, Nat.reduceAdd, Nat.reduceMul, Nat.reduceLeDiff, hl.len, g2, e1, e2]
  obtain ⟨p, hp⟩ : ∃ p, p = S0.next := ⟨_, rfl⟩
  obtain ⟨p', hp'⟩ : ∃ p', p' = S1.next := ⟨_, rfl⟩
  rw [← hp] at h1' lt1 ⊢
  rw [← hp'] at h2 lt1 ⊢
  refine loop_meas (fun o => ∃ S', o = some (AV.bool true, S')) (fun m st => ∃ i T q q' bs, i + m = l.length ∧ st = ([a, .ptr p 0, .ptr p' 0, .int .i64 (i : Int)], T) ∧ Wr T p q bs ∧ RWr T p' q' bs ∧ p ≠ p' ∧ p ≠ q' ∧ q ≠ p' ∧ q ≠ q' ∧ bs.length ≤ 80 * i) l.length
    ⟨0, S2, p, p', [], by omega, rfl, h1', h2, by omega, by omega, by omega, by omega, by simp⟩ ?_
  rintro m st ⟨i, T, q, q', bs, him, rfl, hT, hT', n1, n2, n3, n4, hlen⟩
  cases m with
  | zero =>
    have c1 : ¬ ((i : Int) < (l.length : Int)) := by omega
    obtain ⟨T1, e3, f3⟩ := wbits_c hB 7 hT (by omega)
    have e4 := wbits1_c hB 8 (hT'.fr f3 (by simp) (by simp))
    exact .inl ⟨(0, [.ptr p 0, .ptr p' 0], T), by simp only [eql_ptr31, eql_nilp31, eql_ptr38, eql_nilp38, eql_ptr54, eql_nilp54, eql_ptr62, eql_nilp62, eql_ptr137, eql_nilp137, eql_ptr149, eql_nilp149, eql_b4, neq_b4, len_nils37, len_is37, len_hs37, len_nils71, len_is71, len_hs71, len_nils76, len_is76, len_hs76, len_nils81, len_is81, len_hs81, len_nils100, len_is100, len_hs100, len_nils103, len_is103, len_hs103, bO_s, gB_t, asBool_b, asInt_i, asAgg_a, asTup_a, asStr_s, asCons_c, asNil_n, nthA_0, nthA_s, aggCells_a, addV_p, addV_i, seeV_p, seeV_i, same_nil, same_1, same_2, tr_v, decide_true, decide_false, Bool.false_eq_true, if_false, if_true, Bool.not_true, Bool.not_false, Bool.and_true, Bool.true_and, Bool.and_self, List.getElem?_cons_zero, List.getElem?_cons_succ, Nat.zero_add, Nat.add_zero, beq_self_eq_true, bne_self_eq_false, Int.reduceBNe, Int.reduceBEq, Int.reduceLT, Int.reduceGT, Int.reduceLE, Int.reduceGE, Nat.reduceAdd, Nat.reduceMul, Nat.reduceLeDiff, hl.len, c1], T1, by simp only [eql_ptr31, eql_nilp31, eql_ptr38, eql_nilp38, eql_ptr54, eql_nilp54, eql_ptr62, eql_nilp62, eql_ptr137, eql_nilp137, eql_ptr149, eql_nilp149, eql_b4, neq_b4, len_nils37, len_is37, len_hs37, len_nils71, len_is71, len_hs71, len_nils76, len_is76, len_hs76, len_nils81, len_is81, len_hs81, len_nils100, len_is100, len_hs100, len_nils103, len_is103, len_hs103, bO_s, gB_t, asBool_b, asInt_i, asAgg_a, asTup_a, asStr_s, asCons_c, asNil_n, nthA_0, nthA_s, aggCells_a, addV_p, addV_i, seeV_p, seeV_i, same_nil, same_1, same_2, tr_v, decide_true, decide_false, Bool.false_eq_true, if_false, if_true, Bool.not_true, Bool.not_false, Bool.and_true, Bool.true_and, Bool.and_self, List.getElem?_cons_zero, List.getElem?_cons_succ, Nat.zero_add, Nat.add_zero, beq_self_eq_true, bne_self_eq_false, Int.reduceBNe, Int.reduceBEq, Int.reduceLT, Int.reduceGT, Int.reduceLE, Int.reduceGE, Nat.reduceAdd, Nat.reduceMul, Nat.reduceLeDiff, sel, e3, e4, strEq_self, e0]⟩
  | succ m =>
    have c1 : (i : Int) < (l.length : Int) := by omega
    have hi : i < l.length := by omega
    obtain ⟨cs, x1, x2, x3⟩ := hl.at hi
    have hx := hok _ (List.getElem_mem hi)
    generalize l[i] = x at x3 hx
    obtain ⟨xw, xa, xb, xc, xd⟩ := x
    have w1 : IntKind.wrap .i64 ((i : Int) + 1) = ((i + 1 : Nat) : Int) := by rw [wr _ (by omega)]; omega
    have lt1 := hT.lt
    have lt2 := hT'.lts
    -- both have written the same
    have fin : ∀ (T1 T2 : Heap) (q1 q2 : Nat) (cs : List Bool), cs.length ≤ 80 → Puts T T1 p q q1 bs (bs ++ cs) → RPuts T1 T2 p' q' q2 (bs ++ cs) →
        Wr T2 p q1 (bs ++ cs) ∧ RWr T2 p' q2 (bs ++ cs) ∧ ∃ m' s', m' < m + 1 ∧ some (Sum.inl ([a, .ptr p 0, .ptr p' 0, .int .i64 ((i + 1 : Nat) : Int)], T2) : LSt ⊕ (Nat × LSt)) = some (.inl s') ∧
          ∃ i T q q' bs, i + m' = l.length ∧ s' = ([a, .ptr p 0, .ptr p' 0, .int .i64 (i : Int)], T) ∧ Wr T p q bs ∧ RWr T p' q' bs ∧ p ≠ p' ∧ p ≠ q' ∧ q ≠ p' ∧ q ≠ q' ∧ bs.length ≤ 80 * i := by
      intro T1 T2 q1 q2 cs hcs hP hR
      have hn := hP.2.1.1
      have l1 := hP.1.lt
      have d1 : q1 ≠ p' ∧ q1 ≠ q' := by rcases hP.2.2 with h | h <;> constructor <;> omega
      have hW : Wr T2 p q1 (bs ++ cs) := hP.1.fr hR.2.1 (by simp [n1, n2]) (by simp [d1])
      refine ⟨hW, hR.1, m, _, by omega, rfl, i + 1, T2, q1, q2, bs ++ cs, by omega, rfl, hW, hR.1, n1, ?_, d1.1, ?_, by rw [List.length_append]; omega⟩
      · rcases hR.2.2 with h | h <;> omega
      · rcases hR.2.2 with h | h <;> omega
    refine .inr ?_
    by_cases g3 : Int.tmod xw 3 = 0
    · have c3 : (Int.tmod xw 3 == 0) = true := by simp [g3]
      obtain ⟨T1, q1, e3, r1⟩ := puttoken_c hB 4 hT (by omega) xa xb xc xd
      obtain ⟨T2, q2, e4, r2⟩ := puttoken1_c hB 5 (hT'.fr r1.2.1 (by simp [Ne.symm n1, Ne.symm n3]) (by simp [Ne.symm n2, Ne.symm n4])) (by omega) xa xb xc xd
      have hcs := tokP_len xa xb xc xd
      obtain ⟨k1, k2, m', s', y1, y2, y3⟩ := fin T1 T2 q1 q2 _ hcs r1 r2
      have e5 := wlen_c hB 8 k1 (by rw [List.length_append]; omega)
      have e6 := wlen1_c hB 8 k2
      exact ⟨m', s', y1, by rw [← y2]; simp only [eql_ptr31, eql_nilp31, eql_ptr38, eql_nilp38, eql_ptr54, eql_nilp54, eql_ptr62, eql_nilp62, eql_ptr137, eql_nilp137, eql_ptr149, eql_nilp149, eql_b4, neq_b4, len_nils37, len_is37, len_hs37, len_nils71, len_is71, len_hs71, len_nils76, len_is76, len_hs76, len_nils81, len_is81, len_hs81, len_nils100, len_is100, len_hs100, len_nils103, len_is103, len_hs103, bO_s, gB_t, asBool_b, asInt_i, asAgg_a, asTup_a, asStr_s, asCons_c, asNil_n, nthA_0, nthA_s, aggCells_a, addV_p, addV_i, seeV_p, seeV_i, same_nil, same_1, same_2, tr_v, decide_true, decide_false, Bool.false_eq_true, if_false, if_true, Bool.not_true, Bool.not_false, Bool.and_true, Bool.true_and, Bool.and_self, List.getElem?_cons_zero, List.getElem?_cons_succ, Nat.zero_add, Nat.add_zero, beq_self_eq_true, bne_self_eq_false, Int.reduceBNe, Int.reduceBEq, Int.reduceLT, Int.reduceGT, Int.reduceLE, Int.reduceGE, Nat.reduceAdd, Nat.reduceMul, Nat.reduceLeDiff, hl.len, c1, x1, x2, x3, List.length_cons, List.length_nil, List.all_cons, List.all_nil, cell, List.drop_zero, set5, c3, e3, e4, e5, e6, w1], y3⟩
    · have c3 : (Int.tmod xw 3 == 0) = false := by simp [g3]
      by_cases g4 : Int.tmod xw 3 = 1
      · have c4 : (Int.tmod xw 3 == 1) = true := by simp [g4]
        obtain ⟨T1, q1, e3, r1⟩ := putzeros_c hB 7 hT (by omega) xb xc xd
        obtain ⟨T2, q2, e4, r2⟩ := putzeros1_c hB 7 (hT'.fr r1.2.1 (by simp [Ne.symm n1, Ne.symm n3]) (by simp [Ne.symm n2, Ne.symm n4])) (by omega) xb xc xd
        have hcs := zerP_len xb xc xd
        obtain ⟨k1, k2, m', s', y1, y2, y3⟩ := fin T1 T2 q1 q2 _ hcs r1 r2
        have e5 := wlen_c hB 8 k1 (by rw [List.length_append]; omega)
        have e6 := wlen1_c hB 8 k2
        exact ⟨m', s', y1, by rw [← y2]; simp only [eql_ptr31, eql_nilp31, eql_ptr38, eql_nilp38, eql_ptr54, eql_nilp54, eql_ptr62, eql_nilp62, eql_ptr137, eql_nilp137, eql_ptr149, eql_nilp149, eql_b4, neq_b4, len_nils37, len_is37, len_hs37, len_nils71, len_is71, len_hs71, len_nils76, len_is76, len_hs76, len_nils81, len_is81, len_hs81, len_nils100, len_is100, len_hs100, len_nils103, len_is103, len_hs103, bO_s, gB_t, asBool_b, asInt_i, asAgg_a, asTup_a, asStr_s, asCons_c, asNil_n, nthA_0, nthA_s, aggCells_a, addV_p, addV_i, seeV_p, seeV_i, same_nil, same_1, same_2, tr_v, decide_true, decide_false, Bool.false_eq_true, if_false, if_true, Bool.not_true, Bool.not_false, Bool.and_true, Bool.true_and, Bool.and_self, List.getElem?_cons_zero, List.getElem?_cons_succ, Nat.zero_add, Nat.add_zero, beq_self_eq_true, bne_self_eq_false, Int.reduceBNe, Int.reduceBEq, Int.reduceLT, Int.reduceGT, Int.reduceLE, Int.reduceGE, Nat.reduceAdd, Nat.reduceMul, Nat.reduceLeDiff, hl.len, c1, x1, x2, x3, List.length_cons, List.length_nil, List.all_cons, List.all_nil, cell, List.drop_zero, set5, c3, c4, e3, e4, e5, e6, w1], y3⟩
      · have c4 : (Int.tmod xw 3 == 1) = false := by simp [g4]
        obtain ⟨T1, q1, e3, r1⟩ := putrun_c hB 7 hT (by omega) xa xd
        obtain ⟨T2, q2, e4, r2⟩ := putrun1_c hB 7 (hT'.fr r1.2.1 (by simp [Ne.symm n1, Ne.symm n3]) (by simp [Ne.symm n2, Ne.symm n4])) (by omega) xa xd
        have hcs := runP_len xa xd
        obtain ⟨k1, k2, m', s', y1, y2, y3⟩ := fin T1 T2 q1 q2 _ hcs r1 r2
        have e5 := wlen_c hB 8 k1 (by rw [List.length_append]; omega)
        have e6 := wlen1_c hB 8 k2
        exact ⟨m', s', y1, by rw [← y2]; simp only [eql_ptr31, eql_nilp31, eql_ptr38, eql_nilp38, eql_ptr54, eql_nilp54, eql_ptr62, eql_nilp62, eql_ptr137, eql_nilp137, eql_ptr149, eql_nilp149, eql_b4, neq_b4, len_nils37, len_is37, len_hs37, len_nils71, len_is71, len_hs71, len_nils76, len_is76, len_hs76, len_nils81, len_is81, len_hs81, len_nils100, len_is100, len_hs100, len_nils103, len_is103, len_hs103, bO_s, gB_t, asBool_b, asInt_i, asAgg_a, asTup_a, asStr_s, asCons_c, asNil_n, nthA_0, nthA_s, aggCells_a, addV_p, addV_i, seeV_p, seeV_i, same_nil, same_1, same_2, tr_v, decide_true, decide_false, Bool.false_eq_true, if_false, if_true, Bool.not_true, Bool.not_false, Bool.and_true, Bool.true_and, Bool.and_self, List.getElem?_cons_zero, List.getElem?_cons_succ, Nat.zero_add, Nat.add_zero, beq_self_eq_true, bne_self_eq_false, Int.reduceBNe, Int.reduceBEq, Int.reduceLT, Int.reduceGT, Int.reduceLE, Int.reduceGE, Nat.reduceAdd, Nat.reduceMul, Nat.reduceLeDiff, hl.len, c1, x1, x2, x3, List.length_cons, List.length_nil, List.all_cons, List.all_nil, cell, List.drop_zero, set5, c3, c4, e3, e4, e5, e6, w1], y3⟩
end Go.Ab.tV
