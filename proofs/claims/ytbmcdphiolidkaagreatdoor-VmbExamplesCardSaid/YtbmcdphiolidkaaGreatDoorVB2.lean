/- Writers of bits: what the functions of package bits come to. No condition beyond what each lemma names. -/
import Derived.Test.YtbmcdphiolidkaaGreatDoorVB1
set_option maxRecDepth 100000
set_option linter.unusedSimpArgs false
set_option linter.unusedVariables false
set_option linter.unusedSectionVars false
namespace Go.Ab.tV
open Go Go.Proofs

theorem set_set (S : Heap) (i : Nat) (c d : Option (List AV)) : (S.set i c).set i d = S.set i d := by
  simp only [Heap.set]; congr 1; funext j; by_cases h : j = i <;> simp [h]
def u8s (W : List Nat) : List AV := W.map fun (x : Nat) => AV.int .u8 (x : Int)
theorem u8s_len (W : List Nat) : (u8s W).length = W.length := by simp [u8s]
theorem u8s_app (V W : List Nat) : u8s (V ++ W) = u8s V ++ u8s W := by simp [u8s]
theorem u8s_cell (W : List Nat) : (u8s W).all cell = true := by simp [u8s, cell]
theorem u8s_rep (n : Nat) : List.replicate n (AV.int .u8 0) = u8s (List.replicate n 0) := by simp [u8s]
theorem setCells_append : ∀ (new pre old post : List AV), old.length = new.length → setCells (pre ++ old ++ post) pre.length new = pre ++ new ++ post
  | [], pre, old, post, h => by
    have : old = [] := List.length_eq_zero_iff.1 h
    subst this; rfl
  | v :: new, pre, o :: old, post, h => by
    simp only [setCells]
    have : (pre ++ o :: old ++ post).set pre.length v = pre ++ [v] ++ old ++ post := by simp [List.set_append]
    rw [this]
    have := setCells_append new (pre ++ [v]) old post (by simpa using h)
    simpa using this
  | _ :: _, _, [], _, h => by simp at h
theorem put3_0 {T : Heap} {p : Nat} {x a b c : AV} (h : T.blk p = some [a, b, c]) : putV (.ptr p 0) [x] T = some (T.set p (some [x, b, c])) := by rw [putV_p h (by simp)]; rfl
theorem put3_1 {T : Heap} {p : Nat} {x a b c : AV} (h : T.blk p = some [a, b, c]) : putV (.ptr p 1) [x] T = some (T.set p (some [a, x, c])) := by rw [putV_p h (by simp)]; rfl
theorem put3_2 {T : Heap} {p : Nat} {x a b c : AV} (h : T.blk p = some [a, b, c]) : putV (.ptr p 2) [x] T = some (T.set p (some [a, b, x])) := by rw [putV_p h (by simp)]; rfl

-- bits of numbers, put together
theorem bitsN_add : ∀ (m n v : Nat), bitsN (m + n) v = bitsN m (v / 2 ^ n) ++ bitsN n v
  | 0, n, v => by simp [bitsN]
  | m + 1, n, v => by
    rw [show m + 1 + n = m + n + 1 by omega, bitsN, bitsN_add m n v, bitsN, Nat.div_div_eq_div_mul, ← Nat.pow_add, Nat.add_comm n m]
    rfl
theorem bitsN_mod : ∀ (n v k : Nat), n ≤ k → bitsN n (v % 2 ^ k) = bitsN n v
  | 0, v, k, h => rfl
  | n + 1, v, k, h => by
    rw [bitsN, bitsN, bitsN_mod n v k (by omega)]
    congr 2
    have e : 2 ^ k = 2 ^ n * (2 * 2 ^ (k - n - 1)) := by rw [← Nat.pow_succ', ← Nat.pow_add]; congr 1; omega
    rw [e, Nat.mod_mul_right_div_self, Nat.mod_mul_right_mod]
theorem bitsN_snoc (n x b : Nat) (hb : b < 2) : bitsN (n + 1) (2 * x + b) = bitsN n x ++ [b == 1] := by
  rw [bitsN_add n 1]
  have h1 : (2 * x + b) / 2 ^ 1 = x := by omega
  have h2 : bitsN 1 (2 * x + b) = [b == 1] := by
    simp only [bitsN, Nat.pow_zero, Nat.div_one]; congr 2; omega
  rw [h1, h2]
theorem take_snoc {α : Type} (A : List α) (c : α) (R : List α) : (A ++ (c :: R)).take (A.length + 1) = (A ++ (c :: R)).take A.length ++ [c] := by
  rw [List.take_append, List.take_append, List.take_of_length_le (by omega), Nat.sub_self, Nat.add_sub_cancel_left]; simp
theorem bitsN_take (n v j : Nat) (hj : j < n) : (bitsN n v).take (j + 1) = (bitsN n v).take j ++ [v / 2 ^ (n - 1 - j) % 2 == 1] := by
  have h1 : n = j + 1 + (n - 1 - j) := by omega
  have e : bitsN n v = bitsN j (v / 2 ^ (n - j)) ++ ([v / 2 ^ (n - 1 - j) % 2 == 1] ++ bitsN (n - 1 - j) v) := by
    have : bitsN n v = bitsN (j + ((n - 1 - j) + 1)) v := by congr 1; omega
    rw [this, bitsN_add, bitsN, show n - 1 - j + 1 = n - j by omega]; rfl
  have := take_snoc (bitsN j (v / 2 ^ (n - j))) (v / 2 ^ (n - 1 - j) % 2 == 1) (bitsN (n - 1 - j) v)
  rw [bitsN_len] at this
  rw [e]
  exact this

structure WrX (S : Heap) (p q : Nat) (W : List Nat) (part n : Nat) : Prop where
  blk : S.blk p = some [if W = [] then .nils else .hs q 0 W.length 1, .int .u8 (part : Int), .int .i64 (n : Int)]
  row : W ≠ [] → S.blk q = some (u8s W) ∧ q < S.next ∧ q ≠ p
  non : W = [] → q = p
  lt : p < S.next
  n8 : n < 8
  pt : part < 2 ^ n
  b8 : ∀ x ∈ W, x < 256
def bitsW (W : List Nat) (part n : Nat) : List Bool := W.flatMap (bitsN 8) ++ bitsN n part
theorem flat8_len : ∀ W : List Nat, (W.flatMap (bitsN 8)).length = 8 * W.length
  | [] => rfl
  | x :: W => by simp only [List.flatMap_cons, List.length_append, bitsN_len, flat8_len W, List.length_cons]; omega
theorem bitsW_len (W : List Nat) (part n : Nat) : (bitsW W part n).length = 8 * W.length + n := by simp only [bitsW, List.length_append, flat8_len, bitsN_len]
/-- A writer at p, with its whole bytes at q. -/
def Wr (S : Heap) (p q : Nat) (bs : List Bool) : Prop := ∃ W part n, WrX S p q W part n ∧ bs = bitsW W part n
theorem WrX.fr {S T : Heap} {p q : Nat} {W : List Nat} {part n : Nat} {l : List Nat} (h : WrX S p q W part n) (f : Fr S T l) (hp : p ∉ l) (hq : q ∉ l) : WrX T p q W part n :=
  ⟨(f.get h.lt hp).trans h.blk, fun h0 => ⟨(f.get (h.row h0).2.1 hq).trans (h.row h0).1, Nat.lt_of_lt_of_le (h.row h0).2.1 f.1, (h.row h0).2.2⟩, h.non, Nat.lt_of_lt_of_le h.lt f.1, h.n8, h.pt, h.b8⟩
theorem Wr.fr {S T : Heap} {p q : Nat} {bs : List Bool} {l : List Nat} (h : Wr S p q bs) (f : Fr S T l) (hp : p ∉ l) (hq : q ∉ l) : Wr T p q bs := by
  obtain ⟨W, part, n, h, rfl⟩ := h
  exact ⟨W, part, n, h.fr f hp hq, rfl⟩
theorem Wr.lt {S : Heap} {p q : Nat} {bs : List Bool} (h : Wr S p q bs) : p < S.next ∧ q < S.next := by
  obtain ⟨W, part, n, h, rfl⟩ := h
  refine ⟨h.lt, ?_⟩
  by_cases h0 : W = []
  · rw [h.non h0]; exact h.lt
  · exact (h.row h0).2.1
/-- From one writer to the next: what was written is more by these bits. -/
def Puts (S S' : Heap) (p q q' : Nat) (bs bs' : List Bool) : Prop := Wr S' p q' bs' ∧ Fr S S' [p, q] ∧ (q' = q ∨ S.next ≤ q')
theorem Puts.trans {S T U : Heap} {p q q' q'' : Nat} {a b c : List Bool} (h1 : Puts S T p q q' a b) (h2 : Puts T U p q' q'' b c) : Puts S U p q q'' a c := by
  refine ⟨h2.1, h1.2.1.trans h2.2.1 (fun j hj => ?_), ?_⟩
  · simp only [List.mem_cons, List.not_mem_nil, or_false] at hj ⊢
    rcases hj with rfl | rfl
    · exact .inl (.inl rfl)
    · rcases h1.2.2 with h | h
      · exact .inl (.inr h)
      · exact .inr h
  · have := h1.2.1.1
    rcases h2.2.2 with h | h
    · rw [h]; exact h1.2.2
    · exact .inr (by omega)
theorem Puts.refl {S : Heap} {p q : Nat} {bs : List Bool} (h : Wr S p q bs) : Puts S S p q q bs bs := ⟨h, Fr.refl _ _, .inl rfl⟩

theorem slice_hs (id off n l : Nat) (h : l ≤ n) : aSlice Tryz.prog 61 (.hs id off n 1) (some (.int .i64 (l : Int))) none = some (.hs id (off + l) (n - l) 1) := by
  have hu : Tryz.prog.underlying 61 = some (.slice 5) := by kernel_rfl
  have hs : tsize Tryz.prog 5 = some 1 := by kernel_rfl
  simp [aSlice, hu, hs, aNat, h]
theorem sliceArr_p (id o l n k : Nat) (S : Heap) (cs : List AV) (h : S.blk id = some cs) (hk : k ≤ n) (hl : o + n ≤ cs.length) : aSliceArr n 1 (.ptr id o) none (some (.int .i64 (k : Int))) S = some (.hs id o k 1) := by
  simp [aSliceArr, seeV_p, h, aNat, hk, hl]
theorem room64 {n : Nat} (h : n ≤ 10000000000) : n ≤ mostRoom := by unfold mostRoom; omega
theorem appZ {T : Heap} {q : Nat} {W : List Nat} {kk : Nat} (hrow : W ≠ [] → T.blk q = some (u8s W) ∧ q < T.next) (hk : 0 < kk) (hs : W.length + kk ≤ 1000000000) :
    ∃ T', aAppendZ 1 1 [.int .u8 0] (if W = [] then .nils else .hs q 0 W.length 1) (.int .i64 (kk : Int)) T = some (.hs T.next 0 (W.length + kk) 1, T') ∧ T'.blk T.next = some (u8s W ++ List.replicate kk (.int .u8 0)) ∧ T'.next = T.next + 1 ∧ T'.cx = T.cx ∧
      ∀ j, j ≠ T.next → (j ≠ q ∨ W = []) → T'.blk j = T.blk j := by
  have r1 : kk * 1 ≤ mostRoom := by rw [Nat.mul_one]; exact room64 (by omega)
  have r2 : kk ≤ mostRoom := room64 (by omega)
  have r3 : (0 : Int) ≤ (kk : Int) ∧ (kk : Int) * ((1 : Nat) : Int) ≤ (mostRoom : Int) ∧ (kk : Int) ≤ (mostRoom : Int) := by
    refine ⟨by omega, ?_, by omega⟩
    have : ((kk * 1 : Nat) : Int) ≤ (mostRoom : Int) := by omega
    simpa using this
  have r4 : ¬ kk = 0 := by omega
  have r5 : repCells kk [.int .u8 0] = List.replicate kk (.int .u8 0) := rfl
  unfold aAppendZ
  simp only [r3, and_self, if_true, Int.toNat_natCast, r5]
  unfold aAppendN
  rw [if_neg r4]
  by_cases h0 : W = []
  · subst h0
    simp only [if_true, r1, r2, and_self, List.length_nil, Nat.zero_add, u8s, List.map_nil, List.nil_append]
    exact ⟨_, rfl, alloc_blk _ _, rfl, rfl, fun j hj _ => alloc_other _ _ hj⟩
  · obtain ⟨hb, hq⟩ := hrow h0
    have r6 : (W.length + kk) * 1 ≤ mostRoom := by rw [Nat.mul_one]; exact room64 (by omega)
    have r7 : W.length + kk ≤ mostRoom := room64 (by omega)
    have r8 : (List.replicate kk (AV.int .u8 0)).all cell = true := by rw [u8s_rep]; exact u8s_cell _
    simp only [if_neg h0, hb, u8s_len, Nat.zero_add, Nat.mul_one, Nat.le_refl, r7, r8, and_self, if_true, List.drop_zero]
    rw [List.take_of_length_le (by rw [u8s_len]; exact Nat.le_refl _)]
    refine ⟨_, rfl, alloc_blk (T.set q none) _, rfl, rfl, fun j hj hjq => ?_⟩
    rcases hjq with h | h
    · rw [alloc_other _ _ (by rw [set_next]; exact hj), set_other _ _ h]
    · exact absurd h h0
theorem lenH (W : List Nat) (q : Nat) : aLen Tryz.prog 61 (if W = [] then .nils else .hs q 0 W.length 1) = some (.int .i64 (W.length : Int)) := by
  by_cases h : W = []
  · subst h; rw [if_pos rfl, len_nils61]; rfl
  · rw [if_neg h, len_hs61]
theorem cellH (W : List Nat) (q : Nat) : cell (if W = [] then .nils else .hs q 0 W.length 1) = true := by split <;> rfl
theorem copy_hs {T : Heap} {d f : Nat} {V W' : List Nat} {rest : List AV} {kk : Nat} (hk : W'.length = kk) (hd : T.blk d = some (u8s V ++ List.replicate kk (.int .u8 0))) (hf : T.blk f = some (u8s W' ++ rest)) :
    aCopy 1 (.hs d V.length kk 1) (.hs f 0 kk 1) T = some (.int .i64 (kk : Int), T.set d (some (u8s (V ++ W')))) := by
  have e1 : rowOf 1 (.hs f 0 kk 1) T = some (kk, u8s W') := by
    simp only [rowOf, hf, Nat.zero_add, Nat.mul_one, List.length_append, u8s_len, hk, true_and, List.drop_zero]
    rw [if_pos (by omega), List.take_append_of_le_length (by rw [u8s_len]; omega), List.take_of_length_le (by rw [u8s_len]; omega)]
  unfold aCopy
  simp only [e1, hd, Nat.mul_one, List.length_append, u8s_len, List.length_replicate, Nat.le_refl, u8s_cell, and_self, if_true, Nat.min_self]
  rw [List.take_of_length_le (by rw [u8s_len]; omega)]
  have := setCells_append (u8s W') (u8s V) (List.replicate kk (.int .u8 0)) [] (by simp [u8s_len, hk])
  rw [List.append_nil, List.append_nil, u8s_len] at this
  rw [this, u8s_app]

section
variable {B : CallF} (hB : Silent B) (k : Nat) {S : Heap} {p q : Nat} {bs : List Bool}
include hB
theorem put_c (h : Wr S p q bs) (n v : Nat) (hn : n ≤ 64) (hv : v < 2 ^ n) (hbs : bs.length ≤ 1000000000) :
    ∃ S' q', Cn B (k + 1) f_bits_Writer_Put 0 [.ptr p 0, .int .i64 (n : Int), .int .u64 (v : Int)] S = some (.int .i64 0, S') ∧ Puts S S' p q q' bs (bs ++ bitsN n v) := by
  obtain ⟨W, part, n0, hX, rfl⟩ := h
  rw [c_bits_Writer_Put _ _ _ _ _ _ (hB.no _ _ _ _ (kn_no (by decide))), T_bits_Writer_Put]
  have hX8 := hX.n8
  have hXl := hX.lt
  rw [bitsW_len] at hbs
  have c1 : ¬ ((n : Int) < 0) := by omega
  have c2 : ¬ ((n : Int) > 64) := by omega
  have hv64 : v < 18446744073709551616 := by
    have : 2 ^ n ≤ 2 ^ 64 := Nat.pow_le_pow_right (by omega) hn
    omega
  have w1 : shrI .u64 (v : Int) (n : Int) = 0 := by rw [shr64 _ _ hn, Nat.div_eq_of_lt hv]; rfl
  have w2 : IntKind.wrap .i64 ((n : Int) - 1) = (n : Int) - 1 := wr _ (by omega)
  have main : ∀ (S1 : Heap), S1 = S.alloc [.int .u8 0, .int .u8 0, .int .u8 0, .int .u8 0, .int .u8 0, .int .u8 0, .int .u8 0, .int .u8 0, .int .u8 0] → ∀ (step : LSt → Option (LSt ⊕ (Nat × LSt))) (f : Nat × LSt → Option (AV × Heap)), True := fun _ _ _ _ => trivial
  clear main
  by_cases c3 : (n : Int) < 64
  all_goals
    simp only [eql_ptr37, eql_nilp37, eql_ptr42, eql_nilp42, eql_ptr58, eql_nilp58, eql_ptr277, eql_nilp277, eql_nils32, eql_is32, eql_hs32, eql_nils33, eql_is33, eql_hs33, eql_nils34, eql_is34, eql_hs34, len_nils26, len_is26, len_hs26, len_nils32, len_is32, len_hs32, len_nils33, len_is33, len_hs33, len_nils34, len_is34, len_hs34, len_nils61, len_is61, len_hs61, len_nils124, len_is124, len_hs124, len_nils156, len_is156, len_hs156, len_nils245, len_is245, len_hs245, bO_s, gB_t, asBool_b, asInt_i, asAgg_a, asTup_a, asStr_s, asCons_c, asNil_n, nthA_0, nthA_s, aggCells_a, addV_p, addV_i, seeV_p, seeV_i, same_nil, same_1, same_2, tr_v, decide_true, decide_false, Bool.false_eq_true, if_false, if_true, Bool.not_true, Bool.not_false, Bool.and_true, Bool.true_and, Bool.and_self, List.getElem?_cons_zero, List.getElem?_cons_succ, Nat.zero_add, Nat.add_zero, beq_self_eq_true, bne_self_eq_false, Int.reduceBNe, Int.reduceBEq, Int.reduceLT, Int.reduceGT, Int.reduceLE, Int.reduceGE, Nat.reduceAdd, Nat.reduceMul, Nat.reduceLeDiff, c1, c2, c3, aShr, w1, w2]
    refine loop_meas (fun o => ∃ S' q', o = some (AV.int .i64 0, S') ∧ Puts S S' p q q' (bitsW W part n0) (bitsW W part n0 ++ bitsN n v))
      (fun m st => ∃ (W' : List Nat) (pt nn : Nat) (T : Heap), m ≤ n ∧ st = ([.ptr p 0, .int .u64 (v : Int), .ptr S.next 0, .int .i64 (W'.length : Int), .int .i64 ((m : Int) - 1)], T) ∧
        T.blk p = some [if W = [] then .nils else .hs q 0 W.length 1, .int .u8 (pt : Int), .int .i64 (nn : Int)] ∧ T.blk S.next = some (u8s W' ++ List.replicate (9 - W'.length) (.int .u8 0)) ∧ Fr S T [p] ∧ T.next = S.next + 1 ∧
        bitsW W part n0 ++ (bitsN n v).take (n - m) = bitsW (W ++ W') pt nn ∧ nn < 8 ∧ pt < 2 ^ nn ∧ (∀ x ∈ W', x < 256)) n
      ⟨[], part, n0, _, Nat.le_refl _, rfl, by rw [alloc_other _ _ (by omega)]; exact hX.blk, by rw [alloc_blk]; rfl, Fr.alloc _ _ _, rfl, by simp, hX.n8, hX.pt, by simp⟩ ?_
    rintro m st ⟨W', pt, nn, T, hm, rfl, hTp, hTf, hF, hTn, hbits, hnn, hpt, hW'⟩
    have hlen := congrArg List.length hbits
    simp only [List.length_append, bitsW_len, List.length_take, bitsN_len] at hlen
    have hk8 : W'.length ≤ 8 := by omega
    cases m with
    | zero =>
      have c4 : ¬ (((0 : Nat) : Int) - 1 ≥ 0) := by omega
      refine .inl ⟨(0, [.ptr p 0, .ptr S.next 0, .int .i64 (W'.length : Int)], T), by simp only [eql_ptr37, eql_nilp37, eql_ptr42, eql_nilp42, eql_ptr58, eql_nilp58, eql_ptr277, eql_nilp277, eql_nils32, eql_is32, eql_hs32, eql_nils33, eql_is33, eql_hs33, eql_nils34, eql_is34, eql_hs34, len_nils26, len_is26, len_hs26, len_nils32, len_is32, len_hs32, len_nils33, len_is33, len_hs33, len_nils34, len_is34, len_hs34, len_nils61, len_is61, len_hs61, len_nils124, len_is124, len_hs124, len_nils156, len_is156, len_hs156, len_nils245, len_is245, len_hs245, bO_s, gB_t, asBool_b, asInt_i, asAgg_a, asTup_a, asStr_s, asCons_c, asNil_n, nthA_0, nthA_s, aggCells_a, addV_p, addV_i, seeV_p, seeV_i, same_nil, same_1, same_2, tr_v, decide_true, decide_false, Bool.false_eq_true, if_false, if_true, Bool.not_true, Bool.not_false, Bool.and_true, Bool.true_and, Bool.and_self, List.getElem?_cons_zero, List.getElem?_cons_succ, Nat.zero_add, Nat.add_zero, beq_self_eq_true, bne_self_eq_false, Int.reduceBNe, Int.reduceBEq, Int.reduceLT, Int.reduceGT, Int.reduceLE, Int.reduceGE, Nat.reduceAdd, Nat.reduceMul, Nat.reduceLeDiff, c4], ?_⟩
      rw [Nat.sub_zero, List.take_of_length_le (by rw [bitsN_len]; exact Nat.le_refl _)] at hbits
      by_cases hk : W' = []
      · subst hk
        refine ⟨T, q, by simp only [eql_ptr37, eql_nilp37, eql_ptr42, eql_nilp42, eql_ptr58, eql_nilp58, eql_ptr277, eql_nilp277, eql_nils32, eql_is32, eql_hs32, eql_nils33, eql_is33, eql_hs33, eql_nils34, eql_is34, eql_hs34, len_nils26, len_is26, len_hs26, len_nils32, len_is32, len_hs32, len_nils33, len_is33, len_hs33, len_nils34, len_is34, len_hs34, len_nils61, len_is61, len_hs61, len_nils124, len_is124, len_hs124, len_nils156, len_is156, len_hs156, len_nils245, len_is245, len_hs245, bO_s, gB_t, asBool_b, asInt_i, asAgg_a, asTup_a, asStr_s, asCons_c, asNil_n, nthA_0, nthA_s, aggCells_a, addV_p, addV_i, seeV_p, seeV_i, same_nil, same_1, same_2, tr_v, decide_true, decide_false, Bool.false_eq_true, if_false, if_true, Bool.not_true, Bool.not_false, Bool.and_true, Bool.true_and, Bool.and_self, List.getElem?_cons_zero, List.getElem?_cons_succ, Nat.zero_add, Nat.add_zero, beq_self_eq_true, bne_self_eq_false, Int.reduceBNe, Int.reduceBEq, Int.reduceLT, Int.reduceGT, Int.reduceLE, Int.reduceGE, Nat.reduceAdd, Nat.reduceMul, Nat.reduceLeDiff, sel, List.length_nil, Int.natCast_zero, Int.lt_irrefl, gt_iff_lt], ⟨W, pt, nn, ⟨hTp, fun h0 => ?_, hX.non, by omega, hnn, hpt, hX.b8⟩, by rw [hbits, List.append_nil]⟩, hF.weak (fun j hj => .inl (by simp at hj; simp [hj])), .inl rfl⟩
        obtain ⟨r1, r2, r3⟩ := hX.row h0
        exact ⟨(hF.get r2 (by simp [r3])).trans r1, by omega, r3⟩
      · have hk0 : 0 < W'.length := List.length_pos_iff.2 hk
        have c5 : (W'.length : Int) > 0 := by omega
        obtain ⟨T', e1, b1, n1, x1, o1⟩ := appZ (T := T) (q := q) (W := W) (kk := W'.length) (fun h0 => ⟨(hF.get (hX.row h0).2.1 (by simp [(hX.row h0).2.2])).trans (hX.row h0).1, by have := (hX.row h0).2.1; omega⟩) hk0 (by omega)
        have hpT' : T'.blk p = T.blk p := o1 p (by omega) (by
          by_cases h0 : W = []
          · exact .inr h0
          · exact .inl (Ne.symm (hX.row h0).2.2))
        have hqlt : W ≠ [] → q < S.next := fun h0 => (hX.row h0).2.1
        have hfT' : T'.blk S.next = T.blk S.next := o1 _ (by omega) (by
          by_cases h0 : W = []
          · exact .inr h0
          · exact .inl (by have := hqlt h0; omega))
        rw [hTp] at hpT'
        rw [hTf] at hfT'
        have e2 := put3_0 (x := .hs T.next 0 (W.length + W'.length) 1) hpT'
        obtain ⟨T2, hT2⟩ : ∃ T2, T2 = T'.set p (some [.hs T.next 0 (W.length + W'.length) 1, .int .u8 (pt : Int), .int .i64 (nn : Int)]) := ⟨_, rfl⟩
        rw [← hT2] at e2
        have b2 : T2.blk p = some [.hs T.next 0 (W.length + W'.length) 1, .int .u8 (pt : Int), .int .i64 (nn : Int)] := by rw [hT2]; exact set_blk _ _ _
        have e3 := slice_hs T.next 0 (W.length + W'.length) W.length (by omega)
        have hf2 : T2.blk S.next = some (u8s W' ++ List.replicate (9 - W'.length) (.int .u8 0)) := by rw [hT2, set_other _ _ (by omega)]; exact hfT'
        have e4 := sliceArr_p S.next 0 0 9 W'.length T2 _ hf2 (by omega) (by simp [u8s_len]; omega)
        have hd2 : T2.blk T.next = some (u8s W ++ List.replicate W'.length (.int .u8 0)) := by rw [hT2, set_other _ _ (by omega)]; exact b1
        have e5 := copy_hs (T := T2) rfl hd2 hf2
        rw [Nat.zero_add, Nat.add_sub_cancel_left] at e3
        have hcell : cell (.hs T.next 0 (W.length + W'.length) 1) = true := rfl
        refine ⟨T2.set T.next (some (u8s (W ++ W'))), T.next, ?_, ⟨W ++ W', pt, nn, ⟨?_, fun _ => ⟨set_blk _ _ _, by rw [set_next, hT2, set_next]; omega, by omega⟩, fun h0 => by simp [hk] at h0, by rw [set_next, hT2, set_next]; omega, hnn, hpt, fun x hx => ?_⟩, hbits⟩, ⟨?_, ?_, ?_⟩, .inr (by omega)⟩
        · simp only [eql_ptr37, eql_nilp37, eql_ptr42, eql_nilp42, eql_ptr58, eql_nilp58, eql_ptr277, eql_nilp277, eql_nils32, eql_is32, eql_hs32, eql_nils33, eql_is33, eql_hs33, eql_nils34, eql_is34, eql_hs34, len_nils26, len_is26, len_hs26, len_nils32, len_is32, len_hs32, len_nils33, len_is33, len_hs33, len_nils34, len_is34, len_hs34, len_nils61, len_is61, len_hs61, len_nils124, len_is124, len_hs124, len_nils156, len_is156, len_hs156, len_nils245, len_is245, len_hs245, bO_s, gB_t, asBool_b, asInt_i, asAgg_a, asTup_a, asStr_s, asCons_c, asNil_n, nthA_0, nthA_s, aggCells_a, addV_p, addV_i, seeV_p, seeV_i, same_nil, same_1, same_2, tr_v, decide_true, decide_false, Bool.false_eq_true, if_false, if_true, Bool.not_true, Bool.not_false, Bool.and_true, Bool.true_and, Bool.and_self, List.getElem?_cons_zero, List.getElem?_cons_succ, Nat.zero_add, Nat.add_zero, beq_self_eq_true, bne_self_eq_false, Int.reduceBNe, Int.reduceBEq, Int.reduceLT, Int.reduceGT, Int.reduceLE, Int.reduceGE, Nat.reduceAdd, Nat.reduceMul, Nat.reduceLeDiff, sel, c5, hTp, lenH, e1, hcell, List.all_cons, List.all_nil, e2, b2, e3, e4, e5]
        · rw [set_other _ _ (by omega), b2, if_neg (by simp [hk]), List.length_append]
        · rcases List.mem_append.1 hx with hx | hx
          · exact hX.b8 x hx
          · exact hW' x hx
        · rw [set_next, hT2, set_next]; omega
        · show T2.cx = S.cx
          rw [hT2]; exact x1.trans hF.2.1
        · intro j hj hn
          simp only [List.mem_cons, List.not_mem_nil, or_false, not_or] at hn
          rw [set_other _ _ (by omega), hT2, set_other _ _ hn.1, o1 j (by omega) (.inl hn.2)]
          exact hF.2.2 j hj (by simp [hn.1])
    | succ m =>
      have hm1 : ((m + 1 : Nat) : Int) - 1 = (m : Int) := by omega
      have c4 : (m : Int) ≥ 0 := by omega
      have w3 : IntKind.wrap .i64 ((m : Int) - 1) = (m : Int) - 1 := wr _ (by omega)
      obtain ⟨b, hb⟩ : ∃ b, b = v / 2 ^ m % 2 := ⟨_, rfl⟩
      have hb2 : b < 2 := by rw [hb]; exact Nat.mod_lt _ (by omega)
      have hdv : v / 2 ^ m < 18446744073709551616 := Nat.lt_of_le_of_lt (Nat.div_le_self _ _) hv64
      have w4 : andI .u64 (shrI .u64 (v : Int) (m : Int)) 1 = (b : Int) := by
        rw [shr64 _ _ (by omega)]
        have := and64 (v / 2 ^ m) 1 hdv (by omega)
        rw [Nat.and_one_is_mod, ← hb] at this
        exact this
      have hpt7 : pt < 2 ^ 7 := Nat.lt_of_lt_of_le hpt (Nat.pow_le_pow_right (by omega) (by omega))
      have w5 : IntKind.wrap .u8 (b : Int) = (b : Int) := wb _ (by omega)
      have w6 : orI .u8 (shlI .u8 (pt : Int) 1) (b : Int) = ((2 * pt + b : Nat) : Int) := by
        have := shl8 pt 1 (by omega)
        rw [show ((1 : Nat) : Int) = 1 from rfl] at this
        rw [this, or8 _ _ (Nat.mod_lt _ (by omega)) (by omega), Nat.mod_eq_of_lt (by omega), or_mul pt b 1 (by omega)]
        congr 1; omega
      have w7 : IntKind.wrap .i64 ((nn : Int) + 1) = ((nn + 1 : Nat) : Int) := by rw [wr _ (by omega)]; omega
      have e1 := put3_1 (x := .int .u8 ((2 * pt + b : Nat) : Int)) hTp
      obtain ⟨T1, hT1⟩ : ∃ T1, T1 = T.set p (some [if W = [] then .nils else .hs q 0 W.length 1, .int .u8 ((2 * pt + b : Nat) : Int), .int .i64 (nn : Int)]) := ⟨_, rfl⟩
      rw [← hT1] at e1
      have b1 : T1.blk p = some [if W = [] then .nils else .hs q 0 W.length 1, .int .u8 ((2 * pt + b : Nat) : Int), .int .i64 (nn : Int)] := by rw [hT1]; exact set_blk _ _ _
      have e2 := put3_2 (x := .int .i64 ((nn + 1 : Nat) : Int)) b1
      obtain ⟨T2, hT2⟩ : ∃ T2, T2 = T1.set p (some [if W = [] then .nils else .hs q 0 W.length 1, .int .u8 ((2 * pt + b : Nat) : Int), .int .i64 ((nn + 1 : Nat) : Int)]) := ⟨_, rfl⟩
      rw [← hT2] at e2
      have b2 : T2.blk p = some [if W = [] then .nils else .hs q 0 W.length 1, .int .u8 ((2 * pt + b : Nat) : Int), .int .i64 ((nn + 1 : Nat) : Int)] := by rw [hT2]; exact set_blk _ _ _
      have F2 : Fr S T2 [p] := by rw [hT2, hT1]; exact (hF.set (.inl (by simp)) _).set (.inl (by simp)) _
      have f2 : T2.blk S.next = some (u8s W' ++ List.replicate (9 - W'.length) (.int .u8 0)) := by rw [hT2, set_other _ _ (by omega), hT1, set_other _ _ (by omega)]; exact hTf
      have n2 : T2.next = S.next + 1 := by rw [hT2, set_next, hT1, set_next]; exact hTn
      have hbits2 : bitsW W part n0 ++ (bitsN n v).take (n - m) = bitsW (W ++ W') pt nn ++ [b == 1] := by
        rw [show n - m = n - (m + 1) + 1 by omega, bitsN_take _ _ _ (by omega), ← List.append_assoc, hbits, show n - 1 - (n - (m + 1)) = m by omega, hb]
      by_cases h8 : nn + 1 = 8
      · have c5 : (((nn + 1 : Nat) : Int) == 8) = true := by rw [h8]; rfl
        have c6 : (0 : Int) ≤ (W'.length : Int) := by omega
        have c7 : (W'.length : Int) < ((9 : Nat) : Int) := by omega
        have w8 : IntKind.wrap .i64 ((W'.length : Int) + 1) = ((W'.length + 1 : Nat) : Int) := by rw [wr _ (by omega)]; omega
        have e3 : putV (.ptr S.next W'.length) [.int .u8 ((2 * pt + b : Nat) : Int)] T2 = some (T2.set S.next (some (u8s (W' ++ [2 * pt + b]) ++ List.replicate (9 - (W'.length + 1)) (.int .u8 0)))) := by
          rw [putV_p f2 (by simp [u8s_len]; omega)]
          congr 3
          have := setCells_append [.int .u8 ((2 * pt + b : Nat) : Int)] (u8s W') [.int .u8 0] (List.replicate (9 - (W'.length + 1)) (.int .u8 0)) rfl
          rw [u8s_len, List.append_assoc, List.singleton_append, ← List.replicate_succ, show 9 - (W'.length + 1) + 1 = 9 - W'.length by omega] at this
          rw [this, u8s_app]
          rfl
        obtain ⟨T3, hT3⟩ : ∃ T3, T3 = T2.set S.next (some (u8s (W' ++ [2 * pt + b]) ++ List.replicate (9 - (W'.length + 1)) (.int .u8 0))) := ⟨_, rfl⟩
        rw [← hT3] at e3
        have b3 : T3.blk p = some [if W = [] then .nils else .hs q 0 W.length 1, .int .u8 ((2 * pt + b : Nat) : Int), .int .i64 ((nn + 1 : Nat) : Int)] := by rw [hT3, set_other _ _ (by omega)]; exact b2
        have e4 := put3_1 (x := .int .u8 0) b3
        obtain ⟨T4, hT4⟩ : ∃ T4, T4 = T3.set p (some [if W = [] then .nils else .hs q 0 W.length 1, .int .u8 0, .int .i64 ((nn + 1 : Nat) : Int)]) := ⟨_, rfl⟩
        rw [← hT4] at e4
        have b4 : T4.blk p = some [if W = [] then .nils else .hs q 0 W.length 1, .int .u8 0, .int .i64 ((nn + 1 : Nat) : Int)] := by rw [hT4]; exact set_blk _ _ _
        have e5 := put3_2 (x := .int .i64 0) b4
        refine .inr ⟨m, _, by omega, by simp only [eql_ptr37, eql_nilp37, eql_ptr42, eql_nilp42, eql_ptr58, eql_nilp58, eql_ptr277, eql_nilp277, eql_nils32, eql_is32, eql_hs32, eql_nils33, eql_is33, eql_hs33, eql_nils34, eql_is34, eql_hs34, len_nils26, len_is26, len_hs26, len_nils32, len_is32, len_hs32, len_nils33, len_is33, len_hs33, len_nils34, len_is34, len_hs34, len_nils61, len_is61, len_hs61, len_nils124, len_is124, len_hs124, len_nils156, len_is156, len_hs156, len_nils245, len_is245, len_hs245, bO_s, gB_t, asBool_b, asInt_i, asAgg_a, asTup_a, asStr_s, asCons_c, asNil_n, nthA_0, nthA_s, aggCells_a, addV_p, addV_i, seeV_p, seeV_i, same_nil, same_1, same_2, tr_v, decide_true, decide_false, Bool.false_eq_true, if_false, if_true, Bool.not_true, Bool.not_false, Bool.and_true, Bool.true_and, Bool.and_self, List.getElem?_cons_zero, List.getElem?_cons_succ, Nat.zero_add, Nat.add_zero, beq_self_eq_true, bne_self_eq_false, Int.reduceBNe, Int.reduceBEq, Int.reduceLT, Int.reduceGT, Int.reduceLE, Int.reduceGE, Nat.reduceAdd, Nat.reduceMul, Nat.reduceLeDiff, hm1, c4, hTp, aShr, w4, w5, w6, e1, b1, w7, e2, b2, c5, c6, c7, Int.toNat_natCast, Nat.mul_one, e3, e4, e5, w8, w3]; rfl, W' ++ [2 * pt + b], 0, 0, T4.set p (some [if W = [] then .nils else .hs q 0 W.length 1, .int .u8 0, .int .i64 0]), by omega, ?_, set_blk _ _ _, ?_, ?_, ?_, ?_, by omega, by simp, fun x hx => ?_⟩
        · rw [List.length_append]; rfl
        · rw [set_other _ _ (by omega), hT4, set_other _ _ (by omega), hT3, set_blk, List.length_append]; rfl
        · rw [hT4, hT3]; exact ((F2.set (.inr (Nat.le_refl _)) _).set (.inl (by simp)) _).set (.inl (by simp)) _
        · rw [set_next, hT4, set_next, hT3, set_next]; exact n2
        · rw [hbits2]
          have h7 : nn = 7 := by omega
          subst h7
          have e8 : bitsN 8 (2 * pt + b) = bitsN 7 pt ++ [b == 1] := bitsN_snoc 7 pt b hb2
          have e0 : bitsN 0 0 = [] := rfl
          simp only [bitsW, List.flatMap_append, List.flatMap_cons, List.flatMap_nil, List.append_nil, e8, e0, List.append_assoc]
        · rcases List.mem_append.1 hx with hx | hx
          · exact hW' x hx
          · rw [List.mem_singleton.1 hx]; omega
      · have c5 : (((nn + 1 : Nat) : Int) == 8) = false := by simp; omega
        refine .inr ⟨m, _, by omega, by simp only [eql_ptr37, eql_nilp37, eql_ptr42, eql_nilp42, eql_ptr58, eql_nilp58, eql_ptr277, eql_nilp277, eql_nils32, eql_is32, eql_hs32, eql_nils33, eql_is33, eql_hs33, eql_nils34, eql_is34, eql_hs34, len_nils26, len_is26, len_hs26, len_nils32, len_is32, len_hs32, len_nils33, len_is33, len_hs33, len_nils34, len_is34, len_hs34, len_nils61, len_is61, len_hs61, len_nils124, len_is124, len_hs124, len_nils156, len_is156, len_hs156, len_nils245, len_is245, len_hs245, bO_s, gB_t, asBool_b, asInt_i, asAgg_a, asTup_a, asStr_s, asCons_c, asNil_n, nthA_0, nthA_s, aggCells_a, addV_p, addV_i, seeV_p, seeV_i, same_nil, same_1, same_2, tr_v, decide_true, decide_false, Bool.false_eq_true, if_false, if_true, Bool.not_true, Bool.not_false, Bool.and_true, Bool.true_and, Bool.and_self, List.getElem?_cons_zero, List.getElem?_cons_succ, Nat.zero_add, Nat.add_zero, beq_self_eq_true, bne_self_eq_false, Int.reduceBNe, Int.reduceBEq, Int.reduceLT, Int.reduceGT, Int.reduceLE, Int.reduceGE, Nat.reduceAdd, Nat.reduceMul, Nat.reduceLeDiff, hm1, c4, hTp, aShr, w4, w5, w6, e1, b1, w7, e2, b2, c5, w3], W', 2 * pt + b, nn + 1, T2, by omega, rfl, b2, f2, F2, n2, ?_, by omega, by rw [Nat.pow_succ]; omega, hW'⟩
        rw [hbits2]
        simp only [bitsW, List.append_assoc, bitsN_snoc nn pt b hb2]
end
end Go.Ab.tV
