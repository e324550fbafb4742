/- The statement VblockLengths; the blocks that the statements of layer 20 make. -/
import Derived.Test.YtfkmmiinlipcpaaVF2
set_option maxRecDepth 100000
set_option linter.unusedSimpArgs false
set_option linter.unusedVariables false
set_option linter.unusedSectionVars false
namespace Go.Ab.tV
open Go Go.Proofs

def modI (x n : Int) : Int := Int.tmod (Int.tmod x n + n) n
theorem modI_lt (x : Int) {n : Int} (h : 0 < n) : 0 ≤ modI x n ∧ modI x n < n := by
  unfold modI
  have h1 := Int.lt_tmod_of_pos x h
  exact ⟨Int.tmod_nonneg _ (by omega), Int.tmod_lt_of_pos _ h⟩
theorem bits_len (bs : List Bool) : (bitStr bs).size = bs.length := by rw [bitStr, strB_size, List.length_map]
theorem toList_loop (bs : ByteArray) : ∀ (n i : Nat) (r : List UInt8), bs.size - i = n → ByteArray.toList.loop bs i r = r.reverse ++ bs.data.toList.drop i
  | 0, i, r, h => by
    unfold ByteArray.toList.loop
    have hs : bs.size = bs.data.toList.length := by rw [Array.length_toList]; rfl
    rw [if_neg (by omega), List.drop_eq_nil_of_le (by omega), List.append_nil]
  | n + 1, i, r, h => by
    unfold ByteArray.toList.loop
    have hs : bs.size = bs.data.toList.length := by rw [Array.length_toList]; rfl
    have hi : i < bs.data.toList.length := by omega
    rw [if_pos (by omega), toList_loop bs n (i + 1) _ (by omega), List.drop_eq_getElem_cons hi]
    have hg : bs.get! i = bs.data.toList[i] := by
      have hi' : i < bs.data.size := by simpa using hi
      simp [ByteArray.get!, getElem!_pos bs.data i hi']
    rw [hg]; simp
theorem toList_data (bs : ByteArray) : bs.toList = bs.data.toList := by
  unfold ByteArray.toList
  rw [toList_loop bs _ 0 [] rfl]; simp
theorem strEq_true {x y : ByteArray} (h : strEq x y = true) : x = y := by
  unfold strEq at h
  have := eq_of_beq h
  rw [toList_data, toList_data] at this
  apply ByteArray.ext
  exact Array.toList_inj.1 this
theorem strEq_ne {x y : ByteArray} (h : x ≠ y) : strEq x y = false := by
  cases hq : strEq x y with
  | false => rfl
  | true => exact absurd (strEq_true hq) h
theorem bitStr_list (bs : List Bool) : (bitStr bs).data.toList = bs.map fun b => UInt8.ofNat (bitC b) := by simp [bitStr, strB]
theorem bitC_inj (a b : Bool) (h : UInt8.ofNat (bitC a) = UInt8.ofNat (bitC b)) : a = b := by
  cases a <;> cases b <;> first | rfl | (exact absurd h (by decide))
theorem map_inj' {α β : Type} {f : α → β} (hf : ∀ a b, f a = f b → a = b) : ∀ {l m : List α}, l.map f = m.map f → l = m
  | [], [], _ => rfl
  | [], _ :: _, h => by simp at h
  | _ :: _, [], h => by simp at h
  | a :: l, b :: m, h => by
    simp only [List.map_cons, List.cons.injEq] at h
    rw [hf _ _ h.1, map_inj' hf h.2]
/-- There is a string with given bits. -/
theorem has_some (l : List Bool) : ∃ s, Has s 0 l := by
  have key : ∀ l : List Bool, ∃ W part n, l.reverse = bitsW W part n ∧ n < 8 ∧ part < 2 ^ n ∧ ∀ x ∈ W, x < 256 := by
    intro l
    induction l with
    | nil => exact ⟨[], 0, 0, rfl, by omega, by omega, by simp⟩
    | cons b l ih =>
      obtain ⟨W, part, n, h1, h2, h3, h4⟩ := ih
      obtain ⟨c, hc, hcb⟩ : ∃ c, c < 2 ∧ (c == 1) = b := by
        cases b
        · exact ⟨0, by omega, rfl⟩
        · exact ⟨1, by omega, rfl⟩
      have hp : 2 * part + c < 2 ^ (n + 1) := by rw [Nat.pow_succ]; omega
      by_cases h8 : n + 1 = 8
      · refine ⟨W ++ [2 * part + c], 0, 0, ?_, by omega, by omega, fun x hx => ?_⟩
        · rw [List.reverse_cons, h1, ← hcb]
          have e8 : bitsN 8 (2 * part + c) = bitsN n part ++ [c == 1] := by rw [← bitsN_snoc n part c hc, h8]
          have e0 : bitsN 0 0 = [] := rfl
          simp only [bitsW, List.flatMap_append, List.flatMap_cons, List.flatMap_nil, List.append_nil, e8, e0, List.append_assoc]
        · rcases List.mem_append.1 hx with hx | hx
          · exact h4 x hx
          · rw [List.mem_singleton.1 hx]
            rw [h8] at hp; omega
      · refine ⟨W, 2 * part + c, n + 1, ?_, by omega, hp, h4⟩
        rw [List.reverse_cons, h1, ← hcb]
        simp only [bitsW, List.append_assoc, bitsN_snoc n part c hc]
  obtain ⟨W, part, n, h1, h2, h3, h4⟩ := key l.reverse
  rw [List.reverse_reverse] at h1
  rw [h1]
  exact ⟨strB (pad W part n), has_pad h4 h2 h3 (fun j hj => by rw [strB_get, List.getElem?_eq_getElem hj]; rfl) (by rw [strB_size]; exact Nat.le_refl _)⟩

theorem bitStr_inj {x y : List Bool} (h : bitStr x = bitStr y) : x = y := by
  have e2 := congrArg (fun b => b.data.toList) h
  simp only [bitStr_list] at e2
  exact map_inj' bitC_inj e2
def fitV (v : Int) : Int := if Int.tmod v 5 != 0 then modI v 5 - 2 else modI v 4127 - 2063
theorem fitV_abs (v : Int) : (fitV v).natAbs ≤ 2063 := by
  have h1 := modI_lt v (show (0 : Int) < 5 by omega)
  have h2 := modI_lt v (show (0 : Int) < 4127 by omega)
  unfold fitV; split <;> omega
def szU (x : Int) : Nat := if Int.tmod x 3 = 0 then 4 else if Int.tmod x 3 = 1 then 15 else 16
def blkO (x : Int) (l : List Int) : List Int := padZ fitV l (szU x) (min (szU x) l.length)
theorem szU_or (x : Int) : szU x = 4 ∨ szU x = 15 ∨ szU x = 16 := by unfold szU; split; exact .inl rfl; split; exact .inr (.inl rfl); exact .inr (.inr rfl)
theorem blkO_len (x : Int) (l : List Int) : (blkO x l).length = szU x := padZ_len (by omega) (by omega)
theorem blkO_abs (x : Int) (l : List Int) : ∀ v ∈ blkO x l, v.natAbs ≤ 2063 := padZ_mem (P := fun v => v.natAbs ≤ 2063) (by simp) (fun v _ => fitV_abs v)
theorem blkO_blk (x : Int) (l : List Int) : Blk (blkO x l) := ⟨by rw [blkO_len]; exact sz_n (szU_or x), rngd_of (fun v hv => by have := blkO_abs x l v hv; omega)⟩
theorem isl_is {l : List Int} (h : l ≠ []) : isl l = .is l.length (ints l) := by unfold isl; rw [if_neg h]
section
variable {B : CallF} (hB : Silent B) (k : Nat) {S : Heap}
include hB
theorem mod20_c (x n : Int) (hn : 0 < n ∧ n ≤ 1000000) : Cn B (k + 1) f_spindlelaw20_mod 0 [.int .i64 x, .int .i64 n] S = some (.int .i64 (modI x n), S) := by
  rw [c_spindlelaw20_mod _ _ _ _ _ (hB.no _ _ _ _ (kn_no (by decide))), T_spindlelaw20_mod]
  have h1 := Int.lt_tmod_of_pos x hn.1
  have h2 := Int.tmod_lt_of_pos x hn.1
  have w1 : IntKind.wrap .i64 (Int.tmod x n + n) = Int.tmod x n + n := wr _ (by omega)
  simp only [zB, decide_true, decide_false, Bool.false_eq_true, if_false, if_true, List.getElem?_cons_zero, List.getElem?_cons_succ, beq_self_eq_true, bne_self_eq_false, Int.reduceBNe, Int.reduceBEq, Int.reduceLT, Int.reduceGT, Int.reduceLE, Int.reduceGE, Nat.reduceAdd, Nat.reduceMul, Nat.reduceLeDiff, rem64 _ _ (show n ≠ 0 by omega), w1, modI]
theorem fit20_c {x : Int} (hx : 0 ≤ x) {a : AV} {l : List Int} (hl : ∀ S d, IL S a l d) : ∃ S', Cn B (k + 2) f_spindlelaw20_fit 0 [.int .u8 x, a] S = some (isl (blkO x l), S') ∧ Fr S S' [] := by
  rw [c_spindlelaw20_fit _ _ _ _ _ (hB.no _ _ _ _ (kn_no (by decide))), T_spindlelaw20_fit]
  obtain ⟨n, hn⟩ : ∃ n, n = szU x := ⟨_, rfl⟩
  have hn3 := szU_or x
  have c0 : (0 : Int) ≤ Int.tmod x 3 := Int.tmod_nonneg 3 hx
  have c00 : Int.tmod x 3 < ((3 : Nat) : Int) := Int.tmod_lt_of_pos x (by omega)
  have ht : ([.int .i64 4, .int .i64 15, .int .i64 16] : List AV)[Int.toNat (Int.tmod x 3) * 1]? = some (.int .i64 (n : Int)) := by
    rw [hn]; unfold szU
    rcases three hx with h | h | h <;> rw [h] <;> rfl
  rw [← hn] at hn3
  obtain ⟨k1, k2, k3, k4⟩ := mk1 (n := n) (by omega)
  obtain ⟨d, hd⟩ : ∃ d, d = S.next := ⟨_, rfl⟩
  simp only [zB, decide_true, decide_false, Bool.false_eq_true, if_false, if_true, List.getElem?_cons_zero, List.getElem?_cons_succ, beq_self_eq_true, bne_self_eq_false, Int.reduceBNe, Int.reduceBEq, Int.reduceLT, Int.reduceGT, Int.reduceLE, Int.reduceGE, Nat.reduceAdd, Nat.reduceMul, Nat.reduceLeDiff, c0, c00, ht, k1, k2, k3, k4, Int.toNat_natCast, ints_rep, ← hd]
  obtain ⟨N, hN⟩ : ∃ N, N = min n l.length := ⟨_, rfl⟩
  have f0 : padZ fitV l n 0 = List.replicate n 0 := by simp [padZ]
  refine loop_meas (fun o => ∃ S', o = some (isl (blkO x l), S') ∧ Fr S S' []) (fun m st => ∃ (i : Nat) (T : Heap), i + m = N ∧ st = ([a, .hs d 0 n 1, .int .i64 (i : Int)], T) ∧ T.blk d = some (ints (padZ fitV l n i)) ∧ d < T.next ∧ Fr S T []) N
    ⟨0, _, by omega, rfl, by rw [f0, hd]; exact alloc_blk _ _, by rw [hd]; exact Nat.lt_succ_self _, Fr.alloc _ _ _⟩ ?_
  rintro m st ⟨i, T, him, rfl, hb, hdT, hF⟩
  have hla := (hl T 0).len
  cases m with
  | succ m =>
    have hi : i < l.length := by omega
    have c1 : (i : Int) < (n : Int) := by omega
    have c2 : (i : Int) < (l.length : Int) := by omega
    obtain ⟨t, cs, o, x1, x2, x3⟩ := (hl T 0).at hi
    have m1 := mod20_c hB k (S := T) l[i] 4127 (by omega)
    have g1 := modI_lt l[i] (show (0 : Int) < 4127 by omega)
    have g2 := modI_lt l[i] (show (0 : Int) < 5 by omega)
    have w1 : IntKind.wrap .i64 (modI l[i] 4127 - 2063) = modI l[i] 4127 - 2063 := wr _ (by omega)
    have w3 : IntKind.wrap .i64 (modI l[i] 5 - 2) = modI l[i] 5 - 2 := wr _ (by omega)
    have w2 : IntKind.wrap .i64 ((i : Int) + 1) = ((i + 1 : Nat) : Int) := by rw [wr _ (by omega)]; omega
    have e1 := idxI d n (i := i) (by omega)
    have hpl : (padZ fitV l n i).length = n := padZ_len (by omega) (by omega)
    have e2 := putI (modI l[i] 4127 - 2063) hb (i := i) (by omega)
    obtain ⟨T1, hT1⟩ : ∃ T1, T1 = T.set d (some (ints ((padZ fitV l n i).set i (modI l[i] 4127 - 2063)))) := ⟨_, rfl⟩
    rw [← hT1] at e2
    have b1 : T1.blk d = some (ints ((padZ fitV l n i).set i (modI l[i] 4127 - 2063))) := by rw [hT1, set_blk]
    have hF1 : Fr S T1 [] := by rw [hT1]; exact hF.set (.inr (by omega)) _
    have hd1 : d < T1.next := by rw [hT1]; exact hdT
    obtain ⟨t', cs', o', y1, y2, y3⟩ := (hl T1 0).at hi
    rw [x1] at y1
    have y1' := Option.some.inj y1
    subst y1'
    have e3 : (padZ fitV l n i).set i (fitV l[i]) = padZ fitV l n (i + 1) := padZ_set (f := fitV) (by omega) hi
    by_cases h5 : (Int.tmod l[i] 5 != 0) = true
    · have m2 := mod20_c hB k (S := T1) l[i] 5 (by omega)
      have e4 := putI (modI l[i] 5 - 2) b1 (i := i) (by rw [List.length_set]; omega)
      have hfv : fitV l[i] = modI l[i] 5 - 2 := by unfold fitV; rw [if_pos h5]
      rw [List.set_set, ← hfv, e3] at e4
      have w3' : IntKind.wrap .i64 (modI l[i] 5 - 2) = fitV l[i] := by rw [hfv]; exact w3
      exact .inr ⟨m, ([a, .hs d 0 n 1, .int .i64 ((i + 1 : Nat) : Int)], T1.set d (some (ints (padZ fitV l n (i + 1))))), by omega, by simp only [zB, decide_true, decide_false, Bool.false_eq_true, if_false, if_true, List.getElem?_cons_zero, List.getElem?_cons_succ, beq_self_eq_true, bne_self_eq_false, Int.reduceBNe, Int.reduceBEq, Int.reduceLT, Int.reduceGT, Int.reduceLE, Int.reduceGE, Nat.reduceAdd, Nat.reduceMul, Nat.reduceLeDiff, c1, hla, len_hs71, c2, x1, x2, x3, m1, w1, e1, e2, y2, y3, h5, m2, w3', e4, w2], i + 1, _, by omega, rfl, set_blk _ _ _, hd1, hF1.set (.inr (by omega)) _⟩
    · have h5' : (Int.tmod l[i] 5 != 0) = false := by simpa using h5
      have hfv : fitV l[i] = modI l[i] 4127 - 2063 := by unfold fitV; rw [if_neg h5]
      rw [← hfv, e3] at b1
      exact .inr ⟨m, ([a, .hs d 0 n 1, .int .i64 ((i + 1 : Nat) : Int)], T1), by omega, by simp only [zB, decide_true, decide_false, Bool.false_eq_true, if_false, if_true, List.getElem?_cons_zero, List.getElem?_cons_succ, beq_self_eq_true, bne_self_eq_false, Int.reduceBNe, Int.reduceBEq, Int.reduceLT, Int.reduceGT, Int.reduceLE, Int.reduceGE, Nat.reduceAdd, Nat.reduceMul, Nat.reduceLeDiff, c1, hla, len_hs71, c2, x1, x2, x3, m1, w1, e1, e2, y2, y3, h5', w2], i + 1, _, by omega, rfl, b1, hd1, hF1⟩
  | zero =>
    have hiN : i = min n l.length := by omega
    have hC : blkO x l = padZ fitV l n i := by unfold blkO; rw [← hn, hiN]
    have hlen : (padZ fitV l n i).length = n := padZ_len (by omega) (by omega)
    refine .inl ⟨(0, [.hs d 0 n 1], T), ?_, ?_⟩
    · by_cases h16 : (i : Int) < (n : Int)
      · have c2 : ¬ (i : Int) < (l.length : Int) := by omega
        simp only [zB, decide_true, decide_false, Bool.false_eq_true, if_false, if_true, List.getElem?_cons_zero, List.getElem?_cons_succ, beq_self_eq_true, bne_self_eq_false, Int.reduceBNe, Int.reduceBEq, Int.reduceLT, Int.reduceGT, Int.reduceLE, Int.reduceGE, Nat.reduceAdd, Nat.reduceMul, Nat.reduceLeDiff, h16, hla, len_hs71, c2]
      · simp only [zB, decide_true, decide_false, Bool.false_eq_true, if_false, if_true, List.getElem?_cons_zero, List.getElem?_cons_succ, beq_self_eq_true, bne_self_eq_false, Int.reduceBNe, Int.reduceBEq, Int.reduceLT, Int.reduceGT, Int.reduceLE, Int.reduceGE, Nat.reduceAdd, Nat.reduceMul, Nat.reduceLeDiff, h16, len_hs71]
    have hne : padZ fitV l n i ≠ [] := fun h => by rw [h] at hlen; simp at hlen; omega
    have hR : HR T (padZ fitV l n i) d := fun _ => ⟨hb, hdT⟩
    have e := fz_hv 38 hR
    have hvv : hv (padZ fitV l n i) d = .hs d 0 n 1 := by unfold hv; rw [if_neg hne, hlen]
    rw [hvv] at e
    rw [hC]
    exact ⟨_, by simp only [zB, decide_true, decide_false, Bool.false_eq_true, if_false, if_true, List.getElem?_cons_zero, List.getElem?_cons_succ, beq_self_eq_true, bne_self_eq_false, Int.reduceBNe, Int.reduceBEq, Int.reduceLT, Int.reduceGT, Int.reduceLE, Int.reduceGE, Nat.reduceAdd, Nat.reduceMul, Nat.reduceLeDiff, sel_0, e]; rfl, hF.kill (fun _ => .inr (by omega))⟩
theorem code20_c {cls : Int} {a : AV} {l : List Int} (hl : ∀ S d, IL S a l d) (hlen : l.length ≤ 1000000) (he : (putR cls l).1 = 0) : ∃ S', Cn B (k + 8) f_spindlelaw20_code 0 [.int .i64 cls, a] S = some (.str (bitStr (putR cls l).2), S') ∧ Fr S S' [] := by
  rw [c_spindlelaw20_code _ _ _ _ _ (hB.no _ _ _ _ (kn_no (by decide))), T_spindlelaw20_code]
  obtain ⟨S1, e1, w1, f1⟩ := write_c hB (k + 6) (S := S)
  obtain ⟨S2, q2, e2, p2⟩ := vput_c hB k w1 (by simp) cls (hl S1 (S.next + 1)) ⟨by omega, by omega⟩ (by omega)
  rw [he] at e2
  have hbl := putR_len cls l
  obtain ⟨S3, e3, f3⟩ := wbits_c hB (k + 5) p2.1 (by simp; omega)
  rw [List.nil_append] at e3
  exact ⟨S3, by simp only [zB, decide_true, decide_false, Bool.false_eq_true, if_false, if_true, List.getElem?_cons_zero, List.getElem?_cons_succ, beq_self_eq_true, bne_self_eq_false, Int.reduceBNe, Int.reduceBEq, Int.reduceLT, Int.reduceGT, Int.reduceLE, Int.reduceGE, Nat.reduceAdd, Nat.reduceMul, Nat.reduceLeDiff, e1, e2, e3], (f1.trans p2.2.1 (fun j hj => .inr (by simp at hj; omega))).trans f3 (fun j hj => by simp at hj)⟩
end
theorem tok_fin2 : ((List.range 5).all fun c => (List.range 62).all fun n => decide ((clsC c n).length ≤ 11)) = true := by kernel_rfl
theorem Blk.good {l : List Int} (h : Blk l) {cls : Int} (hc : 0 ≤ cls ∧ cls ≤ 4) : Good ⟨0, cls, l.length, ((rst l).1.length : Nat), (onesN (rst l).1 : Nat)⟩ := by
  obtain ⟨h1, h2, h3, h4⟩ := h.tot
  refine ⟨.inl rfl, (sizedI_iff _).1 h.sz, fun _ => ⟨hc, ⟨by simp only; omega, by simp only; omega⟩, by simp only; omega, ?_⟩, fun h => (by cases h), fun h => (by cases h)⟩
  simp only
  rw [m3_nat]; omega
theorem tok_dec {l : List Int} (h : Blk l) {cls : Int} (hc : 0 ≤ cls ∧ cls ≤ 4) {s : ByteArray} {a : Nat} (hh : Has s a (tokP cls l.length ((rst l).1.length : Nat) (onesN (rst l).1 : Nat)).2) :
    tokR s a cls l.length = ((((rst l).1.length : Nat) : Int), ((onesN (rst l).1 : Nat) : Int), 0, a + (tokP cls l.length ((rst l).1.length : Nat) (onesN (rst l).1 : Nat)).2.length) := (tok_good (h.good hc) rfl).2 s a hh
theorem tok_le11 {l : List Int} (h : Blk l) {cls : Int} (hc : 0 ≤ cls ∧ cls ≤ 4) : (tokP cls l.length ((rst l).1.length : Nat) (onesN (rst l).1 : Nat)).2.length ≤ 11 := by
  obtain ⟨h1, h2, h3, h4⟩ := h.tot
  obtain ⟨n, hn, hn2, _⟩ := sym_ok h2 (show onesN (rst l).1 ≤ min (rst l).1.length 3 by omega)
  unfold tokP
  rw [if_neg (by rw [h.sz]; simp; omega), hn, if_neg (by simp)]
  simp only [Int.toNat_natCast]
  have h1 := List.all_eq_true.1 tok_fin2 cls.toNat (List.mem_range.2 (by omega))
  have h2 := List.all_eq_true.1 h1 n (List.mem_range.2 (by omega))
  simpa using h2
theorem zer_le5 {size total z : Int} : (zerP size total z).2.length ≤ 5 := by
  unfold zerP
  split
  · simp
  · rename_i h
    simp only [not_or] at h
    have hs := (sizedI_iff size).1 (by simpa using h.1)
    obtain ⟨f1, f2, f3, f4, f5, f6⟩ := cut_facts ⟨(size - total).toNat, by omega⟩
    simp only at f3
    split <;> simp only [bitsN_len] <;> omega
theorem runs_le : ∀ (M : List Nat) (z : Nat), (runsP z M).length ≤ M.sum + M.length
  | [], z => by simp [runsP]
  | n :: M, z => by
    have h1 := runs_le M (z - n)
    have h2 : (runP (z : Int) (n : Int)).2.length ≤ n + 1 := by
      unfold runP
      split
      · simp
      · split <;> simp [bitsN_len]
    simp only [runsP, List.length_append, List.length_cons, List.sum_cons]; omega
theorem blk_len {l : List Int} (h : Blk l) {cls : Int} (hc : 0 ≤ cls ∧ cls ≤ 4) {K : List Bool} (hK : blkC cls l = some K) : K.length ≤ 29 * (rst l).1.length + 30 := by
  have h1 := h.len
  have h2 := h.tot
  have h3 := (rst_sum l).2
  have h4 := h.zr
  have e1 := tok_le11 h hc
  unfold blkC at hK
  split at hK
  · rw [← Option.some.inj hK]; omega
  · rename_i h0
    have hp := List.length_pos_iff.2 h0
    simp only [Option.map_eq_some_iff] at hK
    obtain ⟨b, hb, rfl⟩ := hK
    have e2 := zer_le5 (size := (l.length : Int)) (total := ((rst l).1.length : Nat)) (z := (rZ l : Nat))
    have e3 := runs_le (rst l).2.1 (rZ l)
    have e4 := lvsP_len _ _ _ _ (k0_le _ _) hb
    rw [List.length_drop] at e4
    have h5 := h4.2 h0
    simp only [List.length_append, onesB, List.length_map, List.length_take]
    omega
theorem putR_some {l : List Int} (h : Blk l) {cls : Int} (hc : 0 ≤ cls ∧ cls ≤ 4) (he : (putR cls l).1 = 0) : blkC cls l = some (putR cls l).2 := by
  unfold putR at he ⊢
  rw [if_neg (by rw [h.sz, h.rg]; simp; omega)] at he ⊢
  cases hK : blkC cls l with
  | none => rw [hK] at he; cases he
  | some K => rfl
theorem mod5 (c : Int) : 0 ≤ modI c 5 ∧ modI c 5 ≤ 4 := by have := modI_lt c (show (0 : Int) < 5 by omega); omega
theorem filter_count (C : List Int) : (C.filter fun v => decide (v ≠ 0)).length = (rst C).1.length := by rw [rst_filter, List.length_reverse]
theorem lengths20_law {x : Int} (hx : 0 ≤ x) (c : Int) {a : AV} {l : List Int} (hl : ∀ S d, IL S a l d) : ∃ S', Cn Bk 10 f_spindlelaw20_VblockLengths 0 [.int .u8 x, .int .i64 c, a] S0 = some (.bool true, S') := by
  have hB := Bk_silent
  rw [c_spindlelaw20_VblockLengths _ _ _ _ _ _ (hB.no _ _ _ _ (kn_no (by decide))), T_spindlelaw20_VblockLengths]
  have h1 := (hl S0 0).len
  have e0 : ∀ S, Cn Bk 9 f_spindlelaw20_known 0 [] S = some (.bool true, S) := fun S => chk_c hB known20_chk _ _
  by_cases g : (l.length : Int) > 20
  · exact ⟨S0, by simp only [zB, decide_true, decide_false, Bool.false_eq_true, if_false, if_true, List.getElem?_cons_zero, List.getElem?_cons_succ, beq_self_eq_true, bne_self_eq_false, Int.reduceBNe, Int.reduceBEq, Int.reduceLT, Int.reduceGT, Int.reduceLE, Int.reduceGE, Nat.reduceAdd, Nat.reduceMul, Nat.reduceLeDiff, h1, g, e0]⟩
  obtain ⟨S1, e1, f1⟩ := fit20_c hB 7 (S := S0) hx hl
  have e2 := mod20_c hB 8 (S := S1) c 5 (by omega)
  have hc := mod5 c
  obtain ⟨K, hK⟩ : ∃ K, K = modI c 5 := ⟨_, rfl⟩
  rw [← hK] at e2 hc
  have hblk := blkO_blk x l
  have hfit := fits_ok hblk (blkO_abs x l) hc
  obtain ⟨C, hC⟩ : ∃ C, C = blkO x l := ⟨_, rfl⟩
  rw [← hC] at hblk hfit e1
  have hCl := hblk.len
  simp only [zB, decide_true, decide_false, Bool.false_eq_true, if_false, if_true, List.getElem?_cons_zero, List.getElem?_cons_succ, beq_self_eq_true, bne_self_eq_false, Int.reduceBNe, Int.reduceBEq, Int.reduceLT, Int.reduceGT, Int.reduceLE, Int.reduceGE, Nat.reduceAdd, Nat.reduceMul, Nat.reduceLeDiff, h1, g, e1, e2]
  refine loop_meas (fun o => ∃ S', o = some (AV.bool true, S')) (fun m st => ∃ i : Nat, i + m = C.length ∧ st = ([isl C, .int .i64 K, .int .i64 ((((C.take i).filter fun v => decide (v ≠ 0)).length : Nat) : Int), .int .i64 (i : Int)], S1)) C.length ⟨0, by omega, rfl⟩ ?_
  rintro m st ⟨i, him, rfl⟩
  have hlc := (isl_il S1 C 0).len
  cases m with
  | succ m =>
    have hi : i < C.length := by omega
    have c1 : (i : Int) < (C.length : Int) := by omega
    obtain ⟨t, cs, o, x1, x2, x3⟩ := (isl_il S1 C 0).at hi
    have w2 : IntKind.wrap .i64 ((i : Int) + 1) = ((i + 1 : Nat) : Int) := by rw [wr _ (by omega)]; omega
    have hft := congrArg List.length (filter_take C hi)
    have hfl : ((C.take i).filter fun v => decide (v ≠ 0)).length ≤ 16 := Nat.le_trans (List.length_filter_le _ _) (by rw [List.length_take]; omega)
    rw [List.length_append] at hft
    by_cases h0 : C[i] = 0
    · have c3 : (C[i] != 0) = false := by simp [h0]
      rw [if_pos h0, List.length_nil, Nat.add_zero] at hft
      exact .inr ⟨m, ([isl C, .int .i64 K, .int .i64 ((((C.take i).filter fun v => decide (v ≠ 0)).length : Nat) : Int), .int .i64 ((i + 1 : Nat) : Int)], S1), by omega, by simp only [zB, decide_true, decide_false, Bool.false_eq_true, if_false, if_true, List.getElem?_cons_zero, List.getElem?_cons_succ, beq_self_eq_true, bne_self_eq_false, Int.reduceBNe, Int.reduceBEq, Int.reduceLT, Int.reduceGT, Int.reduceLE, Int.reduceGE, Nat.reduceAdd, Nat.reduceMul, Nat.reduceLeDiff, hlc, c1, x1, x2, x3, c3, w2], i + 1, by omega, by rw [hft]; rfl⟩
    · have c3 : (C[i] != 0) = true := by simp [h0]
      rw [if_neg h0, List.length_singleton] at hft
      have w3 : IntKind.wrap .i64 ((((C.take i).filter fun v => decide (v ≠ 0)).length : Int) + 1) = ((((C.take i).filter fun v => decide (v ≠ 0)).length + 1 : Nat) : Int) := by rw [wr _ (by omega)]; omega
      exact .inr ⟨m, ([isl C, .int .i64 K, .int .i64 ((((C.take i).filter fun v => decide (v ≠ 0)).length + 1 : Nat) : Int), .int .i64 ((i + 1 : Nat) : Int)], S1), by omega, by simp only [zB, decide_true, decide_false, Bool.false_eq_true, if_false, if_true, List.getElem?_cons_zero, List.getElem?_cons_succ, beq_self_eq_true, bne_self_eq_false, Int.reduceBNe, Int.reduceBEq, Int.reduceLT, Int.reduceGT, Int.reduceLE, Int.reduceGE, Nat.reduceAdd, Nat.reduceMul, Nat.reduceLeDiff, hlc, c1, x1, x2, x3, c3, w2, w3], i + 1, by omega, by rw [hft]⟩
  | zero =>
    have hi : i = C.length := by omega
    subst hi
    have c1 : ¬ ((C.length : Int) < (C.length : Int)) := by omega
    rw [List.take_length, filter_count]
    refine .inl ⟨(0, [isl C, .int .i64 K, .int .i64 ((rst C).1.length : Int)], S1), by simp only [zB, decide_true, decide_false, Bool.false_eq_true, if_false, if_true, List.getElem?_cons_zero, List.getElem?_cons_succ, beq_self_eq_true, bne_self_eq_false, Int.reduceBNe, Int.reduceBEq, Int.reduceLT, Int.reduceGT, Int.reduceLE, Int.reduceGE, Nat.reduceAdd, Nat.reduceMul, Nat.reduceLeDiff, hlc, c1], ?_⟩
    obtain ⟨S2, e3, f3⟩ := code20_c hB 1 (S := S1) (cls := K) (fun S d => isl_il S C d) (by omega) hfit
    obtain ⟨Z, hZ⟩ : ∃ Z, Z = List.replicate C.length (0 : Int) := ⟨_, rfl⟩
    have hZl : Z.length = C.length := by rw [hZ, List.length_replicate]
    have hZm : ∀ v ∈ Z, v = 0 := fun v hv => by rw [hZ] at hv; exact (List.mem_replicate.1 hv).2
    have hZb : Blk Z := ⟨by rw [hZl]; exact hblk.sz, rngd_of (fun v hv => by rw [hZm v hv]; omega)⟩
    have hZf := fits_ok hZb (fun v hv => by rw [hZm v hv]; simp) hc
    have hZr : (rst Z).1 = [] := by rw [rst_filter, List.filter_eq_nil_iff.2 (fun v hv => by rw [hZm v hv]; simp)]; rfl
    have hiz : ∀ S d, IL S (.is C.length (ints Z)) Z d := fun S d => .inr (.inl (by rw [hZl]))
    obtain ⟨S3, e4, f4⟩ := code20_c hB 1 (S := S2) (cls := K) hiz (by omega) hZf
    have hp1 := putR_some hblk hc hfit
    have hp2 := putR_some hZb hc hZf
    obtain ⟨P, hP⟩ : ∃ P, P = (putR K C).2 := ⟨_, rfl⟩
    obtain ⟨Q, hQ⟩ : ∃ Q, Q = (putR K Z).2 := ⟨_, rfl⟩
    rw [← hP] at hp1 e3
    rw [← hQ] at hp2 e4
    have hlen := blk_len hblk hc hp1
    have hq : strEq (bitStr P) (ByteArray.mk #[63]) = false := strEq_ne (fun h => by
      have h2 := congrArg (fun b => b.data.toList) h
      simp only [bitStr_list] at h2
      cases P with
      | nil => simp at h2
      | cons b P =>
        simp only [List.map_cons, List.cons.injEq] at h2
        have := h2.1
        cases b <;> exact absurd this (by decide))
    have hsz : ((bitStr P).size : Int) = (P.length : Int) := by rw [bits_len]
    have hcl := hblk.tot
    have w4 : IntKind.wrap .i64 (29 * ((rst C).1.length : Int)) = ((29 * (rst C).1.length : Nat) : Int) := by rw [wr _ (by omega)]; omega
    have w5 : IntKind.wrap .i64 (((29 * (rst C).1.length : Nat) : Int) + 30) = ((29 * (rst C).1.length + 30 : Nat) : Int) := by rw [wr _ (by omega)]; omega
    have c4 : ¬ ((P.length : Int) > ((29 * (rst C).1.length + 30 : Nat) : Int)) := by omega
    obtain ⟨k1, k2, k3, k4⟩ := mk1 (n := C.length) (by omega)
    have hQe : Q = (tokP K (Z.length : Int) (((rst Z).1.length : Nat) : Int) ((onesN (rst Z).1 : Nat) : Int)).2 := by
      unfold blkC at hp2
      rw [if_pos hZr] at hp2
      exact (Option.some.inj hp2).symm
    have heq : ((((rst C).1.length : Int) == 0) == strEq (bitStr P) (bitStr Q)) = true := by
      by_cases h0 : (rst C).1 = []
      · have : P = Q := by
          unfold blkC at hp1
          rw [if_pos h0] at hp1
          rw [← Option.some.inj hp1, hQe, h0, hZr, hZl]
        rw [this, strEq_self, h0]; rfl
      · have hlp := List.length_pos_iff.2 h0
        have hne : bitStr P ≠ bitStr Q := fun h => by
          have hPQ := bitStr_inj h
          obtain ⟨s, hs⟩ := has_some P
          have hs2 := hs
          rw [hPQ, hQe] at hs2
          have d2 := tok_dec hZb hc hs2
          have hs3 : Has s 0 (tokP K (C.length : Int) (((rst C).1.length : Nat) : Int) ((onesN (rst C).1 : Nat) : Int)).2 := by
            unfold blkC at hp1
            rw [if_neg h0] at hp1
            simp only [Option.map_eq_some_iff] at hp1
            obtain ⟨b, hb, hPe⟩ := hp1
            rw [← hPe, Has.app, Has.app, Has.app, Has.app] at hs
            exact hs.1.1.1.1
          have d1 := tok_dec hblk hc hs3
          rw [hZl, d1, hZr] at d2
          simp only [Prod.mk.injEq] at d2
          have := d2.1
          simp only [List.length_nil] at this
          omega
        rw [strEq_ne hne]
        have : (((rst C).1.length : Int) == 0) = false := by simp; exact h0
        rw [this]; rfl
    have hi2 : ints Z = List.replicate C.length (AV.int .i64 0) := by rw [hZ, ints_rep]
    rw [hi2] at e4
    exact ⟨S3, by simp only [zB, decide_true, decide_false, Bool.false_eq_true, if_false, if_true, List.getElem?_cons_zero, List.getElem?_cons_succ, beq_self_eq_true, bne_self_eq_false, Int.reduceBNe, Int.reduceBEq, Int.reduceLT, Int.reduceGT, Int.reduceLE, Int.reduceGE, Nat.reduceAdd, Nat.reduceMul, Nat.reduceLeDiff, sel_0, e3, hq, hsz, w4, w5, c4, hlc, k1, k2, k3, k4, Int.toNat_natCast, e4, heq, e0]⟩
theorem vblockLengths_law (xs : List AV) (h : argsOk Try.prog maxLen 16 Try.f16.params.toList xs) : ∃ (C : CallF) (S' : Heap), NOk Try.prog (fun _ => none) C ∧ C 16 0 xs S0 = some (.bool true, S') := by
  rw [Try.params16] at h
  obtain ⟨a, r, rfl, h1, b, r2, rfl, h2, c, r3, rfl, h3, rfl⟩ := h
  obtain ⟨x, rfl, hx⟩ := arg5 h1
  obtain ⟨n, rfl, _⟩ := arg3 h2
  obtain ⟨l, hl⟩ := arg_ints h3
  obtain ⟨S', hS⟩ := lengths20_law hx.1 n hl
  exact ⟨Cn Bk 10, S', Cn_ok 10, hS⟩
end Go.Ab.tV
