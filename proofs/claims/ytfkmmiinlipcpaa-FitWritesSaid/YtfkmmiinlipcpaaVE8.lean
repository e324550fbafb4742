/- A block is written by the reference; rows of numbers copied and compared. -/
import Derived.Test.YtfkmmiinlipcpaaVE7
set_option maxRecDepth 100000
set_option linter.unusedSimpArgs false
set_option linter.unusedVariables false
set_option linter.unusedSectionVars false
namespace Go.Ab.tV
open Go Go.Proofs

/-- A writer of the reference that may have been cut: its characters are the first ones of block q. -/
def RWc (S : Heap) (p q : Nat) (bs : List Bool) : Prop := ∃ rest, S.blk p = some [.hs q 0 bs.length 1] ∧ S.blk q = some (u8s (bs.map bitC) ++ rest) ∧ p < S.next
theorem slice_hs_hi (id n h : Nat) (hh : h ≤ n) : aSlice Try.prog 103 (.hs id 0 n 1) none (some (.int .i64 (h : Int))) = some (.hs id 0 h 1) := by
  have hu : Try.prog.underlying 103 = some (.slice 5) := by kernel_rfl
  have hs : tsize Try.prog 5 = some 1 := by kernel_rfl
  simp [aSlice, hu, hs, aNat, hh]
theorem RWr.cutable {S : Heap} {p q : Nat} {bs : List Bool} (h : RWr S p q bs) (h0 : bs ≠ []) : S.blk p = some [.hs q 0 bs.length 1] ∧ S.blk q = some (u8s (bs.map bitC)) ∧ q < S.next ∧ q ≠ p := by
  have h1 : bs.map bitC ≠ [] := by simpa using h0
  have hb := h.blk
  rw [if_neg h1, List.length_map] at hb
  exact ⟨hb, h.row h1⟩
def ROut (S : Heap) (p q : Nat) (bs : List Bool) (res : Int × List Bool) (o : Option (AV × Heap)) : Prop :=
  ∃ S' q', o = some (AV.int .i64 res.1, S') ∧ Fr S S' [p, q] ∧ (bs ++ res.2 ≠ [] → S'.blk p = some [.hs q' 0 (bs ++ res.2).length 1] ∧ q' < S'.next ∧ ∃ rest, S'.blk q' = some (u8s ((bs ++ res.2).map bitC) ++ rest))
theorem clsC_pos2 (c n : Nat) : 0 < (clsC c n).length := by
  unfold clsC
  split
  · rw [bitsN_len]; omega
  · unfold ukC
    rw [List.length_append, ueC_len]
    have h0 : n / 2 ^ (c % 4) + 1 ≠ 0 := Nat.succ_ne_zero _
    obtain ⟨h1, _, _⟩ := L2_spec h0
    omega
theorem tok_pos {l : List Int} (h : Blk l) {cls : Int} (hc : 0 ≤ cls ∧ cls ≤ 4) : (tokP cls l.length ((rst l).1.length : Nat) (onesN (rst l).1 : Nat)).2 ≠ [] := by
  obtain ⟨h1, h2, h3, h4⟩ := h.tot
  obtain ⟨n, hn, _⟩ := sym_ok h2 (show onesN (rst l).1 ≤ min (rst l).1.length 3 by omega)
  unfold tokP
  rw [if_neg (by rw [h.sz]; simp; omega), hn, if_neg (by simp)]
  intro he
  have := clsC_pos2 cls.toNat n
  simp only [Int.toNat_natCast] at he
  rw [he] at this; simp at this
section
variable {B : CallF} (hB : Silent B) (k : Nat) {S : Heap} {p q : Nat} {bs : List Bool}
include hB
theorem cut_c' {n : Nat} (h : RWr S p q bs) (h0 : bs ≠ []) (hn : n ≤ bs.length) : Cn B (k + 1) f_spindleref01_Writer_Cut 0 [.ptr p 0, .int .i64 (n : Int)] S = some (.tup [], S.set p (some [.hs q 0 n 1])) := by
  rw [c_spindleref01_Writer_Cut _ _ _ _ _ (hB.no _ _ _ _ (kn_no (by decide))), T_spindleref01_Writer_Cut]
  obtain ⟨h1, _⟩ := h.cutable h0
  have e1 := slice_hs_hi q bs.length n hn
  have e2 := put1_0 (x := .hs q 0 n 1) h1
  have hc : cell (.hs q 0 n 1) = true := rfl
  simp only [zB, decide_true, decide_false, Bool.false_eq_true, if_false, if_true, List.getElem?_cons_zero, List.getElem?_cons_succ, beq_self_eq_true, bne_self_eq_false, Int.reduceBNe, Int.reduceBEq, Int.reduceLT, Int.reduceGT, Int.reduceLE, Int.reduceGE, Nat.reduceAdd, Nat.reduceMul, Nat.reduceLeDiff, h1, e1, hc, List.all_cons, List.all_nil, e2]
theorem cbits1_c {p q : Nat} {bs rest : List _} (hp : S.blk p = some [.hs q 0 bs.length 1]) (hq : S.blk q = some (u8s (bs.map bitC) ++ rest)) : Cn B (k + 1) f_spindleref01_Writer_Bits 0 [.ptr p 0] S = some (.str (bitStr bs), S) := by
  rw [c_spindleref01_Writer_Bits _ _ _ _ (hB.no _ _ _ _ (kn_no (by decide))), T_spindleref01_Writer_Bits]
  have hb : ∀ x ∈ bs.map bitC, x < 256 := fun x hx => by
    obtain ⟨b, _, rfl⟩ := List.mem_map.1 hx
    unfold bitC; split <;> omega
  have e1 : aB2S (.hs q 0 bs.length 1) S = some (bitStr bs) := by
    have h2 := b2s_hs (S := { S with blk := fun j => if j = q then some (u8s (bs.map bitC)) else S.blk j }) (q := q) (l := bs.map bitC) (by simp) hb
    have ht : List.take bs.length (List.drop 0 (u8s (bs.map bitC) ++ rest)) = List.take bs.length (List.drop 0 (u8s (bs.map bitC))) := by
      rw [List.drop_zero, List.drop_zero, List.take_append_of_le_length (by rw [u8s_len, List.length_map]; exact Nat.le_refl _)]
    unfold aB2S at h2 ⊢
    simp only [if_true, List.length_map, u8s_len, Nat.zero_add, Nat.le_refl, and_self, hq, List.length_append] at h2 ⊢
    rw [if_pos ⟨trivial, Nat.le_add_right _ _⟩, ht]
    exact h2
  simp only [zB, decide_true, decide_false, Bool.false_eq_true, if_false, if_true, List.getElem?_cons_zero, List.getElem?_cons_succ, beq_self_eq_true, bne_self_eq_false, Int.reduceBNe, Int.reduceBEq, Int.reduceLT, Int.reduceGT, Int.reduceLE, Int.reduceGE, Nat.reduceAdd, Nat.reduceMul, Nat.reduceLeDiff, hp, e1]
theorem put1r_c (hw : RWr S p q bs) (hb : bs.length ≤ 1000000) (cls : Int) {a : AV} {l : List Int} {d : Nat} (hl : IL S a l d) (hd : d ≠ p ∧ d ≠ q) (hlen : l.length ≤ 1000000000) :
    ROut S p q bs (putR cls l) (Cn B (k + 6) f_spindleref20_Put 0 [.ptr p 0, .int .i64 cls, a] S) := by
  rw [c_spindleref20_Put _ _ _ _ _ _ (hB.no _ _ _ _ (kn_no (by decide))), T_spindleref20_Put]
  obtain ⟨S1, e1, f1⟩ := of1_c hB (k + 3) hl hlen
  have hw1 : RWr S1 p q bs := hw.fr f1 (by simp) (by simp)
  have fin0 : bs ++ [] ≠ [] → S1.blk p = some [.hs q 0 (bs ++ []).length 1] ∧ q < S1.next ∧ ∃ rest, S1.blk q = some (u8s ((bs ++ []).map bitC) ++ rest) := by
    rw [List.append_nil]
    intro h0
    obtain ⟨z1, z2, z3, _⟩ := hw1.cutable h0
    exact ⟨z1, z3, [], by rw [List.append_nil]; exact z2⟩
  unfold putR
  unfold ofR at e1
  by_cases g1 : cls < 0
  · rw [if_pos (.inl g1)]
    refine ⟨S1, q, ?_, f1.nil, fin0⟩
    have : ∃ z x, (if sizedI (l.length : Int) = false then AV.tup [zR, .int .i64 2] else if rngd l = false then AV.tup [zR, .int .i64 3] else AV.tup [ofA l, .int .i64 0]) = .tup [.agg z, .int .i64 x] ∧ z.length = 3 ∧ z.all cell = true := by
      split
      · exact ⟨_, _, rfl, rfl, rfl⟩
      · split
        · exact ⟨_, _, rfl, rfl, rfl⟩
        · exact ⟨_, _, rfl, rfl, by simp only [List.all_cons, List.all_nil, isl_cell, cell_i, Bool.and_self, Bool.and_true]⟩
    obtain ⟨z, x, hz, hz3, hzc⟩ := this
    rw [hz] at e1
    simp only [zB, decide_true, decide_false, Bool.false_eq_true, if_false, if_true, List.getElem?_cons_zero, List.getElem?_cons_succ, beq_self_eq_true, bne_self_eq_false, Int.reduceBNe, Int.reduceBEq, Int.reduceLT, Int.reduceGT, Int.reduceLE, Int.reduceGE, Nat.reduceAdd, Nat.reduceMul, Nat.reduceLeDiff, e1, hz3, hzc, g1]
  by_cases g2 : cls > 4
  · rw [if_pos (.inr (.inl g2))]
    refine ⟨S1, q, ?_, f1.nil, fin0⟩
    have : ∃ z x, (if sizedI (l.length : Int) = false then AV.tup [zR, .int .i64 2] else if rngd l = false then AV.tup [zR, .int .i64 3] else AV.tup [ofA l, .int .i64 0]) = .tup [.agg z, .int .i64 x] ∧ z.length = 3 ∧ z.all cell = true := by
      split
      · exact ⟨_, _, rfl, rfl, rfl⟩
      · split
        · exact ⟨_, _, rfl, rfl, rfl⟩
        · exact ⟨_, _, rfl, rfl, by simp only [List.all_cons, List.all_nil, isl_cell, cell_i, Bool.and_self, Bool.and_true]⟩
    obtain ⟨z, x, hz, hz3, hzc⟩ := this
    rw [hz] at e1
    simp only [zB, decide_true, decide_false, Bool.false_eq_true, if_false, if_true, List.getElem?_cons_zero, List.getElem?_cons_succ, beq_self_eq_true, bne_self_eq_false, Int.reduceBNe, Int.reduceBEq, Int.reduceLT, Int.reduceGT, Int.reduceLE, Int.reduceGE, Nat.reduceAdd, Nat.reduceMul, Nat.reduceLeDiff, e1, hz3, hzc, g1, g2]
  by_cases g3 : sizedI (l.length : Int) = false
  · rw [if_pos (.inr (.inr (.inl g3)))]
    rw [if_pos g3] at e1
    unfold zR at e1
    exact ⟨S1, q, by simp only [zB, decide_true, decide_false, Bool.false_eq_true, if_false, if_true, List.getElem?_cons_zero, List.getElem?_cons_succ, beq_self_eq_true, bne_self_eq_false, Int.reduceBNe, Int.reduceBEq, Int.reduceLT, Int.reduceGT, Int.reduceLE, Int.reduceGE, Nat.reduceAdd, Nat.reduceMul, Nat.reduceLeDiff, e1, g1, g2, List.length_cons, List.length_nil, List.all_cons, List.all_nil, cell_nils, cell_i], f1.nil, fin0⟩
  by_cases g4 : rngd l = false
  · rw [if_pos (.inr (.inr (.inr g4)))]
    rw [if_neg g3, if_pos g4] at e1
    unfold zR at e1
    exact ⟨S1, q, by simp only [zB, decide_true, decide_false, Bool.false_eq_true, if_false, if_true, List.getElem?_cons_zero, List.getElem?_cons_succ, beq_self_eq_true, bne_self_eq_false, Int.reduceBNe, Int.reduceBEq, Int.reduceLT, Int.reduceGT, Int.reduceLE, Int.reduceGE, Nat.reduceAdd, Nat.reduceMul, Nat.reduceLeDiff, e1, g1, g2, List.length_cons, List.length_nil, List.all_cons, List.all_nil, cell_nils, cell_i], f1.nil, fin0⟩
  rw [if_neg (by simp only [not_or]; exact ⟨g1, g2, g3, g4⟩)]
  rw [if_neg g3, if_neg g4] at e1
  have hl' := Blk.mk' g3 g4
  have hc : 0 ≤ cls ∧ cls ≤ 4 := ⟨by omega, by omega⟩
  have htok := hl'.tok hc
  have htp := tok_pos hl' hc
  have hzer := hl'.zer
  have htot := hl'.tot
  have hzr := hl'.zr
  have hmem := fun v hv => hl'.mem (v := v) hv
  have hll := hl'.len
  have hsum := (rst_sum l).2
  have htl := tokP_len cls (l.length : Int) ((rst l).1.length : Nat) (onesN (rst l).1 : Nat)
  have hzl := zerP_len (l.length : Int) ((rst l).1.length : Nat) (rZ l : Nat)
  unfold ofA at e1
  unfold blkC
  obtain ⟨L, hL⟩ : ∃ L, L = (rst l).1 := ⟨_, rfl⟩
  obtain ⟨M, hM⟩ : ∃ M, M = (rst l).2.1 := ⟨_, rfl⟩
  obtain ⟨Z, hZ⟩ : ∃ Z, Z = rZ l := ⟨_, rfl⟩
  rw [← hL] at e1 htok htp hzer htot hzr hmem htl hzl hsum ⊢
  rw [← hM] at e1 hzr hsum ⊢
  rw [← hZ] at e1 hzer hzr hzl ⊢
  have e2 := wlen1_c hB (k + 4) hw1
  have e3 := ones1_c hB (k + 4) (isl_il S1 L 0) (by omega) (.int .i64 (Z : Int)) (isl (natI M))
  obtain ⟨S2, q1, e4, p1⟩ := puttoken1_c hB (k + 1) hw1 (by omega) cls l.length (L.length : Nat) (onesN L : Nat)
  rw [htok] at e4
  have hlen1 := (isl_il S1 L 0).len
  have hla := (hl.fr f1 (by simp)).len
  have hltw := hw.lts
  have hF2 : Fr S S2 [p, q] := f1.nil.trans p1.2.1 (fun j hj => .inl hj)
  simp only [zB, decide_true, decide_false, Bool.false_eq_true, if_false, if_true, List.getElem?_cons_zero, List.getElem?_cons_succ, beq_self_eq_true, bne_self_eq_false, Int.reduceBNe, Int.reduceBEq, Int.reduceLT, Int.reduceGT, Int.reduceLE, Int.reduceGE, Nat.reduceAdd, Nat.reduceMul, Nat.reduceLeDiff, e1, List.length_cons, List.length_nil, List.all_cons, List.all_nil, isl_cell, cell_i, set3_a, g1, g2, e2, hlen1, take3, e3, hla, e4]
  obtain ⟨tok, htk⟩ : ∃ tok, tok = (tokP cls l.length (L.length : Nat) (onesN L : Nat)).2 := ⟨_, rfl⟩
  rw [← htk] at p1 htl htp ⊢
  by_cases h0 : L = []
  · have c1 : ((L.length : Int) == 0) = true := by rw [h0]; rfl
    rw [if_pos h0]
    refine ⟨S2, q1, by simp only [zB, decide_true, decide_false, Bool.false_eq_true, if_false, if_true, List.getElem?_cons_zero, List.getElem?_cons_succ, beq_self_eq_true, bne_self_eq_false, Int.reduceBNe, Int.reduceBEq, Int.reduceLT, Int.reduceGT, Int.reduceLE, Int.reduceGE, Nat.reduceAdd, Nat.reduceMul, Nat.reduceLeDiff, c1], hF2, fun hne => ?_⟩
    obtain ⟨z1, z2, z3, _⟩ := p1.1.cutable hne
    exact ⟨z1, z3, [], by rw [List.append_nil]; exact z2⟩
  rw [if_neg h0]
  have hLp := List.length_pos_iff.2 h0
  have c1 : ((L.length : Int) == 0) = false := by simp; exact h0
  obtain ⟨T1, e5, hC, f5⟩ := new1_c hB (k + 3) (S := S2) htot.2.1 (show onesN L ≤ min L.length 3 by omega)
  obtain ⟨cp, hcp⟩ : ∃ cp, cp = S2.next := ⟨_, rfl⟩
  rw [← hcp] at e5 hC
  simp only [zB, decide_true, decide_false, Bool.false_eq_true, if_false, if_true, List.getElem?_cons_zero, List.getElem?_cons_succ, beq_self_eq_true, bne_self_eq_false, Int.reduceBNe, Int.reduceBEq, Int.reduceLT, Int.reduceGT, Int.reduceLE, Int.reduceGE, Nat.reduceAdd, Nat.reduceMul, Nat.reduceLeDiff, c1, e5]
  have hlt2 := p1.1.lts
  have hq1 : q1 = q ∨ S.next ≤ q1 := by
    rcases p1.2.2 with h | h
    · exact .inl h
    · exact .inr (by have := f1.1; omega)
  have hFT : Fr S T1 [p, q] := hF2.trans f5 (fun j hj => by simp at hj)
  have hP1 : RWr T1 p q1 (bs ++ tok) := p1.1.fr f5 (by simp) (by simp)
  have hdA : ∀ j, (L.drop (onesN L))[j]? = L[onesN L + j]? := fun j => List.getElem?_drop
  have hcS : S.next ≤ cp := by have := hF2.1; omega
  refine loop_meas (ROut S p q bs _) (fun m st => ∃ (i : Nat) (U : Heap) (q' kk ss : Nat) (done : List Bool), i + m = L.length ∧ st = ([.ptr p 0, a, .agg [isl L, .int .i64 (Z : Int), isl (natI M)], .int .i64 (bs.length : Int), .int .i64 (L.length : Int), .int .i64 (onesN L : Int), .ptr cp 0, .int .i64 (i : Int)], U) ∧
      RWr U p q' (bs ++ tok ++ onesB (L.take (min i (onesN L))) ++ done) ∧ Fr S U [p, q] ∧ (q' = q ∨ S.next ≤ q') ∧ Cod1 U cp kk (L.length - max i (onesN L)) ss ∧ kk ≤ 6 ∧ ss ≤ 2 ∧ (ss = 0 ∨ i ≤ onesN L ∧ ss = s0N (onesN L)) ∧ cp ≠ q' ∧ done.length ≤ 28 * i ∧ (i < onesN L → done = []) ∧
      lvsP (k0N L.length (onesN L)) (s0N (onesN L)) (L.drop (onesN L)) = (lvsP kk ss (L.drop (max i (onesN L)))).map (done ++ ·)) L.length
    ⟨0, T1, q1, k0N L.length (onesN L), s0N (onesN L), [], by omega, rfl, by rw [Nat.zero_min, List.take_zero, List.append_nil]; simpa [onesB] using hP1, hFT, hq1, by rw [Nat.zero_max]; exact hC, k0_le _ _, s0_le _, .inr ⟨Nat.zero_le _, rfl⟩, by omega, by simp, fun _ => rfl, by rw [Nat.zero_max]; cases lvsP (k0N L.length (onesN L)) (s0N (onesN L)) (L.drop (onesN L)) <;> simp⟩ ?_
  rintro m st ⟨i, U, q3, kk, ss, done, him, rfl, hQ, hFU, hq3, hCU, hkk, hss, hs0, hcq, hdl, hdn, hlv⟩
  have hobl : (onesB (L.take (min i (onesN L)))).length ≤ 3 := by simp only [onesB, List.length_map, List.length_take]; omega
  have hltU := hQ.lts
  cases m with
  | succ m =>
    have hi : i < L.length := by omega
    have c2 : (i : Int) < (L.length : Int) := by omega
    obtain ⟨t, cs, o, x1, x2, x3⟩ := (isl_il U L 0).at hi
    have w2 : IntKind.wrap .i64 ((i : Int) + 1) = ((i + 1 : Nat) : Int) := by rw [wr _ (by omega)]; omega
    by_cases hio : i < onesN L
    · have c3 : (i : Int) < (onesN L : Int) := by omega
      have hv := onesG_at 3 L i hi hio
      have w1 := oneBit _ hv
      have hd0 := hdn hio
      subst hd0
      obtain ⟨U2, q4, e6, p6⟩ := put1_c hB (k + 4) hQ 1 (if (L[i] == -1) = true then 1 else 0) (by omega) (by split <;> omega) (by simp only [List.length_append, List.length_nil]; omega)
      rw [bitsN_bool, List.append_nil] at p6
      rw [show ((1 : Nat) : Int) = 1 from rfl] at e6
      have m1 : min i (onesN L) = i := by omega
      have m2 : min (i + 1) (onesN L) = i + 1 := by omega
      have m3 : max i (onesN L) = onesN L := by omega
      have m4 : max (i + 1) (onesN L) = onesN L := by omega
      rw [m1] at p6
      rw [m3] at hCU hlv
      refine .inr ⟨m, ([.ptr p 0, a, .agg [isl L, .int .i64 (Z : Int), isl (natI M)], .int .i64 (bs.length : Int), .int .i64 (L.length : Int), .int .i64 (onesN L : Int), .ptr cp 0, .int .i64 ((i + 1 : Nat) : Int)], U2), by omega, by simp only [zB, decide_true, decide_false, Bool.false_eq_true, if_false, if_true, List.getElem?_cons_zero, List.getElem?_cons_succ, beq_self_eq_true, bne_self_eq_false, Int.reduceBNe, Int.reduceBEq, Int.reduceLT, Int.reduceGT, Int.reduceLE, Int.reduceGE, Nat.reduceAdd, Nat.reduceMul, Nat.reduceLeDiff, c2, c3, x1, x2, x3, w1, e6, w2], i + 1, U2, q4, kk, ss, [], by omega, rfl, ?_, ?_, ?_, ?_, hkk, hss, ?_, ?_, by simp, fun _ => rfl, by rw [m4]; exact hlv⟩
      · rw [m2, onesB_take L hi, List.append_nil, ← List.append_assoc]; exact p6.1
      · refine hFU.trans p6.2.1 (fun j hj => ?_)
        simp only [List.mem_cons, List.not_mem_nil, or_false] at hj ⊢
        rcases hj with rfl | rfl
        · exact .inl (.inl rfl)
        · rcases hq3 with h | h
          · exact .inl (.inr h)
          · exact .inr h
      · rcases p6.2.2 with h | h
        · rw [h]; exact hq3
        · exact .inr (by have := hFU.1; omega)
      · rw [m4]; exact hCU.fr p6.2.1 (by simp; exact ⟨by omega, hcq⟩)
      · rcases hs0 with h | h
        · exact .inl h
        · exact .inr ⟨by omega, h.2⟩
      · rcases p6.2.2 with h | h
        · rw [h]; exact hcq
        · have := hCU.lt; omega
    · have c3 : ¬ (i : Int) < (onesN L : Int) := by omega
      obtain ⟨v, hv⟩ : ∃ v, v = L[i] := ⟨_, rfl⟩
      have hvm : v ∈ L := by rw [hv]; exact List.getElem_mem hi
      obtain ⟨hv0, hv1, hv2⟩ := hmem v hvm
      rw [← hv] at x3
      have hnot : ss = 0 ∨ v ≠ 1 ∧ v ≠ -1 := by
        rcases hs0 with hs0 | ⟨hi2, hs0⟩
        · exact .inl hs0
        · have hie : i = onesN L := by omega
          by_cases h3 : onesN L < 3
          · have h4 : onesN L < L.length := by omega
            have := onesG_stop 3 L h4 h3
            have e : v = L[onesG 3 L]'h4 := by
              rw [hv]; subst hie; rfl
            rw [e]; simp only [not_or] at this; exact .inr this
          · left; rw [hs0]; unfold s0N; rw [if_neg h3]
      have m1 : min i (onesN L) = onesN L := by omega
      have m2 : min (i + 1) (onesN L) = onesN L := by omega
      have m3 : max i (onesN L) = i := by omega
      have m4 : max (i + 1) (onesN L) = i + 1 := by omega
      rw [m3] at hCU hlv
      rw [m1] at hQ hobl
      rw [List.drop_eq_getElem_cons hi, ← hv] at hlv
      have hle1 : L.length - i = (L.length - (i + 1)) + 1 := by omega
      rw [hle1] at hCU
      have hcpp : cp ≠ p := by omega
      cases hb' : lvC kk ss v with
      | none =>
        have e7 := lput1_none hB (k + 2) (p := p) hCU hkk hss v ⟨hv1, hv2⟩ hv0 hnot hb'
        have hQne : bs ++ tok ++ onesB (L.take (onesN L)) ++ done ≠ [] := by
          intro h
          simp only [List.append_eq_nil_iff] at h
          exact htp h.1.1.2
        have e8 := cut_c' hB (k + 4) (n := bs.length) hQ hQne (by simp only [List.length_append]; omega)
        have : lvsP (k0N L.length (onesN L)) (s0N (onesN L)) (L.drop (onesN L)) = none := by rw [hlv]; simp only [lvsP, hb']; rfl
        rw [this, Option.map_none]
        refine .inl ⟨(1, [.int .i64 12], U.set p (some [.hs q3 0 bs.length 1])), by simp only [zB, decide_true, decide_false, Bool.false_eq_true, if_false, if_true, List.getElem?_cons_zero, List.getElem?_cons_succ, beq_self_eq_true, bne_self_eq_false, Int.reduceBNe, Int.reduceBEq, Int.reduceLT, Int.reduceGT, Int.reduceLE, Int.reduceGE, Nat.reduceAdd, Nat.reduceMul, Nat.reduceLeDiff, c2, c3, x1, x2, x3, e7, e8], U.set p (some [.hs q3 0 bs.length 1]), q3, by simp only [zB, decide_true, decide_false, Bool.false_eq_true, if_false, if_true, List.getElem?_cons_zero, List.getElem?_cons_succ, beq_self_eq_true, bne_self_eq_false, Int.reduceBNe, Int.reduceBEq, Int.reduceLT, Int.reduceGT, Int.reduceLE, Int.reduceGE, Nat.reduceAdd, Nat.reduceMul, Nat.reduceLeDiff, sel_1], hFU.set (.inl (by simp)) _, ?_⟩
        intro hne
        obtain ⟨z1, z2, z3, z4⟩ := hQ.cutable hQne
        rw [List.append_nil]
        refine ⟨set_blk _ _ _, z3, u8s ((tok ++ onesB (L.take (onesN L)) ++ done).map bitC), ?_⟩
        rw [set_other _ _ z4, z2, ← u8s_app, ← List.map_append]
        simp only [List.append_assoc]
      | some b =>
        obtain ⟨U2, q4, e7, g1', g2', g3', g4'⟩ := lput1_some hB (k + 2) hCU hQ ⟨hcpp, hcq⟩ (by simp only [List.length_append]; omega) hkk (by omega) hss v ⟨hv1, hv2⟩ hv0 hnot hb'
        have hbl := lvC_len hkk hb'
        refine .inr ⟨m, ([.ptr p 0, a, .agg [isl L, .int .i64 (Z : Int), isl (natI M)], .int .i64 (bs.length : Int), .int .i64 (L.length : Int), .int .i64 (onesN L : Int), .ptr cp 0, .int .i64 ((i + 1 : Nat) : Int)], U2), by omega, by simp only [zB, decide_true, decide_false, Bool.false_eq_true, if_false, if_true, List.getElem?_cons_zero, List.getElem?_cons_succ, beq_self_eq_true, bne_self_eq_false, Int.reduceBNe, Int.reduceBEq, Int.reduceLT, Int.reduceGT, Int.reduceLE, Int.reduceGE, Nat.reduceAdd, Nat.reduceMul, Nat.reduceLeDiff, c2, c3, x1, x2, x3, e7, w2], i + 1, U2, q4, aftN kk v.natAbs, 0, done ++ b, by omega, rfl, ?_, ?_, ?_, by rw [m4]; exact g4', (aft_le hkk _).1, by omega, .inl rfl, ?_, by rw [List.length_append]; omega, fun h => by omega, ?_⟩
        · rw [m2, ← List.append_assoc]; exact g1'
        · refine hFU.trans g2' (fun j hj => ?_)
          simp only [List.mem_cons, List.not_mem_nil, or_false] at hj ⊢
          rcases hj with rfl | rfl | rfl
          · exact .inl (.inl rfl)
          · rcases hq3 with h | h
            · exact .inl (.inr h)
            · exact .inr h
          · exact .inr hcS
        · rcases g3' with h | h
          · rw [h]; exact hq3
          · exact .inr (by have := hFU.1; omega)
        · rcases g3' with h | h
          · rw [h]; exact hcq
          · have := hCU.lt; omega
        · rw [hlv, m4]
          simp only [lvsP, hb', Option.map_map]
          congr 1
          funext x
          simp [List.append_assoc]
  | zero =>
    have hi : i = L.length := by omega
    subst hi
    have c2 : ¬ ((L.length : Int) < (L.length : Int)) := by omega
    have m1 : min L.length (onesN L) = onesN L := by omega
    have m3 : max L.length (onesN L) = L.length := by omega
    rw [m1] at hQ hobl
    rw [m3, List.drop_length, lvsP_nil, Option.map_some, List.append_nil] at hlv
    rw [hlv, Option.map_some]
    refine .inl ⟨(0, [.ptr p 0, a, .agg [isl L, .int .i64 (Z : Int), isl (natI M)], .int .i64 (L.length : Int)], U), by simp only [zB, decide_true, decide_false, Bool.false_eq_true, if_false, if_true, List.getElem?_cons_zero, List.getElem?_cons_succ, beq_self_eq_true, bne_self_eq_false, Int.reduceBNe, Int.reduceBEq, Int.reduceLT, Int.reduceGT, Int.reduceLE, Int.reduceGE, Nat.reduceAdd, Nat.reduceMul, Nat.reduceLeDiff, c2], ?_⟩
    obtain ⟨V, q4, e8, p8⟩ := putzeros1_c hB (k + 3) hQ (by simp only [List.length_append]; omega) l.length (L.length : Nat) (Z : Nat)
    rw [hzer h0] at e8
    obtain ⟨zb, hzb⟩ : ∃ zb, zb = (zerP l.length (L.length : Nat) (Z : Nat)).2 := ⟨_, rfl⟩
    rw [← hzb] at p8 hzl ⊢
    have hlaU : aLen Try.prog 71 a = some (.int .i64 (l.length : Int)) := hl.len
    simp only [zB, decide_true, decide_false, Bool.false_eq_true, if_false, if_true, List.getElem?_cons_zero, List.getElem?_cons_succ, beq_self_eq_true, bne_self_eq_false, Int.reduceBNe, Int.reduceBEq, Int.reduceLT, Int.reduceGT, Int.reduceLE, Int.reduceGE, Nat.reduceAdd, Nat.reduceMul, Nat.reduceLeDiff, sel_0, hlaU, e8]
    have hMl : M.length ≤ 16 := by omega
    have hMs := hzr.2 h0
    have hFV : Fr S V [p, q] := hFU.trans p8.2.1 (fun j hj => by
      simp only [List.mem_cons, List.not_mem_nil, or_false] at hj ⊢
      rcases hj with rfl | rfl
      · exact .inl (.inl rfl)
      · rcases hq3 with h | h
        · exact .inl (.inr h)
        · exact .inr h)
    have hq4 : q4 = q ∨ S.next ≤ q4 := by
      rcases p8.2.2 with h | h
      · rw [h]; exact hq3
      · exact .inr (by have := hFU.1; omega)
    refine loop_meas (ROut S p q bs _) (fun m st => ∃ (i left : Nat) (W : Heap) (q' : Nat) (done2 : List Bool), i + m = M.length ∧ st = ([.ptr p 0, .agg [isl L, .int .i64 (Z : Int), isl (natI M)], .int .i64 (left : Int), .int .i64 (i : Int)], W) ∧
        RWr W p q' (bs ++ tok ++ onesB (L.take (onesN L)) ++ done ++ zb ++ done2) ∧ Fr S W [p, q] ∧ (q' = q ∨ S.next ≤ q') ∧ left ≤ Z ∧ (M.drop i).sum ≤ left ∧ done2.length ≤ 80 * i ∧ runsP Z M = done2 ++ runsP left (M.drop i)) M.length
      ⟨0, Z, V, q4, [], by omega, rfl, by rw [List.append_nil]; exact p8.1, hFV, hq4, Nat.le_refl _, by rw [List.drop_zero]; exact hMs, by simp, by rw [List.drop_zero]; rfl⟩ ?_
    rintro m st ⟨i, left, W, q5, done2, him, rfl, hR, hFW, hq5, hlz, hsm, hd2, hrp⟩
    have hlM := (isl_il W (natI M) 0).len
    rw [natI_len] at hlM
    cases m with
    | zero =>
      have c4 : ¬ ((i : Int) < (M.length : Int)) := by omega
      refine .inl ⟨(0, [], W), by simp only [zB, decide_true, decide_false, Bool.false_eq_true, if_false, if_true, List.getElem?_cons_zero, List.getElem?_cons_succ, beq_self_eq_true, bne_self_eq_false, Int.reduceBNe, Int.reduceBEq, Int.reduceLT, Int.reduceGT, Int.reduceLE, Int.reduceGE, Nat.reduceAdd, Nat.reduceMul, Nat.reduceLeDiff, hlM, c4], W, q5, by simp only [zB, decide_true, decide_false, Bool.false_eq_true, if_false, if_true, List.getElem?_cons_zero, List.getElem?_cons_succ, beq_self_eq_true, bne_self_eq_false, Int.reduceBNe, Int.reduceBEq, Int.reduceLT, Int.reduceGT, Int.reduceLE, Int.reduceGE, Nat.reduceAdd, Nat.reduceMul, Nat.reduceLeDiff, sel_0], hFW, fun hne => ?_⟩
      rw [List.drop_eq_nil_of_le (by omega), runsP, List.append_nil] at hrp
      have hbe : bs ++ (tok ++ onesB (L.take (onesN L)) ++ done ++ zb ++ runsP Z M) = bs ++ tok ++ onesB (L.take (onesN L)) ++ done ++ zb ++ done2 := by rw [hrp]; simp only [List.append_assoc]
      rw [hbe] at hne ⊢
      obtain ⟨z1, z2, z3, _⟩ := hR.cutable hne
      exact ⟨z1, z3, [], by rw [List.append_nil]; exact z2⟩
    | succ m =>
      have hi : i < M.length := by omega
      have c4 : (i : Int) < (M.length : Int) := by omega
      have hi' : i < (natI M).length := by rw [natI_len]; exact hi
      obtain ⟨t, cs, o, x1, x2, x3⟩ := (isl_il W (natI M) 0).at hi'
      rw [natI_at hi'] at x3
      rw [List.drop_eq_getElem_cons hi, List.sum_cons] at hsm
      obtain ⟨W2, q6, e9, p9⟩ := putrun1_c hB (k + 3) hR (by simp only [List.length_append]; omega) (left : Nat) (M[i] : Nat)
      have hrl := runP_len (left : Int) (M[i] : Nat)
      have w4 : IntKind.wrap .i64 ((left : Int) - ((M[i] : Nat) : Int)) = ((left - M[i] : Nat) : Int) := by rw [wr _ (by omega)]; omega
      have w5 : IntKind.wrap .i64 ((i : Int) + 1) = ((i + 1 : Nat) : Int) := by rw [wr _ (by omega)]; omega
      obtain ⟨t2, cs2, o2, y1, y2, y3⟩ := (isl_il W2 (natI M) 0).at hi'
      rw [natI_at hi'] at y3
      rw [x1] at y1
      have y1' := Option.some.inj y1
      subst y1'
      refine .inr ⟨m, ([.ptr p 0, .agg [isl L, .int .i64 (Z : Int), isl (natI M)], .int .i64 ((left - M[i] : Nat) : Int), .int .i64 ((i + 1 : Nat) : Int)], W2), by omega, by simp only [zB, decide_true, decide_false, Bool.false_eq_true, if_false, if_true, List.getElem?_cons_zero, List.getElem?_cons_succ, beq_self_eq_true, bne_self_eq_false, Int.reduceBNe, Int.reduceBEq, Int.reduceLT, Int.reduceGT, Int.reduceLE, Int.reduceGE, Nat.reduceAdd, Nat.reduceMul, Nat.reduceLeDiff, hlM, c4, x1, x2, x3, e9, y2, y3, w4, w5], i + 1, left - M[i], W2, q6, done2 ++ (runP (left : Nat) (M[i] : Nat)).2, by omega, rfl, ?_, ?_, ?_, by omega, by omega, by rw [List.length_append]; omega, ?_⟩
      · rw [← List.append_assoc]; exact p9.1
      · refine hFW.trans p9.2.1 (fun j hj => ?_)
        simp only [List.mem_cons, List.not_mem_nil, or_false] at hj ⊢
        rcases hj with rfl | rfl
        · exact .inl (.inl rfl)
        · rcases hq5 with h | h
          · exact .inl (.inr h)
          · exact .inr h
      · rcases p9.2.2 with h | h
        · rw [h]; exact hq5
        · exact .inr (by have := hFW.1; omega)
      · rw [hrp, List.drop_eq_getElem_cons hi]; simp only [runsP, List.append_assoc]
end
end Go.Ab.tV
