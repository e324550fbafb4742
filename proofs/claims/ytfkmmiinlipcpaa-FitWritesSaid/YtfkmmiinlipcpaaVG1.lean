/- A level is read. -/
import Derived.Test.YtfkmmiinlipcpaaVE4
set_option maxRecDepth 100000
set_option linter.unusedSimpArgs false
set_option linter.unusedVariables false
set_option linter.unusedSectionVars false
namespace Go.Ab.tV
open Go Go.Proofs

theorem sel_0' {β : Type} (f : List AV → Heap → Option β) (fs : List (List AV → Heap → Option β)) (v : List AV) (S : Heap) : sel (f :: fs) 0 v S = f v S := (rfl)
theorem put1_0' {T : Heap} {p : Nat} {x a : AV} (h : T.blk p = some [a]) : putV (.ptr p 0) [x] T = some (T.set p (some [x])) := by rw [putV_p h (by simp)]; rfl
theorem lead_bits {s : ByteArray} : ∀ (P a : Nat), Has s a (bitsN (P + 1) 1) → (∀ i, i < P → sb s (a + i) = 0) ∧ sb s (a + P) = 1 ∧ a + P + 1 ≤ 8 * s.size
  | 0, a, h => by
    have h1 : Has s a [true] := h
    rw [Has.cons] at h1
    exact ⟨fun i hi => by omega, h1.1, by have := h1.2.1; omega⟩
  | P + 1, a, h => by
    have e : bitsN (P + 1 + 1) 1 = false :: bitsN (P + 1) 1 := by
      have : 1 / 2 ^ (P + 1) = 0 := Nat.div_eq_of_lt (Nat.one_lt_two_pow (by omega))
      rw [bitsN, this]; rfl
    rw [e, Has.cons] at h
    obtain ⟨h1, h2, h3⟩ := lead_bits P (a + 1) h.2.2
    refine ⟨fun i hi => ?_, by rw [show a + (P + 1) = a + 1 + P by omega]; exact h2, by omega⟩
    cases i with
    | zero => exact h.1
    | succ i => rw [show a + (i + 1) = a + 1 + i by omega]; exact h1 i (by omega)
/-- What stands for a prefix: the first number, and how many bits follow. -/
def baseN (k P : Nat) : Nat := if P = 15 then escN k else if k > 0 then P * 2 ^ k else P
def sufN (k P : Nat) : Nat := if P = 15 then 12 else if k > 0 then k else if P = 14 then 4 else 0
theorem spl_back {k n : Nat} (hk : k ≤ 6) (hn : n ≤ mstN k) : sufN k (splN k n).1 = (splN k n).2.2 ∧ baseN k (splN k n).1 + (splN k n).2.1 = n := by
  obtain ⟨h1, h2, h3, h4⟩ := esc_le hk
  have d := Nat.div_add_mod n (2 ^ k)
  unfold splN sufN baseN
  by_cases a1 : n ≥ escN k
  · simp only [if_pos a1, if_true]
    exact ⟨trivial, by omega⟩
  · by_cases b2 : k > 0
    · have hlt : n / 2 ^ k < 15 := Nat.div_lt_of_lt_mul (by rw [Nat.mul_comm]; have := h4 b2; omega)
      simp only [if_neg a1, if_pos b2]
      rw [if_neg (by omega), if_neg (by omega)]
      exact ⟨rfl, by rw [Nat.mul_comm]; exact d⟩
    · have hk0 : k = 0 := by omega
      have e30 : escN k = 30 := by rw [hk0]; rfl
      by_cases a3 : n ≥ 14
      · simp only [if_neg a1, if_neg b2, if_pos a3]
        exact ⟨rfl, by simp; omega⟩
      · simp only [if_neg a1, if_neg b2, if_neg a3]
        rw [if_neg (by omega), if_neg (by omega), if_neg (by omega)]
        exact ⟨rfl, by omega⟩
theorem lv_back {sk : Nat} {v : Int} (h0 : v ≠ 0) (hs : sk ≤ 2) (h1 : sk = 0 ∨ v ≠ 1 ∧ v ≠ -1) : (lvN sk v + sk) / 2 + 1 = v.natAbs ∧ ((lvN sk v + sk) % 2 = if v < 0 then 1 else 0) ∨ sk = 1 := by
  by_cases hs1 : sk = 1
  · exact .inr hs1
  · left
    unfold lvN
    by_cases hn : v < 0
    · simp only [if_pos hn]; omega
    · simp only [if_neg hn]; omega
section
variable {B : CallF} (hB : Silent B) (k : Nat) {S : Heap} {c K left sk : Nat}
include hB
theorem read1_c' {pp cap P : Nat} (h : Cod S c K left sk) (hp : S.blk pp = some [.int .i64 (P : Int)]) (hc : S.blk cap = some [.ptr c 0]) (hK : K ≤ 6) (hP : P ≤ 15) :
    Cn B (k + 2) f_level_Coder_Read_1 0 [.ptr pp 0, .ptr cap 0] S = some (.tup [.int .i64 (baseN K P : Int), .int .i64 (sufN K P : Int)], S) := by
  rw [c_level_Coder_Read_1 _ _ _ _ _ (hB.no _ _ _ _ (kn_no (by decide))), T_level_Coder_Read_1]
  have e := esc_c hB k (S := S) hK
  unfold baseN sufN
  by_cases g1 : P = 15
  · have c1 : ((P : Int) == 15) = true := by simp; omega
    rw [if_pos g1, if_pos g1]
    simp only [zB, decide_true, decide_false, Bool.false_eq_true, if_false, if_true, List.getElem?_cons_zero, List.getElem?_cons_succ, beq_self_eq_true, bne_self_eq_false, Int.reduceBNe, Int.reduceBEq, Int.reduceLT, Int.reduceGT, Int.reduceLE, Int.reduceGE, Nat.reduceAdd, Nat.reduceMul, Nat.reduceLeDiff, hp, c1, hc, h.blk, e]; rfl
  · have c1 : ((P : Int) == 15) = false := by simp; omega
    rw [if_neg g1, if_neg g1]
    by_cases g2 : K > 0
    · have c2 : (K : Int) > 0 := by omega
      have := (esc_le hK).2.2.1
      have e2 := shlN P K (by omega) (by
        have h1 : P * 2 ^ K ≤ 15 * 64 := Nat.mul_le_mul hP this
        omega)
      rw [if_pos g2, if_pos g2]
      simp only [zB, decide_true, decide_false, Bool.false_eq_true, if_false, if_true, List.getElem?_cons_zero, List.getElem?_cons_succ, beq_self_eq_true, bne_self_eq_false, Int.reduceBNe, Int.reduceBEq, Int.reduceLT, Int.reduceGT, Int.reduceLE, Int.reduceGE, Nat.reduceAdd, Nat.reduceMul, Nat.reduceLeDiff, hp, c1, hc, h.blk, c2, aShl, e2]
    · have c2 : ¬ (K : Int) > 0 := by omega
      rw [if_neg g2, if_neg g2]
      by_cases g3 : P = 14
      · have c3 : ((P : Int) == 14) = true := by simp; omega
        rw [if_pos g3]
        simp only [zB, decide_true, decide_false, Bool.false_eq_true, if_false, if_true, List.getElem?_cons_zero, List.getElem?_cons_succ, beq_self_eq_true, bne_self_eq_false, Int.reduceBNe, Int.reduceBEq, Int.reduceLT, Int.reduceGT, Int.reduceLE, Int.reduceGE, Nat.reduceAdd, Nat.reduceMul, Nat.reduceLeDiff, hp, c1, hc, h.blk, c2, c3]; rfl
      · have c3 : ((P : Int) == 14) = false := by simp; omega
        rw [if_neg g3]
        simp only [zB, decide_true, decide_false, Bool.false_eq_true, if_false, if_true, List.getElem?_cons_zero, List.getElem?_cons_succ, beq_self_eq_true, bne_self_eq_false, Int.reduceBNe, Int.reduceBEq, Int.reduceLT, Int.reduceGT, Int.reduceLE, Int.reduceGE, Nat.reduceAdd, Nat.reduceMul, Nat.reduceLeDiff, hp, c1, hc, h.blk, c2, c3]; rfl
theorem lread_c {p : Nat} {s : ByteArray} {a : Nat} {b : List Bool} (h : Cod S c K (left + 1) sk) (hr : Rdr S p s a) (hcp : c ≠ p) (hK : K ≤ 6) (hl : left ≤ 1000) (hs : sk = 0 ∨ sk = 2) (v : Int) (hv : v.natAbs ≤ 1000000) (h0 : v ≠ 0) (h1 : sk = 0 ∨ v ≠ 1 ∧ v ≠ -1) (hn : lvC K sk v = some b) (hh : Has s a b) :
    ∃ S', Cn B (k + 4) f_level_Coder_Read 0 [.ptr c 0, .ptr p 0] S = some (.tup [.int .i64 v, .int .i64 0], S') ∧ Rdr S' p s (a + b.length) ∧ Cod S' c (aftN K v.natAbs) left 0 ∧ Fr S S' [p, c] := by
  rw [c_level_Coder_Read _ _ _ _ _ (hB.no _ _ _ _ (kn_no (by decide))), T_level_Coder_Read]
  unfold lvC at hn
  split at hn
  · cases hn
  rename_i hgt
  have hb' := (Option.some.inj hn).symm
  subst hb'
  have hle : lvN sk v ≤ mstN K := by omega
  obtain ⟨s1, s2, s3⟩ := spl_le hK hle
  obtain ⟨t1, t2⟩ := spl_back hK hle
  have hlv := lv_back (sk := sk) h0 (by omega) h1
  have hmst : mstN K ≤ 6000 := by have := (esc_le hK).1; unfold mstN; omega
  obtain ⟨N, hN⟩ : ∃ N, N = lvN sk v := ⟨_, rfl⟩
  rw [← hN] at s1 s2 s3 t1 t2 hlv hh hle ⊢
  obtain ⟨P, hP⟩ : ∃ P, P = (splN K N).1 := ⟨_, rfl⟩
  obtain ⟨F, hF⟩ : ∃ F, F = (splN K N).2.1 := ⟨_, rfl⟩
  obtain ⟨w, hw⟩ : ∃ w, w = (splN K N).2.2 := ⟨_, rfl⟩
  have hlen : (lvB K N).length = P + 1 + w := by simp only [lvB, List.length_append, bitsN_len, ← hP, ← hw]
  unfold lvB at hh
  rw [← hP] at s1 t1 t2 hh
  rw [← hF] at s3 t2 hh
  rw [← hw] at s2 s3 t1 hh
  rw [Has.app, bitsN_len] at hh
  obtain ⟨l1, l2, l3⟩ := lead_bits P a hh.1
  have hsf := hh.2.val
  rw [Nat.mod_eq_of_lt s3] at hsf
  have hsl := hh.2.le
  rw [bitsN_len] at hsl
  have hsz := hr.sz
  -- the boxes
  obtain ⟨S1, hS1⟩ : ∃ S1, S1 = S.alloc [.ptr c 0] := ⟨_, rfl⟩
  have f1 : Fr S S1 [] := by rw [hS1]; exact Fr.alloc _ _ _
  have b1 : S1.blk S.next = some [.ptr c 0] := by rw [hS1]; exact alloc_blk _ _
  have n1 : S1.next = S.next + 1 := by rw [hS1]; rfl
  have hc1 := h.fr f1 (by simp)
  have hr1 := hr.fr f1 (by simp)
  obtain ⟨S2, e2, r2, f2⟩ := rcopy_c hB (k + 2) hr1
  obtain ⟨x, hx⟩ : ∃ x, x = S1.next := ⟨_, rfl⟩
  rw [← hx] at e2 r2
  obtain ⟨y, hy⟩ : ∃ y, y = S2.next := ⟨_, rfl⟩
  obtain ⟨S3, hS3⟩ : ∃ S3, S3 = S2.alloc [.int .i64 0] := ⟨_, rfl⟩
  have b3 : S3.blk y = some [.int .i64 0] := by rw [hS3, hy]; exact alloc_blk _ _
  have n3 : S3.next = y + 1 := by rw [hS3, hy]; rfl
  have e3 := put1_0' (x := .int .i64 0) b3
  obtain ⟨S4, hS4⟩ : ∃ S4, S4 = S3.set y (some [.int .i64 0]) := ⟨_, rfl⟩
  rw [← hS4] at e3
  have b4 : S4.blk y = some [.int .i64 0] := by rw [hS4, set_blk]
  have n4 : S4.next = y + 1 := by rw [hS4]; exact n3
  have hxy : S2.next ≤ y := by omega
  have f24 : Fr S2 S4 [] := by rw [hS4, hS3]; exact (Fr.alloc S2 _ []).set (.inr hxy) _
  have cn0 : (((left + 1 : Nat) : Int) == 0) = false := by simp; omega
  have hca : cell (.ptr c 0) = true := rfl
  simp only [zB, decide_true, decide_false, Bool.false_eq_true, if_false, if_true, List.getElem?_cons_zero, List.getElem?_cons_succ, beq_self_eq_true, bne_self_eq_false, Int.reduceBNe, Int.reduceBEq, Int.reduceLT, Int.reduceGT, Int.reduceLE, Int.reduceGE, Nat.reduceAdd, Nat.reduceMul, Nat.reduceLeDiff, hca, ← hS1, b1, hc1.blk, cn0, e2, ← hy, ← hS3, e3]
  have hltx := r2.lt
  have hn12 := f2.1
  have hclt := h.lt
  have hplt := hr.lt
  refine loop_meas (fun o => ∃ S', o = some (AV.tup [.int .i64 v, .int .i64 0], S') ∧ Rdr S' p s (a + (lvB K N).length) ∧ Cod S' c (aftN K v.natAbs) left 0 ∧ Fr S S' [p, c]) (fun m st => ∃ (i : Nat) (T : Heap), i + m = P ∧ st = ([.ptr p 0, .ptr S.next 0, .ptr x 0, .ptr y 0], T) ∧ Rdr T x s (a + i) ∧ T.blk y = some [.int .i64 (i : Int)] ∧ Fr S2 T [x] ∧ y < T.next) P
    ⟨0, S4, by omega, rfl, r2.fr f24 (by simp), b4, f24.weak (fun j hj => by simp at hj), by omega⟩ ?_
  rintro m st ⟨i, T, him, rfl, hRx, hby, hFT, hyT⟩
  obtain ⟨T1, e4, hRx1, fT1⟩ := bit_ok hB (k) hRx (by omega)
  have hby1 : T1.blk y = some [.int .i64 (i : Int)] := (fT1.get hyT (by simp; omega)).trans hby
  have hyT1 : y < T1.next := Nat.lt_of_lt_of_le hyT fT1.1
  have hFT1 : Fr S2 T1 [x] := hFT.trans fT1 (fun j hj => .inl hj)
  cases m with
  | succ m =>
    have hb0 := l1 i (by omega)
    rw [hb0] at e4
    have w1 : IntKind.wrap .i64 ((i : Int) + 1) = ((i + 1 : Nat) : Int) := by rw [wr _ (by omega)]; omega
    have e5 := put1_0' (x := .int .i64 ((i + 1 : Nat) : Int)) hby1
    have c1 : ¬ (((i + 1 : Nat) : Int) > 15) := by omega
    have z1 : (((0 : Nat) : Int) == 1) = false := rfl
    refine .inr ⟨m, ([.ptr p 0, .ptr S.next 0, .ptr x 0, .ptr y 0], T1.set y (some [.int .i64 ((i + 1 : Nat) : Int)])), by omega, by simp only [zB, decide_true, decide_false, Bool.false_eq_true, if_false, if_true, List.getElem?_cons_zero, List.getElem?_cons_succ, beq_self_eq_true, bne_self_eq_false, Int.reduceBNe, Int.reduceBEq, Int.reduceLT, Int.reduceGT, Int.reduceLE, Int.reduceGE, Nat.reduceAdd, Nat.reduceMul, Nat.reduceLeDiff, e4, z1, hby1, w1, e5, set_blk, c1], i + 1, _, by omega, rfl, ?_, set_blk _ _ _, hFT1.set (.inr (by omega)) _, hyT1⟩
    exact (hRx1.fr ((Fr.refl T1 [y]).set (.inl (by simp)) _) (by simp; omega))
  | zero =>
    have hiP : i = P := by omega
    subst hiP
    rw [l2] at e4
    have z1 : (((1 : Nat) : Int) == 1) = true := rfl
    refine .inl ⟨(0, [.ptr p 0, .ptr S.next 0, .ptr x 0, .ptr y 0], T1), by simp only [zB, decide_true, decide_false, Bool.false_eq_true, if_false, if_true, List.getElem?_cons_zero, List.getElem?_cons_succ, beq_self_eq_true, bne_self_eq_false, Int.reduceBNe, Int.reduceBEq, Int.reduceLT, Int.reduceGT, Int.reduceLE, Int.reduceGE, Nat.reduceAdd, Nat.reduceMul, Nat.reduceLeDiff, e4, z1], ?_⟩
    have hS2c : Cod S2 c K (left + 1) sk := hc1.fr f2 (by simp)
    have hTc : Cod T1 c K (left + 1) sk := hS2c.fr hFT1 (by simp; omega)
    have hS2b : S2.blk S.next = some [.ptr c 0] := (f2.get (by omega) (by simp)).trans b1
    have hTb : T1.blk S.next = some [.ptr c 0] := (hFT1.get (by omega) (by simp; omega)).trans hS2b
    have e5 := read1_c' hB (k + 1) hTc hby1 hTb hK s1
    rw [t1] at e5
    obtain ⟨T2, e6, hRx2, fT2⟩ := u_ok hB (k + 1) hRx1 w (by omega) (by omega)
    rw [show a + i + 1 = a + (i + 1) by omega, hsf] at e6
    have hTc2 : Cod T2 c K (left + 1) sk := hTc.fr fT2 (by simp; omega)
    have hTb2 : T2.blk S.next = some [.ptr c 0] := (fT2.get (by have := hFT1.1; omega) (by simp; omega)).trans hTb
    have hby2 : T2.blk y = some [.int .i64 (i : Int)] := (fT2.get hyT1 (by simp; omega)).trans hby1
    have s4 : F < 4611686018427387904 := by
      have : 2 ^ w ≤ 2 ^ 12 := Nat.pow_le_pow_right (by omega) s2
      omega
    have w1 : IntKind.wrap .i64 (F : Int) = (F : Int) := wr _ (by omega)
    have w2 : IntKind.wrap .i64 ((baseN K i : Int) + (F : Int)) = (N : Int) := by rw [wr _ (by omega)]; omega
    have w3 : IntKind.wrap .i64 ((N : Int) + (sk : Int)) = ((N + sk : Nat) : Int) := by rw [wr _ (by omega)]; omega
    have hFS : Fr S T2 [] := ((f1.trans f2 (fun j hj => by simp at hj)).trans hFT1 (fun j hj => .inr (by simp at hj; omega))).trans fT2 (fun j hj => .inr (by simp at hj; omega))
    have hR2 : Rdr T2 p s a := hr.fr hFS (by simp)
    obtain ⟨T3, e7, hR3, fT3⟩ := u_ok hB (k + 1) hR2 (i + 1 + w) (by omega) (by omega)
    have hTc3 : Cod T3 c K (left + 1) sk := hTc2.fr fT3 (by simp; exact hcp)
    have hTb3 : T3.blk S.next = some [.ptr c 0] := (fT3.get (by have := hFS.1; have := hFT1.1; have := fT2.1; omega) (by simp; omega)).trans hTb2
    obtain ⟨T4, e8, hC4, fT4, n4'⟩ := next_c hB (k + 1) hTc3 hK hl v hv
    have w4 : IntKind.wrap .i64 (IntKind.wrap .i64 ((i : Int) + 1) + (w : Int)) = ((i + 1 + w : Nat) : Int) := by rw [wr ((i : Int) + 1) (by omega), wr _ (by omega)]; omega
    have w5 : IntKind.wrap .i64 (Int.tdiv ((N + sk : Nat) : Int) 2) = (((N + sk) / 2 : Nat) : Int) := by rw [tdiv2, wr _ (by omega)]
    have w6 : IntKind.wrap .i64 ((((N + sk) / 2 : Nat) : Int) + 1) = (((N + sk) / 2 + 1 : Nat) : Int) := by rw [wr _ (by omega)]; omega
    have hfin : Rdr T4 p s (a + (lvB K N).length) ∧ Cod T4 c (aftN K v.natAbs) left 0 ∧ Fr S T4 [p, c] := by
      rw [hlen]
      exact ⟨hR3.fr fT4 (by simp; exact Ne.symm hcp), hC4, ((hFS.weak (l' := [p, c]) (fun j hj => by simp at hj)).trans fT3 (fun j hj => .inl (by simp at hj ⊢; simp [hj]))).trans fT4 (fun j hj => .inl (by simp at hj ⊢; simp [hj]))⟩
    refine ⟨T4, ?_, hfin⟩
    rcases hlv with ⟨q1, q2⟩ | q
    · by_cases hneg : v < 0
      · rw [if_pos hneg] at q2
        have c2 : (Int.tmod ((N + sk : Nat) : Int) 2 == 1) = true := by rw [tmod2, q2]; rfl
        have w7 : IntKind.wrap .i64 (0 - (((N + sk) / 2 + 1 : Nat) : Int)) = v := by rw [wr _ (by omega)]; omega
        simp only [zB, decide_true, decide_false, Bool.false_eq_true, if_false, if_true, List.getElem?_cons_zero, List.getElem?_cons_succ, beq_self_eq_true, bne_self_eq_false, Int.reduceBNe, Int.reduceBEq, Int.reduceLT, Int.reduceGT, Int.reduceLE, Int.reduceGE, Nat.reduceAdd, Nat.reduceMul, Nat.reduceLeDiff, sel_0', e5, e6, w1, w2, hTb2, hTc2.blk, w3, c2, w5, w6, w7, hby2, w4, e7, hTb3, e8]
      · rw [if_neg hneg] at q2
        have c2 : (Int.tmod ((N + sk : Nat) : Int) 2 == 1) = false := by rw [tmod2, q2]; rfl
        have w7 : (((N + sk) / 2 + 1 : Nat) : Int) = v := by omega
        rw [w7] at w6
        simp only [zB, decide_true, decide_false, Bool.false_eq_true, if_false, if_true, List.getElem?_cons_zero, List.getElem?_cons_succ, beq_self_eq_true, bne_self_eq_false, Int.reduceBNe, Int.reduceBEq, Int.reduceLT, Int.reduceGT, Int.reduceLE, Int.reduceGE, Nat.reduceAdd, Nat.reduceMul, Nat.reduceLeDiff, sel_0', e5, e6, w1, w2, hTb2, hTc2.blk, w3, c2, w5, w6, hby2, w4, e7, hTb3, e8]
    · omega
end
end Go.Ab.tV
