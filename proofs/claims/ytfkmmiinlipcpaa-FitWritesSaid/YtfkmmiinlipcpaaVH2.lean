/- The statement FitWrites. -/
import Derived.Test.YtfkmmiinlipcpaaVF3
import Derived.Test.YtfkmmiinlipcpaaVG4
set_option maxRecDepth 100000
set_option linter.unusedSimpArgs false
set_option linter.unusedVariables false
set_option linter.unusedSectionVars false
namespace Go.Ab.tV
open Go Go.Proofs

theorem IK.len32 {a : AV} {l : List Int} (h : IK .i32 a l) : aLen Try.prog 81 a = some (.int .i64 (l.length : Int)) := by
  rcases h with ⟨rfl, rfl⟩ | rfl
  · exact len_nils81
  · exact len_is81 _ _
theorem arg_i32s {a : AV} (h : argOk Try.prog maxLen 16 81 a) : ∃ l : List Int, IK .i32 a l ∧ ∀ v ∈ l, -2147483648 ≤ v ∧ v ≤ 2147483647 := by
  unfold argOk at h
  have hu : Try.prog.underlying 81 = some (.slice 21) := by kernel_rfl
  have hc : Try.prog.cellsOf 21 = 1 := by kernel_rfl
  rw [hu] at h
  simp only at h
  unfold avOk at h
  rw [hu] at h
  simp only [hc] at h
  rcases h with h | ⟨n, cs, h, h1, h2, h3⟩
  · exact ⟨[], .inl ⟨by simpa using h, rfl⟩, by simp⟩
  · obtain ⟨l, e1, e2, e3⟩ := chunks_of (w := 1) (enc := fun m : Int => [AV.int .i32 m]) (Q := fun m => -2147483648 ≤ m ∧ m ≤ 2147483647) (fun xs hl => by
      unfold avOk at hl
      rw [show Try.prog.underlying 21 = some (.int .i32) by kernel_rfl] at hl
      simp only at hl
      obtain ⟨m, h1, h2⟩ := hl
      exact ⟨m, h1, by simpa [Lit.wf, IntKind.min, IntKind.max, IntKind.signed, IntKind.bits] using h2⟩) n cs h2 h3
    subst e1 e2
    rw [flat_k] at h
    exact ⟨l, .inr (by simpa using h), e3⟩
def clmp (v : Int) : Int := if (if v < 32768 then v else 32768) > -32768 then (if v < 32768 then v else 32768) else -32768
theorem clmp_in (v : Int) : -32768 ≤ clmp v ∧ clmp v ≤ 32768 := by unfold clmp; split <;> split <;> omega
theorem fitWrites_law' {a : AV} {l : List Int} (ha : IK .i32 a l) (hr : ∀ v ∈ l, -2147483648 ≤ v ∧ v ≤ 2147483647) (x y : Int) (hx : 0 ≤ x ∧ x ≤ 255) (hy : 0 ≤ y ∧ y ≤ 255) :
    ∃ S', Cn Bk 11 f_spindlelaw34_FitWrites 0 [a, .int .u8 x, .int .u8 y] S0 = some (.bool true, S') := by
  have hB := Bk_silent
  rw [c_spindlelaw34_FitWrites _ _ _ _ _ _ (hB.no _ _ _ _ (kn_no (by decide))), T_spindlelaw34_FitWrites]
  obtain ⟨n, t, cs, o, x1, x2, x3, hn⟩ := tab3 hx.1
  obtain ⟨k1, k2, k3, k4⟩ := mk1 (n := n) (by omega)
  have hy0 := Int.tmod_nonneg (a := y) 4 hy.1
  have hy1 := Int.tmod_lt_of_pos y (show (0 : Int) < 4 by omega)
  have wy : IntKind.wrap .i64 (Int.tmod y 4) = Int.tmod y 4 := wr _ (by omega)
  obtain ⟨cls, hcl, hc⟩ : ∃ cls : Int, (if ((n : Int) == 4) = true then some ([a, .int .i64 (n : Int), .int .i64 4], S0) else some ([a, .int .i64 (n : Int), .int .i64 (IntKind.wrap .i64 (Int.tmod y 4))], S0)) = some ([a, .int .i64 (n : Int), .int .i64 cls], S0) ∧ (0 ≤ cls ∧ cls ≤ 4) := by
    by_cases h4 : n = 4
    · exact ⟨4, by rw [if_pos (by simp; omega)], by omega, by omega⟩
    · exact ⟨Int.tmod y 4, by rw [if_neg (by simp; omega), wy], by omega, by omega⟩
  obtain ⟨d, hd⟩ : ∃ d, d = S0.next := ⟨_, rfl⟩
  simp only [zB, decide_true, decide_false, Bool.false_eq_true, if_false, if_true, List.getElem?_cons_zero, List.getElem?_cons_succ, beq_self_eq_true, bne_self_eq_false, Int.reduceBNe, Int.reduceBEq, Int.reduceLT, Int.reduceGT, Int.reduceLE, Int.reduceGE, Nat.reduceAdd, Nat.reduceMul, Nat.reduceLeDiff, x1, x2, x3, hcl, k1, k2, k3, k4, Int.toNat_natCast, ints_rep, ← hd]
  obtain ⟨N, hN⟩ : ∃ N, N = min n l.length := ⟨_, rfl⟩
  have f0 : padZ clmp l n 0 = List.replicate n 0 := by simp [padZ]
  refine loop_meas (fun o => ∃ S', o = some (AV.bool true, S')) (fun m st => ∃ (i : Nat) (T : Heap), i + m = N ∧ st = ([a, .int .i64 (n : Int), .int .i64 cls, .hs d 0 n 1, .int .i64 (i : Int)], T) ∧ T.blk d = some (ints (padZ clmp l n i)) ∧ d < T.next) N
    ⟨0, _, by omega, rfl, by rw [f0, hd]; exact alloc_blk _ _, by rw [hd]; exact Nat.lt_succ_self _⟩ ?_
  rintro m st ⟨i, T, him, rfl, hb, hdT⟩
  cases m with
  | succ m =>
    have hi : i < l.length := by omega
    have c1 : (i : Int) < (n : Int) := by omega
    have c2 : (i : Int) < (l.length : Int) := by omega
    obtain ⟨t', cs', o', y1, y2, y3⟩ := ha.at (S := T) hi
    have hv := hr _ (List.getElem_mem hi)
    have w1 : IntKind.wrap .i64 l[i] = l[i] := wr _ (by omega)
    have w2 : IntKind.wrap .i64 ((i : Int) + 1) = ((i + 1 : Nat) : Int) := by rw [wr _ (by omega)]; omega
    have e1 := idxI d n (i := i) (by omega)
    have e2 := putI (clmp l[i]) hb (i := i) (by rw [padZ_len (by omega) (by omega)]; omega)
    have e3 : (padZ clmp l n i).set i (clmp l[i]) = padZ clmp l n (i + 1) := padZ_set (f := clmp) (by omega) hi
    rw [e3] at e2
    unfold clmp at e2
    exact .inr ⟨m, ([a, .int .i64 (n : Int), .int .i64 cls, .hs d 0 n 1, .int .i64 ((i + 1 : Nat) : Int)], T.set d (some (ints (padZ clmp l n (i + 1))))), by omega, by unfold clmp; simp only [zB, decide_true, decide_false, Bool.false_eq_true, if_false, if_true, List.getElem?_cons_zero, List.getElem?_cons_succ, beq_self_eq_true, bne_self_eq_false, Int.reduceBNe, Int.reduceBEq, Int.reduceLT, Int.reduceGT, Int.reduceLE, Int.reduceGE, Nat.reduceAdd, Nat.reduceMul, Nat.reduceLeDiff, c1, ha.len32, c2, y1, y2, y3, w1, e1, e2, w2], i + 1, _, by omega, rfl, set_blk _ _ _, hdT⟩
  | zero =>
    refine .inl ⟨(0, [.int .i64 (n : Int), .int .i64 cls, .hs d 0 n 1], T), ?_, ?_⟩
    · by_cases h16 : (i : Int) < (n : Int)
      · have c2 : ¬ (i : Int) < (l.length : Int) := by omega
        simp only [zB, decide_true, decide_false, Bool.false_eq_true, if_false, if_true, List.getElem?_cons_zero, List.getElem?_cons_succ, beq_self_eq_true, bne_self_eq_false, Int.reduceBNe, Int.reduceBEq, Int.reduceLT, Int.reduceGT, Int.reduceLE, Int.reduceGE, Nat.reduceAdd, Nat.reduceMul, Nat.reduceLeDiff, h16, ha.len32, c2]
      · simp only [zB, decide_true, decide_false, Bool.false_eq_true, if_false, if_true, List.getElem?_cons_zero, List.getElem?_cons_succ, beq_self_eq_true, bne_self_eq_false, Int.reduceBNe, Int.reduceBEq, Int.reduceLT, Int.reduceGT, Int.reduceLE, Int.reduceGE, Nat.reduceAdd, Nat.reduceMul, Nat.reduceLeDiff, h16]
    obtain ⟨C, hC⟩ : ∃ C, C = padZ clmp l n i := ⟨_, rfl⟩
    rw [← hC] at hb
    have hCn : C.length = n := by rw [hC]; exact padZ_len (by omega) (by omega)
    have hBC : Blk C := ⟨by rw [hCn]; exact sz_n hn, rngd_of (by rw [hC]; exact padZ_mem (P := fun v => -32768 ≤ v ∧ v ≤ 32768) ⟨by omega, by omega⟩ (fun v _ => clmp_in v))⟩
    have e5 : ∀ S, Cn Bk 10 f_spindlelaw34_awake 0 [] S = some (.bool true, S) := fun S => chk_c hB awake34_chk _ _
    obtain ⟨T1, e1, w1, f1⟩ := write_c hB 9 (S := T)
    obtain ⟨p, hp⟩ : ∃ p, p = T.next := ⟨_, rfl⟩
    rw [← hp] at e1 w1
    have hil : IL T (.hs d 0 n 1) C d := .inr (.inr ⟨by rw [hCn], hb, hdT⟩)
    have hil1 := hil.fr f1 (by simp)
    obtain ⟨T2, q, e2, p2⟩ := vput_c hB 3 w1 (by simp) cls hil1 ⟨by omega, by omega⟩ (by omega)
    rw [List.nil_append] at p2
    have hil2 : IL T2 (.hs d 0 n 1) C d := hil1.fr p2.2.1 (by simp; omega)
    have hd2 : d < T2.next := by have := f1.1; have := p2.2.1.1; omega
    obtain ⟨T3, e3, f3⟩ : ∃ S', Cn Bk 10 f_fit_Block 0 [.hs d 0 n 1] T2 = some (.bool ((putR 0 C).1 == 0), S') ∧ Fr T2 S' [] := by
      rw [c_fit_Block _ _ _ _ (hB.no _ _ _ _ (kn_no (by decide))), T_fit_Block]
      obtain ⟨S1, e1, f1⟩ := vfits_c hB 1 hil2 (.inl hd2) (by omega)
      exact ⟨S1, by simp only [zB, decide_true, decide_false, Bool.false_eq_true, if_false, if_true, List.getElem?_cons_zero, List.getElem?_cons_succ, beq_self_eq_true, bne_self_eq_false, Int.reduceBNe, Int.reduceBEq, Int.reduceLT, Int.reduceGT, Int.reduceLE, Int.reduceGE, Nat.reduceAdd, Nat.reduceMul, Nat.reduceLeDiff, e1], f1⟩
    have herr := putR_err hBC hc
    have herr0 := putR_err hBC (cls := 0) ⟨by omega, by omega⟩
    cases hlv : lvOf C with
    | none =>
      rw [hlv] at herr herr0
      simp only at herr herr0
      rw [herr] at e2
      rw [herr0] at e3
      have z1 : ((12 : Int) == 0) = false := rfl
      have z2 : ((12 : Int) != 0) = true := rfl
      have z3 : ((12 : Int) == 12) = true := rfl
      exact ⟨T3, by simp only [zB, decide_true, decide_false, Bool.false_eq_true, if_false, if_true, List.getElem?_cons_zero, List.getElem?_cons_succ, beq_self_eq_true, bne_self_eq_false, Int.reduceBNe, Int.reduceBEq, Int.reduceLT, Int.reduceGT, Int.reduceLE, Int.reduceGE, Nat.reduceAdd, Nat.reduceMul, Nat.reduceLeDiff, sel_0, e1, e2, e3, z1, z2, z3, e5]⟩
    | some lb =>
      rw [hlv] at herr herr0
      simp only at herr herr0
      rw [herr] at e2
      rw [herr0] at e3
      have hcode := putR_some hBC hc herr
      have hpl := putR_len cls C
      obtain ⟨P, hP⟩ : ∃ P, P = (putR cls C).2 := ⟨_, rfl⟩
      rw [← hP] at p2 hcode hpl
      have w3 := p2.1.fr f3 (by simp) (by simp)
      obtain ⟨W, part, m2, hX, hbs⟩ := id w3
      have hblen := congrArg List.length hbs
      rw [bitsW_len] at hblen
      have hn8 := hX.n8
      have e6 := wbytes_c hB 9 hX (by omega)
      have hpd : (pad W part m2).length ≤ W.length + 1 := by unfold pad; split <;> simp
      obtain ⟨s2, hs2⟩ : ∃ s2, s2 = strB (pad W part m2) := ⟨_, rfl⟩
      rw [← hs2] at e6
      have hsz : s2.size = (pad W part m2).length := by rw [hs2, strB_size]
      have hH : Has s2 0 P := by
        rw [hbs]
        refine has_pad hX.b8 hX.n8 hX.pt (fun j hj => ?_) (by omega)
        rw [hs2, strB_get, List.getElem?_eq_getElem hj]; rfl
      obtain ⟨T4, e8, r8, f8, n8⟩ := read_c hB 9 (S := T3) s2 (by omega)
      obtain ⟨r, hr'⟩ : ∃ r, r = T3.next := ⟨_, rfl⟩
      rw [← hr'] at e8 r8
      obtain ⟨T5, e9, r9, f9⟩ := vread_c hB 0 r8 hc hBC hcode hH
      rw [hCn] at e9
      have hil3 : IL T5 (.hs d 0 n 1) C d := ((hil2.fr f3 (by simp)).fr f8 (by simp)).fr f9 (by simp; have := f3.1; omega)
      have e10 := equalInts_c hB 9 (isl_il T5 C 0) hil3 (by omega)
      rw [decide_eq_true (rfl : C = C)] at e10
      have q00 : ((0 : Int) == 0) = true := rfl
      have z0 : ((0 : Int) != 0) = false := rfl
      exact ⟨T5, by simp only [zB, decide_true, decide_false, Bool.false_eq_true, if_false, if_true, List.getElem?_cons_zero, List.getElem?_cons_succ, beq_self_eq_true, bne_self_eq_false, Int.reduceBNe, Int.reduceBEq, Int.reduceLT, Int.reduceGT, Int.reduceLE, Int.reduceGE, Nat.reduceAdd, Nat.reduceMul, Nat.reduceLeDiff, sel_0, e1, e2, e3, q00, z0, e6, e8, e9, e10, e5]⟩
theorem fitWrites_law (xs : List AV) (h : argsOk Try.prog maxLen 16 Try.f14.params.toList xs) : ∃ (C : CallF) (S' : Heap), NOk Try.prog (fun _ => none) C ∧ C 14 0 xs S0 = some (.bool true, S') := by
  rw [Try.params14] at h
  obtain ⟨a, r, rfl, h1, b, r2, rfl, h2, c, r3, rfl, h3, rfl⟩ := h
  obtain ⟨l, hl, hr⟩ := arg_i32s h1
  obtain ⟨x, rfl, hx⟩ := arg5 h2
  obtain ⟨y, rfl, hy⟩ := arg5 h3
  obtain ⟨S', hS⟩ := fitWrites_law' hl hr x y hx hy
  exact ⟨Cn Bk 11, S', Cn_ok 11, hS⟩
end Go.Ab.tV
