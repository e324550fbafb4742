/- The statement VblockBack. -/
import Derived.Test.YtfkmmiinlipcpaaVF3
import Derived.Test.YtfkmmiinlipcpaaVG4
set_option maxRecDepth 100000
set_option linter.unusedSimpArgs false
set_option linter.unusedVariables false
set_option linter.unusedSectionVars false
namespace Go.Ab.tV
open Go Go.Proofs

theorem back20_law {x : Int} (hx : 0 ≤ x) (c : Int) {a : AV} {l : List Int} (hl : ∀ S d, IL S a l d) (s : ByteArray) : ∃ S', Cn Bk 11 f_spindlelaw20_VblockBack 0 [.int .u8 x, .int .i64 c, a, .str s] S0 = some (.bool true, S') := by
  have hB := Bk_silent
  rw [c_spindlelaw20_VblockBack _ _ _ _ _ _ _ (hB.no _ _ _ _ (kn_no (by decide))), T_spindlelaw20_VblockBack]
  have h1 := (hl S0 0).len
  have e0 : ∀ S, Cn Bk 10 f_spindlelaw20_known 0 [] S = some (.bool true, S) := fun S => chk_c hB known20_chk _ _
  by_cases g : (l.length : Int) > 20
  · exact ⟨S0, by simp only [zB, decide_true, decide_false, Bool.false_eq_true, if_false, if_true, List.getElem?_cons_zero, List.getElem?_cons_succ, beq_self_eq_true, bne_self_eq_false, Int.reduceBNe, Int.reduceBEq, Int.reduceLT, Int.reduceGT, Int.reduceLE, Int.reduceGE, Nat.reduceAdd, Nat.reduceMul, Nat.reduceLeDiff, h1, g, e0]⟩
  by_cases g2 : (s.size : Int) > 100
  · exact ⟨S0, by simp only [zB, decide_true, decide_false, Bool.false_eq_true, if_false, if_true, List.getElem?_cons_zero, List.getElem?_cons_succ, beq_self_eq_true, bne_self_eq_false, Int.reduceBNe, Int.reduceBEq, Int.reduceLT, Int.reduceGT, Int.reduceLE, Int.reduceGE, Nat.reduceAdd, Nat.reduceMul, Nat.reduceLeDiff, h1, g, g2, e0]⟩
  obtain ⟨S1, e1, f1⟩ := fit20_c hB 8 (S := S0) hx hl
  have e2 := mod20_c hB 9 (S := S1) c 5 (by omega)
  have hc := mod5 c
  obtain ⟨K, hK⟩ : ∃ K, K = modI c 5 := ⟨_, rfl⟩
  rw [← hK] at e2 hc
  have hbC := blkO_blk x l
  have hfC := fits_ok hbC (blkO_abs x l) hc
  have hf0 := fits_ok hbC (blkO_abs x l) (cls := 0) ⟨by omega, by omega⟩
  obtain ⟨C, hC⟩ : ∃ C, C = blkO x l := ⟨_, rfl⟩
  rw [← hC] at hbC hfC hf0 e1
  have hcl := hbC.len
  obtain ⟨S2, e3, w3, f3⟩ := write_c hB 9 (S := S1)
  obtain ⟨p, hp⟩ : ∃ p, p = S1.next := ⟨_, rfl⟩
  rw [← hp] at e3 w3
  obtain ⟨S3, e4, f4⟩ := vfits_c hB 2 (isl_il S2 C 0) (.inr fun S => isl_il S C 0) (by omega)
  rw [hf0] at e4
  have w4 := w3.fr f4 (by simp) (by simp)
  have hpl := putR_len K C
  obtain ⟨S4, q, e5, p5⟩ := vput_c hB 3 w4 (by simp) K (isl_il S3 C (p + p + 1)) ⟨by omega, by omega⟩ (by omega)
  rw [hfC] at e5
  have hcode := putR_some hbC hc hfC
  obtain ⟨P, hP⟩ : ∃ P, P = (putR K C).2 := ⟨_, rfl⟩
  rw [← hP] at p5 hcode hpl
  rw [List.nil_append] at p5
  obtain ⟨W, part, n, hX, hbs⟩ := id p5.1
  have hblen := congrArg List.length hbs
  rw [bitsW_len] at hblen
  have hn8 := hX.n8
  have e6 := wbytes_c hB 9 hX (by omega)
  have hpd : (pad W part n).length ≤ W.length + 1 := by unfold pad; split <;> simp
  have e7 : aStr .add (strB (pad W part n)) s = some (.str (strB (pad W part n) ++ s)) := by
    unfold aStr
    rw [if_neg]
    rw [strB_size]
    simp only [IntKind.max, IntKind.signed, IntKind.bits]
    simp; omega
  obtain ⟨s2, hs2⟩ : ∃ s2, s2 = strB (pad W part n) ++ s := ⟨_, rfl⟩
  rw [← hs2] at e7
  have hsz : s2.size = (pad W part n).length + s.size := by rw [hs2, ByteArray.size_append, strB_size]
  have hH : Has s2 0 P := by
    rw [hbs]
    refine has_pad hX.b8 hX.n8 hX.pt (fun j hj => ?_) (by omega)
    rw [hs2, ByteArray.data_append, Array.getElem?_append_left (by show j < (strB (pad W part n)).size; rw [strB_size]; exact hj), strB_get, List.getElem?_eq_getElem hj]; rfl
  obtain ⟨S5, e8, r8, f8, n8⟩ := read_c hB 9 (S := S4) s2 (by omega)
  obtain ⟨r, hr⟩ : ∃ r, r = S4.next := ⟨_, rfl⟩
  rw [← hr] at e8 r8
  have hlt := p5.1.lt
  have hlc := (isl_il S5 C 0).len
  obtain ⟨S6, e9, r9, f9⟩ := vread_c hB 0 r8 hc hbC hcode hH
  have e10 := equalInts_c hB 9 (isl_il S6 C 0) (isl_il S6 C 0) (by omega)
  rw [decide_eq_true (rfl : C = C)] at e10
  have e11 := pos_c hB 9 r9
  have w6 := (p5.1.fr f8 (by simp) (by simp)).fr f9 (by simp; omega) (by simp; omega)
  have e12 := wlen_c hB 9 w6 (by omega)
  rw [Nat.zero_add] at e11
  have q00 : ((0 : Int) == 0) = true := rfl
  have z0 : ((0 : Int) != 0) = false := rfl
  exact ⟨S6, by simp only [zB, decide_true, decide_false, Bool.false_eq_true, if_false, if_true, List.getElem?_cons_zero, List.getElem?_cons_succ, beq_self_eq_true, bne_self_eq_false, Int.reduceBNe, Int.reduceBEq, Int.reduceLT, Int.reduceGT, Int.reduceLE, Int.reduceGE, Nat.reduceAdd, Nat.reduceMul, Nat.reduceLeDiff, h1, g, g2, e1, e2, e3, e4, q00, e5, z0, e6, e7, e8, hlc, e9, e10, e11, e12, e0]⟩
theorem vblockBack_law (xs : List AV) (h : argsOk Try.prog maxLen 16 Try.f19.params.toList xs) : ∃ (C : CallF) (S' : Heap), NOk Try.prog (fun _ => none) C ∧ C 19 0 xs S0 = some (.bool true, S') := by
  rw [Try.params19] at h
  obtain ⟨a, r, rfl, h1, b, r2, rfl, h2, c, r3, rfl, h3, d, r4, rfl, h4, rfl⟩ := h
  obtain ⟨x, rfl, hx⟩ := arg5 h1
  obtain ⟨n, rfl, _⟩ := arg3 h2
  obtain ⟨l, hl⟩ := arg_ints h3
  obtain ⟨s, rfl, _⟩ := arg9 h4
  obtain ⟨S', hS⟩ := back20_law hx.1 n hl s
  exact ⟨Cn Bk 11, S', Cn_ok 11, hS⟩
end Go.Ab.tV
