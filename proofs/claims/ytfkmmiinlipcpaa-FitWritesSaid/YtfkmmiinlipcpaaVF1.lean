/- The statements FitZeros and FitBounds. -/
import Derived.Test.YtfkmmiinlipcpaaVE9
set_option maxRecDepth 100000
set_option linter.unusedSimpArgs false
set_option linter.unusedVariables false
set_option linter.unusedSectionVars false
namespace Go.Ab.tV
open Go Go.Proofs

theorem rst_filter : ∀ l : List Int, (rst l).1 = (l.filter fun v => decide (v ≠ 0)).reverse
  | [] => rfl
  | v :: l => by
    have ih := rst_filter l
    by_cases h0 : v = 0
    · simp only [rst, if_pos h0, ih]
      rw [List.filter_cons_of_neg (by simp [h0])]
    · rw [List.filter_cons_of_pos (by simp [h0]), List.reverse_cons, ← ih]
      by_cases h1 : (rst l).1 = []
      · have e : rst (v :: l) = ([v], [], 0) := by simp only [rst, if_neg h0, if_pos h1]
        rw [e, h1]; rfl
      · simp only [rst, if_neg h0, if_neg h1]
def lvOf (l : List Int) : Option (List Bool) := lvsP (k0N (rst l).1.length (onesN (rst l).1)) (s0N (onesN (rst l).1)) ((rst l).1.drop (onesN (rst l).1))
theorem putR_err {l : List Int} (h : Blk l) {cls : Int} (hc : 0 ≤ cls ∧ cls ≤ 4) : (putR cls l).1 = match lvOf l with | none => 12 | some _ => 0 := by
  unfold putR
  rw [if_neg (by rw [h.sz, h.rg]; simp; omega)]
  unfold blkC lvOf
  by_cases h0 : (rst l).1 = []
  · rw [if_pos h0, h0]; rfl
  · rw [if_neg h0]
    cases lvsP (k0N (rst l).1.length (onesN (rst l).1)) (s0N (onesN (rst l).1)) ((rst l).1.drop (onesN (rst l).1)) <;> rfl
theorem putR_same {l m : List Int} (h : Blk l) (h2 : Blk m) (he : (rst l).1 = (rst m).1) {cls cls2 : Int} (hc : 0 ≤ cls ∧ cls ≤ 4) (hc2 : 0 ≤ cls2 ∧ cls2 ≤ 4) : (putR cls l).1 = (putR cls2 m).1 := by
  rw [putR_err h hc, putR_err h2 hc2]; unfold lvOf; rw [he]
theorem lvsP_ok : ∀ (L : List Int) (k s : Nat), k ≤ 6 → (∀ v ∈ L, v.natAbs ≤ 2063) → ∃ b, lvsP k s L = some b
  | [], k, s, hk, h => ⟨[], rfl⟩
  | v :: L, k, s, hk, h => by
    have h1 := h v List.mem_cons_self
    have hm : lvN s v ≤ mstN k := by
      have := (esc_le hk).2.1
      unfold lvN mstN; split <;> omega
    have e : lvC k s v = some (lvB k (lvN s v)) := by unfold lvC; rw [if_neg (by omega)]
    obtain ⟨b, hb⟩ := lvsP_ok L (aftN k v.natAbs) 0 (aft_le hk _).1 (fun w hw => h w (List.mem_cons_of_mem _ hw))
    exact ⟨lvB k (lvN s v) ++ b, by simp only [lvsP, e, hb, Option.map_some]⟩
theorem lvsP_bad : ∀ (L : List Int) (k s : Nat), k ≤ 6 → s ≤ 2 → (∃ v ∈ L, 2601 ≤ v.natAbs) → lvsP k s L = none
  | [], k, s, hk, hs, h => by obtain ⟨v, hv, _⟩ := h; simp at hv
  | v :: L, k, s, hk, hs, h => by
    cases hb : lvC k s v with
    | none => simp only [lvsP, hb]
    | some b =>
      have hlt : v.natAbs < 2601 := by
        unfold lvC at hb
        split at hb
        · cases hb
        · rename_i h1
          have := (esc_le hk).1
          unfold lvN mstN at h1
          split at h1 <;> omega
      obtain ⟨w, hw, hw2⟩ := h
      have hw3 : w ∈ L := by
        rcases List.mem_cons.1 hw with rfl | h
        · omega
        · exact h
      have := lvsP_bad L (aftN k v.natAbs) 0 (aft_le hk _).1 (by omega) ⟨w, hw3, hw2⟩
      simp only [lvsP, hb, this, Option.map_none]
theorem fits_ok {l : List Int} (h : Blk l) (hv : ∀ v ∈ l, v.natAbs ≤ 2063) {cls : Int} (hc : 0 ≤ cls ∧ cls ≤ 4) : (putR cls l).1 = 0 := by
  rw [putR_err h hc]
  obtain ⟨b, hb⟩ := lvsP_ok ((rst l).1.drop (onesN (rst l).1)) (k0N (rst l).1.length (onesN (rst l).1)) (s0N (onesN (rst l).1)) (k0_le _ _) (fun v hv' => hv v (rst_mem l v (List.mem_of_mem_drop hv')).2)
  unfold lvOf; rw [hb]
theorem fits_bad {l : List Int} (h : Blk l) (hv : ∃ v ∈ l, 2601 ≤ v.natAbs) {cls : Int} (hc : 0 ≤ cls ∧ cls ≤ 4) : (putR cls l).1 = 12 := by
  rw [putR_err h hc]
  obtain ⟨v, hv1, hv2⟩ := hv
  have hm : v ∈ (rst l).1 := by rw [rst_filter, List.mem_reverse, List.mem_filter]; exact ⟨hv1, by simp; omega⟩
  have hd : v ∈ (rst l).1.drop (onesN (rst l).1) := by
    rw [← List.take_append_drop (onesN (rst l).1) (rst l).1, List.mem_append] at hm
    rcases hm with hm | hm
    · exfalso
      obtain ⟨i, hi, he⟩ := List.getElem_of_mem hm
      rw [List.length_take] at hi
      rw [List.getElem_take] at he
      have := onesG_at 3 (rst l).1 i (by omega) (by unfold onesN at hi; omega)
      rw [he] at this; omega
    · exact hm
  have := lvsP_bad _ (k0N (rst l).1.length (onesN (rst l).1)) (s0N (onesN (rst l).1)) (k0_le _ _) (s0_le _) ⟨v, hd, hv2⟩
  unfold lvOf; rw [this]
-- rows of other kinds of numbers
def IK (kk : IntKind) (a : AV) (l : List Int) : Prop := (a = .nils ∧ l = []) ∨ a = .is l.length (l.map fun x => .int kk x)
theorem IK.at {kk : IntKind} {S : Heap} {a : AV} {l : List Int} (h : IK kk a l) {i : Nat} (hi : i < l.length) : ∃ t cs o, aIdx 1 a (i : Int) = some t ∧ seeV t S = some (cs, o) ∧ cs[o]? = some (.int kk l[i]) := by
  rcases h with ⟨rfl, rfl⟩ | rfl
  · simp at hi
  · exact ⟨.iptr ((l.map fun x => AV.int kk x).drop (i * 1)), _, 0, by simp [aIdx, hi], rfl, by simp [hi]⟩
theorem IK.len16 {a : AV} {l : List Int} (h : IK .i16 a l) : aLen Try.prog 76 a = some (.int .i64 (l.length : Int)) := by
  rcases h with ⟨rfl, rfl⟩ | rfl
  · exact len_nils76
  · exact len_is76 _ _
theorem flat_k (kk : IntKind) : ∀ ms : List Int, ms.flatMap (fun m => [AV.int kk m]) = ms.map fun x => .int kk x
  | [] => rfl
  | m :: ms => by simp only [List.flatMap_cons, flat_k kk ms]; rfl
theorem arg_i16s {a : AV} (h : argOk Try.prog maxLen 16 76 a) : ∃ l : List Int, IK .i16 a l ∧ ∀ v ∈ l, -32768 ≤ v ∧ v ≤ 32767 := by
  unfold argOk at h
  have hu : Try.prog.underlying 76 = some (.slice 78) := by kernel_rfl
  have hc : Try.prog.cellsOf 78 = 1 := by kernel_rfl
  rw [hu] at h
  simp only at h
  unfold avOk at h
  rw [hu] at h
  simp only [hc] at h
  rcases h with h | ⟨n, cs, h, h1, h2, h3⟩
  · exact ⟨[], .inl ⟨by simpa using h, rfl⟩, by simp⟩
  · obtain ⟨l, e1, e2, e3⟩ := chunks_of (w := 1) (enc := fun m : Int => [AV.int .i16 m]) (Q := fun m => -32768 ≤ m ∧ m ≤ 32767) (fun xs hl => by
      unfold avOk at hl
      rw [show Try.prog.underlying 78 = some (.int .i16) by kernel_rfl] at hl
      simp only at hl
      obtain ⟨m, h1, h2⟩ := hl
      exact ⟨m, h1, by simpa [Lit.wf, IntKind.min, IntKind.max, IntKind.signed, IntKind.bits] using h2⟩) n cs h2 h3
    subst e1 e2
    rw [flat_k] at h
    exact ⟨l, .inr (by simpa using h), e3⟩
theorem arg77 {a : AV} (h : argOk Try.prog maxLen 16 77 a) : ∃ n : Int, a = .int .u16 n ∧ 0 ≤ n ∧ n ≤ 65535 := by
  unfold argOk at h
  rw [show Try.prog.underlying 77 = some (.int .u16) by kernel_rfl] at h
  unfold avOk at h
  rw [show Try.prog.underlying 77 = some (.int .u16) by kernel_rfl] at h
  simp only at h
  obtain ⟨n, h1, h2⟩ := h
  exact ⟨n, by simpa using h1, by simpa [Lit.wf, IntKind.min, IntKind.max, IntKind.signed, IntKind.bits] using h2⟩
theorem setI : ∀ (B : List Int) (i : Nat) (v : Int), setCells (ints B) i [.int .i64 v] = ints (B.set i v) := by
  intro B i v
  simp only [setCells, ints, List.map_set]
theorem putI {T : Heap} {d : Nat} {B : List Int} {i : Nat} (v : Int) (h : T.blk d = some (ints B)) (hi : i < B.length) : putV (.ptr d (i * 1)) [.int .i64 v] T = some (T.set d (some (ints (B.set i v)))) := by
  rw [putV_p h (by rw [ints_len]; simp; omega), Nat.mul_one, setI]
theorem idxI (d n : Nat) {i : Nat} (hi : i < n) : aIdx 1 (.hs d 0 n 1) (i : Int) = some (.ptr d (i * 1)) := by simp [aIdx, hi]
theorem ints_rep (n : Nat) : List.replicate n (AV.int .i64 0) = ints (List.replicate n 0) := by simp [ints]
/-- The first ones, and zeros. -/
def padZ (f : Int → Int) (l : List Int) (n i : Nat) : List Int := (l.take i).map f ++ List.replicate (n - i) 0
theorem padZ_len {f : Int → Int} {l : List Int} {n i : Nat} (h : i ≤ n) (h2 : i ≤ l.length) : (padZ f l n i).length = n := by simp only [padZ, List.length_append, List.length_map, List.length_take, List.length_replicate]; omega
theorem padZ_set {f : Int → Int} {l : List Int} {n i : Nat} (h : i < n) (h2 : i < l.length) : (padZ f l n i).set i (f l[i]) = padZ f l n (i + 1) := by
  unfold padZ
  have e : n - i = (n - (i + 1)) + 1 := by omega
  rw [e, List.replicate_succ, List.set_append]
  have hl : ((l.take i).map f).length = i := by rw [List.length_map, List.length_take]; omega
  rw [hl, if_neg (by omega), Nat.sub_self, List.set_cons_zero, List.take_add_one, List.getElem?_eq_getElem h2, Option.toList_some, List.map_append, List.map_cons, List.map_nil, List.append_assoc]; rfl
theorem padZ_mem {f : Int → Int} {l : List Int} {n i : Nat} {P : Int → Prop} (h0 : P 0) (hf : ∀ v ∈ l, P (f v)) : ∀ v ∈ padZ f l n i, P v := by
  intro v hv
  unfold padZ at hv
  rcases List.mem_append.1 hv with h | h
  · obtain ⟨w, hw, rfl⟩ := List.mem_map.1 h
    exact hf w (List.mem_of_mem_take hw)
  · rw [(List.mem_replicate.1 h).2]; exact h0
theorem rngd_of {l : List Int} (h : ∀ v ∈ l, -32768 ≤ v ∧ v ≤ 32768) : rngd l = true := by
  unfold rngd
  rw [List.all_eq_true]
  intro v hv
  have := h v hv
  simp only [Bool.and_eq_true, decide_eq_true_eq]; exact this
section
variable {B : CallF} (hB : Silent B) (k : Nat) {S : Heap}
include hB
theorem fblockH_c {l : List Int} {d : Nat} (h : S.blk d = some (ints l)) (hd : d < S.next) (hlen : l.length ≤ 1000000000) : ∃ S', Cn B (k + 9) f_fit_Block 0 [.hs d 0 l.length 1] S = some (.bool ((putR 0 l).1 == 0), S') ∧ Fr S S' [] := by
  rw [c_fit_Block _ _ _ _ (hB.no _ _ _ _ (kn_no (by decide))), T_fit_Block]
  obtain ⟨S1, e1, f1⟩ := vfits_c hB k (.inr (.inr ⟨rfl, h, hd⟩)) (.inl hd) hlen
  exact ⟨S1, by simp only [zB, decide_true, decide_false, Bool.false_eq_true, if_false, if_true, List.getElem?_cons_zero, List.getElem?_cons_succ, beq_self_eq_true, bne_self_eq_false, Int.reduceBNe, Int.reduceBEq, Int.reduceLT, Int.reduceGT, Int.reduceLE, Int.reduceGE, Nat.reduceAdd, Nat.reduceMul, Nat.reduceLeDiff, e1], f1⟩
end
theorem w16 {v : Int} (h : -32768 ≤ v ∧ v ≤ 32767) : IntKind.wrap .i64 v = v := wr _ (by omega)
theorem filter_take (B : List Int) {i : Nat} (hi : i < B.length) : (B.take (i + 1)).filter (fun v => decide (v ≠ 0)) = (B.take i).filter (fun v => decide (v ≠ 0)) ++ (if B[i] = 0 then [] else [B[i]]) := by
  rw [List.take_add_one, List.getElem?_eq_getElem hi, Option.toList_some, List.filter_append]
  congr 1
  by_cases h : B[i] = 0
  · rw [if_pos h, List.filter_cons_of_neg (by simp [h])]; rfl
  · rw [if_neg h, List.filter_cons_of_pos (by simp [h])]; rfl
theorem fitZeros_law' {a : AV} {l : List Int} (ha : IK .i16 a l) (hr : ∀ v ∈ l, -32768 ≤ v ∧ v ≤ 32767) : ∃ S', Cn Bk 10 f_spindlelaw34_FitZeros 0 [a] S0 = some (.bool true, S') := by
  have hB := Bk_silent
  rw [c_spindlelaw34_FitZeros _ _ _ _ (hB.no _ _ _ _ (kn_no (by decide))), T_spindlelaw34_FitZeros]
  obtain ⟨d, hd⟩ : ∃ d, d = S0.next := ⟨_, rfl⟩
  rw [← hd]
  obtain ⟨N, hN⟩ : ∃ N, N = min 16 l.length := ⟨_, rfl⟩
  refine loop_meas (fun o => ∃ S', o = some (AV.bool true, S')) (fun m st => ∃ (i : Nat) (T : Heap), i + m = N ∧ st = ([a, .hs d 0 16 1, .int .i64 (i : Int)], T) ∧ T.blk d = some (ints (padZ id l 16 i)) ∧ d < T.next) N
    ⟨0, _, by omega, rfl, by rw [hd]; exact alloc_blk _ _, by rw [hd]; exact Nat.lt_succ_self _⟩ ?_
  rintro m st ⟨i, T, him, rfl, hb, hdT⟩
  cases m with
  | succ m =>
    have hi : i < l.length := by omega
    have c1 : (i : Int) < 16 := by omega
    have c2 : (i : Int) < (l.length : Int) := by omega
    obtain ⟨t, cs, o, x1, x2, x3⟩ := ha.at (S := T) hi
    have w1 := w16 (hr _ (List.getElem_mem hi))
    have w2 : IntKind.wrap .i64 ((i : Int) + 1) = ((i + 1 : Nat) : Int) := by rw [wr _ (by omega)]; omega
    have e1 := idxI d 16 (i := i) (by omega)
    have e2 := putI l[i] hb (i := i) (by rw [padZ_len (by omega) (by omega)]; omega)
    have e3 : (padZ id l 16 i).set i l[i] = padZ id l 16 (i + 1) := padZ_set (f := id) (by omega) hi
    rw [e3] at e2
    exact .inr ⟨m, ([a, .hs d 0 16 1, .int .i64 ((i + 1 : Nat) : Int)], T.set d (some (ints (padZ id l 16 (i + 1))))), by omega, by simp only [zB, decide_true, decide_false, Bool.false_eq_true, if_false, if_true, List.getElem?_cons_zero, List.getElem?_cons_succ, beq_self_eq_true, bne_self_eq_false, Int.reduceBNe, Int.reduceBEq, Int.reduceLT, Int.reduceGT, Int.reduceLE, Int.reduceGE, Nat.reduceAdd, Nat.reduceMul, Nat.reduceLeDiff, c1, ha.len16, c2, x1, x2, x3, w1, e1, e2, w2], i + 1, _, by omega, rfl, set_blk _ _ _, hdT⟩
  | zero =>
    have hi : i = N := by omega
    subst hi
    refine .inl ⟨(0, [.hs d 0 16 1], T), ?_, ?_⟩
    · by_cases h16 : (i : Int) < 16
      · have c2 : ¬ (i : Int) < (l.length : Int) := by omega
        simp only [zB, decide_true, decide_false, Bool.false_eq_true, if_false, if_true, List.getElem?_cons_zero, List.getElem?_cons_succ, beq_self_eq_true, bne_self_eq_false, Int.reduceBNe, Int.reduceBEq, Int.reduceLT, Int.reduceGT, Int.reduceLE, Int.reduceGE, Nat.reduceAdd, Nat.reduceMul, Nat.reduceLeDiff, h16, ha.len16, c2]
      · simp only [zB, decide_true, decide_false, Bool.false_eq_true, if_false, if_true, List.getElem?_cons_zero, List.getElem?_cons_succ, beq_self_eq_true, bne_self_eq_false, Int.reduceBNe, Int.reduceBEq, Int.reduceLT, Int.reduceGT, Int.reduceLE, Int.reduceGE, Nat.reduceAdd, Nat.reduceMul, Nat.reduceLeDiff, h16]
    obtain ⟨C, hC⟩ : ∃ C, C = padZ id l 16 i := ⟨_, rfl⟩
    rw [← hC] at hb
    have hC16 : C.length = 16 := by rw [hC]; exact padZ_len (by omega) (by omega)
    have hCr : ∀ v ∈ C, -32768 ≤ v ∧ v ≤ 32768 := by rw [hC]; exact padZ_mem (P := fun v => -32768 ≤ v ∧ v ≤ 32768) ⟨by omega, by omega⟩ (fun v hv => by have := hr v hv; exact ⟨this.1, by have := this.2; simp only [id]; omega⟩)
    simp only [zB, decide_true, decide_false, Bool.false_eq_true, if_false, if_true, List.getElem?_cons_zero, List.getElem?_cons_succ, beq_self_eq_true, bne_self_eq_false, Int.reduceBNe, Int.reduceBEq, Int.reduceLT, Int.reduceGT, Int.reduceLE, Int.reduceGE, Nat.reduceAdd, Nat.reduceMul, Nat.reduceLeDiff, sel_0]
    refine loop_meas (fun o => ∃ S', o = some (AV.bool true, S')) (fun m st => ∃ (i b : Nat) (U : Heap), i + m = 16 ∧ st = ([.hs d 0 16 1, hv ((C.take i).filter fun v => decide (v ≠ 0)) b, .int .i64 (i : Int)], U) ∧ U.blk d = some (ints C) ∧ d < U.next ∧ HR U ((C.take i).filter fun v => decide (v ≠ 0)) b ∧ ((C.take i).filter (fun v => decide (v ≠ 0)) ≠ [] → b ≠ d)) 16
      ⟨0, 0, T, by omega, rfl, hb, hdT, fun h => absurd rfl h, fun h => absurd rfl h⟩ ?_
    rintro m st ⟨i, b, U, him, rfl, hbU, hdU, hR, hbd⟩
    have hIL : IL U (.hs d 0 16 1) C d := .inr (.inr ⟨by rw [hC16], hbU, hdU⟩)
    cases m with
    | succ m =>
      have hi : i < C.length := by omega
      have c1 : (i : Int) < 16 := by omega
      obtain ⟨t, cs, o, x1, x2, x3⟩ := hIL.at hi
      have w2 : IntKind.wrap .i64 ((i : Int) + 1) = ((i + 1 : Nat) : Int) := by rw [wr _ (by omega)]; omega
      have hft := filter_take C hi
      by_cases h0 : C[i] = 0
      · have c3 : (C[i] != 0) = false := by simp [h0]
        rw [if_pos h0, List.append_nil] at hft
        refine .inr ⟨m, ([.hs d 0 16 1, hv ((C.take i).filter fun v => decide (v ≠ 0)) b, .int .i64 ((i + 1 : Nat) : Int)], U), by omega, by simp only [zB, decide_true, decide_false, Bool.false_eq_true, if_false, if_true, List.getElem?_cons_zero, List.getElem?_cons_succ, beq_self_eq_true, bne_self_eq_false, Int.reduceBNe, Int.reduceBEq, Int.reduceLT, Int.reduceGT, Int.reduceLE, Int.reduceGE, Nat.reduceAdd, Nat.reduceMul, Nat.reduceLeDiff, c1, x1, x2, x3, c3, w2], i + 1, b, U, by omega, by rw [hft], hbU, hdU, by rw [hft]; exact hR, by rw [hft]; exact hbd⟩
      · have c3 : (C[i] != 0) = true := by simp [h0]
        rw [if_neg h0] at hft
        have hfl : ((C.take i).filter fun v => decide (v ≠ 0)).length ≤ 16 := Nat.le_trans (List.length_filter_le _ _) (by rw [List.length_take]; omega)
        obtain ⟨U2, e1, hR2, n2, x4, o2⟩ := appI C[i] hR (by omega)
        rw [← hft] at e1 hR2
        refine .inr ⟨m, ([.hs d 0 16 1, hv ((C.take (i + 1)).filter fun v => decide (v ≠ 0)) U.next, .int .i64 ((i + 1 : Nat) : Int)], U2), by omega, by simp only [zB, decide_true, decide_false, Bool.false_eq_true, if_false, if_true, List.getElem?_cons_zero, List.getElem?_cons_succ, beq_self_eq_true, bne_self_eq_false, Int.reduceBNe, Int.reduceBEq, Int.reduceLT, Int.reduceGT, Int.reduceLE, Int.reduceGE, Nat.reduceAdd, Nat.reduceMul, Nat.reduceLeDiff, c1, x1, x2, x3, c3, e1, w2], i + 1, U.next, U2, by omega, rfl, ?_, by omega, hR2, fun _ => by omega⟩
        rw [o2 d (by omega) (by
          by_cases hn : (C.take i).filter (fun v => decide (v ≠ 0)) = []
          · exact .inr hn
          · exact .inl (Ne.symm (hbd hn)))]
        exact hbU
    | zero =>
      have hi : i = 16 := by omega
      subst hi
      have c1 : ¬ (((16 : Nat) : Int) < 16) := by omega
      rw [List.take_of_length_le (by omega)] at hR hbd ⊢
      refine .inl ⟨(0, [.hs d 0 16 1, hv (C.filter fun v => decide (v ≠ 0)) b], U), by simp only [zB, decide_true, decide_false, Bool.false_eq_true, if_false, if_true, List.getElem?_cons_zero, List.getElem?_cons_succ, beq_self_eq_true, bne_self_eq_false, Int.reduceBNe, Int.reduceBEq, Int.reduceLT, Int.reduceGT, Int.reduceLE, Int.reduceGE, Nat.reduceAdd, Nat.reduceMul, Nat.reduceLeDiff, c1], ?_⟩
      obtain ⟨F, hF⟩ : ∃ F, F = C.filter fun v => decide (v ≠ 0) := ⟨_, rfl⟩
      have hFl : F.length ≤ 16 := by rw [hF, ← hC16]; exact List.length_filter_le _ _
      have hFm : ∀ v ∈ F, v ≠ 0 ∧ -32768 ≤ v ∧ v ≤ 32768 := fun v hv => by
        rw [hF, List.mem_filter] at hv
        exact ⟨by simpa using hv.2, hCr v hv.1⟩
      rw [← hF] at hR hbd ⊢
      simp only [zB, decide_true, decide_false, Bool.false_eq_true, if_false, if_true, List.getElem?_cons_zero, List.getElem?_cons_succ, beq_self_eq_true, bne_self_eq_false, Int.reduceBNe, Int.reduceBEq, Int.reduceLT, Int.reduceGT, Int.reduceLE, Int.reduceGE, Nat.reduceAdd, Nat.reduceMul, Nat.reduceLeDiff, sel_0]
      refine loop_meas (fun o => ∃ S', o = some (AV.bool true, S')) (fun m st => ∃ (j b : Nat) (U : Heap), F.length + j + m = 16 ∧ st = ([.hs d 0 16 1, hv (F ++ List.replicate j 0) b], U) ∧ U.blk d = some (ints C) ∧ d < U.next ∧ HR U (F ++ List.replicate j 0) b ∧ (F ++ List.replicate j (0 : Int) ≠ [] → b ≠ d)) (16 - F.length)
        ⟨0, b, U, by omega, by simp, hbU, hdU, by simpa using hR, by simpa using hbd⟩ ?_
      rintro m st ⟨j, b, V, hjm, rfl, hbV, hdV, hR, hbd⟩
      cases m with
      | succ m =>
        have c1 : ((F ++ List.replicate j 0).length : Int) < 16 := by simp only [List.length_append, List.length_replicate]; omega
        obtain ⟨U2, e1, hR2, n2, x4, o2⟩ := appI 0 hR (by simp only [List.length_append, List.length_replicate]; omega)
        have hrep : F ++ List.replicate j 0 ++ [(0 : Int)] = F ++ List.replicate (j + 1) 0 := by rw [List.append_assoc, List.replicate_succ']
        rw [hrep] at e1 hR2
        refine .inr ⟨m, ([.hs d 0 16 1, hv (F ++ List.replicate (j + 1) 0) V.next], U2), by omega, by simp only [zB, decide_true, decide_false, Bool.false_eq_true, if_false, if_true, List.getElem?_cons_zero, List.getElem?_cons_succ, beq_self_eq_true, bne_self_eq_false, Int.reduceBNe, Int.reduceBEq, Int.reduceLT, Int.reduceGT, Int.reduceLE, Int.reduceGE, Nat.reduceAdd, Nat.reduceMul, Nat.reduceLeDiff, hv_len, c1, e1], j + 1, V.next, U2, by omega, rfl, ?_, by omega, hR2, fun _ => by omega⟩
        rw [o2 d (by omega) (by
          by_cases hn : F ++ List.replicate j (0 : Int) = []
          · exact .inr hn
          · exact .inl (Ne.symm (hbd hn)))]
        exact hbV
      | zero =>
        obtain ⟨E, hE⟩ : ∃ E, E = F ++ List.replicate j (0 : Int) := ⟨_, rfl⟩
        rw [← hE] at hR hbd ⊢
        have hE16 : E.length = 16 := by rw [hE]; simp only [List.length_append, List.length_replicate]; omega
        have c1 : ¬ ((E.length : Int) < 16) := by omega
        refine .inl ⟨(0, [.hs d 0 16 1, hv E b], V), by simp only [zB, decide_true, decide_false, Bool.false_eq_true, if_false, if_true, List.getElem?_cons_zero, List.getElem?_cons_succ, beq_self_eq_true, bne_self_eq_false, Int.reduceBNe, Int.reduceBEq, Int.reduceLT, Int.reduceGT, Int.reduceLE, Int.reduceGE, Nat.reduceAdd, Nat.reduceMul, Nat.reduceLeDiff, hv_len, c1], ?_⟩
        have hEne : E ≠ [] := fun h => by rw [h] at hE16; cases hE16
        have hvE : hv E b = .hs b 0 E.length 1 := by unfold hv; rw [if_neg hEne]
        obtain ⟨V1, e1, f1⟩ := fblockH_c hB 0 hbV hdV (by omega)
        rw [hC16] at e1
        obtain ⟨V2, e2, f2⟩ := fblockH_c hB 0 (S := V1) ((f1.get (hR hEne).2 (by simp)).trans (hR hEne).1) (Nat.lt_of_lt_of_le (hR hEne).2 f1.1) (by omega)
        have hEr : ∀ v ∈ E, -32768 ≤ v ∧ v ≤ 32768 := fun v hv => by
          rw [hE] at hv
          rcases List.mem_append.1 hv with h | h
          · exact (hFm v h).2
          · rw [(List.mem_replicate.1 h).2]; omega
        have hBC : Blk C := ⟨by rw [hC16]; rfl, rngd_of hCr⟩
        have hBE : Blk E := ⟨by rw [hE16]; rfl, rngd_of hEr⟩
        have hsame : (rst C).1 = (rst E).1 := by
          rw [rst_filter, rst_filter, ← hF, hE, List.filter_append]
          have g1 : F.filter (fun v => decide (v ≠ 0)) = F := List.filter_eq_self.2 (fun v hv => by simpa using (hFm v hv).1)
          have g2 : (List.replicate j (0 : Int)).filter (fun v => decide (v ≠ 0)) = [] := by rw [List.filter_eq_nil_iff]; intro v hv; rw [(List.mem_replicate.1 hv).2]; simp
          rw [g1, g2, List.append_nil]
        have hps := putR_same hBC hBE hsame (cls := 0) (cls2 := 0) ⟨by omega, by omega⟩ ⟨by omega, by omega⟩
        rw [hps] at e1
        have e5 : ∀ S, Cn Bk 9 f_spindlelaw34_awake 0 [] S = some (.bool true, S) := fun S => chk_c hB awake34_chk _ _
        exact ⟨V2, by simp only [zB, decide_true, decide_false, Bool.false_eq_true, if_false, if_true, List.getElem?_cons_zero, List.getElem?_cons_succ, beq_self_eq_true, bne_self_eq_false, Int.reduceBNe, Int.reduceBEq, Int.reduceLT, Int.reduceGT, Int.reduceLE, Int.reduceGE, Nat.reduceAdd, Nat.reduceMul, Nat.reduceLeDiff, sel_0, hvE, e1, e2, e5]⟩
theorem fitZeros_law (xs : List AV) (h : argsOk Try.prog maxLen 16 Try.f13.params.toList xs) : ∃ (C : CallF) (S' : Heap), NOk Try.prog (fun _ => none) C ∧ C 13 0 xs S0 = some (.bool true, S') := by
  rw [Try.params13] at h
  obtain ⟨a, r, rfl, h1, rfl⟩ := h
  obtain ⟨l, hl, hr⟩ := arg_i16s h1
  obtain ⟨S', hS⟩ := fitZeros_law' hl hr
  exact ⟨Cn Bk 10, S', Cn_ok 10, hS⟩
end Go.Ab.tV
