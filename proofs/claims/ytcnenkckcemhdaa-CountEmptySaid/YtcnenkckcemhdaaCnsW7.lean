/- The class of a block: the program's side. -/
import Derived.Test.YtcnenkckcemhdaaCnsW6
set_option maxRecDepth 100000
set_option linter.unusedSimpArgs false
set_option linter.unusedVariables false
set_option linter.unusedSectionVars false
namespace Go.Ab.tNearU
open Go Go.Proofs

-- places
def bk (x y : Nat) : Nat := x % 2 + x / 2 * 4 + y % 2 * 2 + y / 2 * 8
/-- The block nearby, and whether it is in the same macroblock. -/
def stp (ch ab : Bool) (k : Nat) : Nat × Bool := match ch, ab with
  | true, true => cond (Nat.blt 1 k) (k - 2, true) (k + 2, false)
  | true, false => cond (Nat.beq (k % 2) 1) (k - 1, true) (k + 1, false)
  | false, true => (bk (k % 2 + k / 4 % 2 * 2) ((k / 2 % 2 + k / 8 * 2 + 3) % 4), Nat.blt 0 (k / 2 % 2 + k / 8 * 2))
  | false, false => (bk ((k % 2 + k / 4 % 2 * 2 + 3) % 4) (k / 2 % 2 + k / 8 * 2), Nat.blt 0 (k % 2 + k / 4 % 2 * 2))
def stpA (ch ab : Bool) (k : Nat) : AV := .tup [.int .i64 (Int.ofNat (stp ch ab k).1), .bool (stp ch ab k).2, .int .i64 0]
theorem noId_stpA (ch ab : Bool) (k : Nat) : noId (stpA ch ab k) = true := rfl
theorem pl_l : ((List.range 16).all fun k => isB (C1 f_place_Left 0 [.int .i64 (Int.ofNat k)] S0) (stpA false false k) && isB (C1 f_spindleref11_Left 0 [.int .i64 (Int.ofNat k)] S0) (stpA false false k)) = true := by kernel_rfl
theorem pl_a : ((List.range 16).all fun k => isB (C1 f_place_Above 0 [.int .i64 (Int.ofNat k)] S0) (stpA false true k) && isB (C1 f_spindleref11_Above 0 [.int .i64 (Int.ofNat k)] S0) (stpA false true k)) = true := by kernel_rfl
theorem pl_cl : ((List.range 4).all fun k => isB (C1 f_place_ChLeft 0 [.int .i64 (Int.ofNat k)] S0) (stpA true false k) && isB (C1 f_spindleref11_ChLeft 0 [.int .i64 (Int.ofNat k)] S0) (stpA true false k)) = true := by kernel_rfl
theorem pl_ca : ((List.range 4).all fun k => isB (C1 f_place_ChAbove 0 [.int .i64 (Int.ofNat k)] S0) (stpA true true k) && isB (C1 f_spindleref11_ChAbove 0 [.int .i64 (Int.ofNat k)] S0) (stpA true true k)) = true := by kernel_rfl
section
variable {B : CallF} (hB : Known B) (k : Nat)
include hB
theorem place_l {j : Nat} (hj : j < 16) (S : Heap) : Cn B k f_place_Left 0 [.int .i64 (j : Int)] S = some (stpA false false j, S) ∧ Cn B k f_spindleref11_Left 0 [.int .i64 (j : Int)] S = some (stpA false false j, S) := by
  have h := List.all_eq_true.1 pl_l j (List.mem_range.2 hj)
  rw [Bool.and_eq_true] at h
  exact ⟨known_sel hB rfl rfl (noId_stpA _ _ _) (isB_of h.1) k S, known_sel hB rfl rfl (noId_stpA _ _ _) (isB_of h.2) k S⟩
theorem place_a {j : Nat} (hj : j < 16) (S : Heap) : Cn B k f_place_Above 0 [.int .i64 (j : Int)] S = some (stpA false true j, S) ∧ Cn B k f_spindleref11_Above 0 [.int .i64 (j : Int)] S = some (stpA false true j, S) := by
  have h := List.all_eq_true.1 pl_a j (List.mem_range.2 hj)
  rw [Bool.and_eq_true] at h
  exact ⟨known_sel hB rfl rfl (noId_stpA _ _ _) (isB_of h.1) k S, known_sel hB rfl rfl (noId_stpA _ _ _) (isB_of h.2) k S⟩
theorem place_cl {j : Nat} (hj : j < 4) (S : Heap) : Cn B k f_place_ChLeft 0 [.int .i64 (j : Int)] S = some (stpA true false j, S) ∧ Cn B k f_spindleref11_ChLeft 0 [.int .i64 (j : Int)] S = some (stpA true false j, S) := by
  have h := List.all_eq_true.1 pl_cl j (List.mem_range.2 hj)
  rw [Bool.and_eq_true] at h
  exact ⟨known_sel hB rfl rfl (noId_stpA _ _ _) (isB_of h.1) k S, known_sel hB rfl rfl (noId_stpA _ _ _) (isB_of h.2) k S⟩
theorem place_ca {j : Nat} (hj : j < 4) (S : Heap) : Cn B k f_place_ChAbove 0 [.int .i64 (j : Int)] S = some (stpA true true j, S) ∧ Cn B k f_spindleref11_ChAbove 0 [.int .i64 (j : Int)] S = some (stpA true true j, S) := by
  have h := List.all_eq_true.1 pl_ca j (List.mem_range.2 hj)
  rw [Bool.and_eq_true] at h
  exact ⟨known_sel hB rfl rfl (noId_stpA _ _ _) (isB_of h.1) k S, known_sel hB rfl rfl (noId_stpA _ _ _) (isB_of h.2) k S⟩
end
theorem stp_lt : ∀ ab : Bool, ∀ k, k < 16 → (stp false ab k).1 < 16 := by decide
theorem stp_lt4 : ∀ ab : Bool, ∀ k, k < 4 → (stp true ab k).1 < 4 := by decide

-- one direction
def isCh (c : Cd) : Bool := Nat.beq c.1 4
def dOf (ch : Bool) (c : Cd) (j : Nat) : Cd := match ch with
  | true => (4, c.2.1, j)
  | false => (2, 0, j)
def lookd (m : M) (nb : M × Bool) (ab : Bool) (c : Cd) : Option Nat :=
  match (stp (isCh c) ab c.2.2).2 with
  | true => some (tot m (dOf (isCh c) c (stp (isCh c) ab c.2.2).1))
  | false => match nb.2 with
    | true => some (tot nb.1 (dOf (isCh c) c (stp (isCh c) ab c.2.2).1))
    | false => none
theorem tot_le {m : M} (hg : Good 1000 m) (c : Cd) : tot m c ≤ 1000 := by
  unfold tot
  split
  · omega
  · split
    · omega
    · have hrw := coef_good hg c
      obtain ⟨n, q1, q2, q3, q4⟩ := len25 hrw (by omega)
      have := nz_le hrw n
      unfold nz
      rw [List.take_of_length_le (by omega)] at this
      omega
theorem lookd_le {m : M} {nb : M × Bool} (hg : Good 1000 m) (gn : Good 1000 nb.1) {ab : Bool} {c : Cd} {x : Nat} (h : lookd m nb ab c = some x) : x ≤ 1000 := by
  unfold lookd at h
  split at h
  · cases h; exact tot_le hg _
  · split at h
    · cases h; exact tot_le gn _
    · cases h
theorem putV_1 {S : Heap} {i : Nat} {x y : AV} (h : S.blk i = some [y]) : putV (.ptr i 0) [x] S = some (S.set i (some [x])) := by simp [putV, h, setCells]
def addL (T : Heap) (pt ps t s : Nat) : Option Nat → Heap
  | none => T
  | some x => (T.set pt (some [.int .i64 ((t + 1 : Nat) : Int)])).set ps (some [.int .i64 ((s + x : Nat) : Int)])
/-- A block that is coded somewhere. -/
def CdEx (c : Cd) : Prop := CdOk c ∧ exF c.1 c.2.1 c.2.2 = true
theorem CdEx.ch {c : Cd} (h : CdEx c) (hc : isCh c = true) : c.2.2 < 4 := by
  obtain ⟨a, b, k⟩ := c
  have ha : a = 4 := Nat.eq_of_beq_eq_true hc
  subst ha
  have := h.2
  simp only [exF, Bool.and_eq_true, Nat.blt_eq] at this
  exact this.2
theorem look_c {B : CallF} (hB : Known B) (k : Nat) {T : Heap} {m : M} (hg : Good 1000 m) (hb : Byt m) {c : Cd} (hc : CdEx c) {fl fc fn : Nat} (yl : ¬ yldId ≤ fl) (yc : ¬ yldId ≤ fc) (yn : ¬ yldId ≤ fn) {ab : Bool} {nb : M × Bool} (gn : Good 1000 nb.1) (bn : Byt nb.1)
    (hl : ∀ j : Nat, j < 16 → Cn B (k + 4) fl 0 [.int .i64 (j : Int)] T = some (stpA false ab j, T)) (hcl : ∀ j : Nat, j < 4 → Cn B (k + 4) fc 0 [.int .i64 (j : Int)] T = some (stpA true ab j, T)) {arg : AV} (hn : Cn B (k + 4) fn 0 [arg] T = some (pair nb, T))
    {pc pm pt ps t s : Nat} (bc : T.blk pc = some (cdC c)) (bm : T.blk pm = some m.cells) (bt : T.blk pt = some [.int .i64 (t : Int)]) (bs : T.blk ps = some [.int .i64 (s : Int)]) (ht : t ≤ 10) (hs : s ≤ 10000) (ne : ps ≠ pt) (lt : pt < T.next) :
    Cn B (k + 5) f_count_Class_1 0 [.fn fl [] [], .fn fc [] [], .fn fn [arg] [], .ptr pc 0, .ptr pm 0, .ptr pt 0, .ptr ps 0] T = some (.tup [], addL T pt ps t s (lookd m nb ab c)) := by
  rw [c_count_Class_1 _ _ _ _ _ _ _ _ _ _ (hB.no _ _ _ _ (by decide)), T_count_Class_1]
  have l29 := M.len hg.pre
  have l29n := M.len gn.pre
  have t29 : List.take 29 (List.drop 0 m.cells) = m.cells := by rw [List.drop_zero]; exact M.t29 hg.pre
  have t29n : List.take 29 (List.drop 0 nb.1.cells) = nb.1.cells := by rw [List.drop_zero]; exact M.t29 gn.pre
  have h29 : (29 : Nat) ≤ 29 := by omega
  have h3 : (3 : Nat) ≤ 3 := by omega
  have g0 : (cdC c)[0]? = some (.int .u8 (c.1 : Int)) := rfl
  have g1 : (cdC c)[1]? = some (.int .u8 (c.2.1 : Int)) := rfl
  have g2 : (cdC c)[2]? = some (.int .i64 (c.2.2 : Int)) := rfl
  have h4 : ((c.1 : Int) == 4) = isCh c := by
    unfold isCh
    rw [Bool.eq_iff_iff, beq_iff_eq, Nat.beq_eq]
    omega
  have hz := M.z hg.pre
  have hcm := hg.cell
  have hcn := gn.cell
  have hset : setCells m.cells 0 nb.1.cells = nb.1.cells := setCells_all (by rw [l29, l29n])
  have lx : ∀ a b j : Int, ([.int .u8 a, .int .u8 b, .int .i64 j] : List AV).length = 3 := fun _ _ _ => rfl
  have tx : ∀ a b j : Int, List.take 3 (List.drop 0 ([.int .u8 a, .int .u8 b, .int .i64 j] : List AV)) = [.int .u8 a, .int .u8 b, .int .i64 j] := fun _ _ _ => rfl
  have sx : ∀ (a b j : Int) (x : AV), setCells ([.int .u8 a, .int .u8 b, .int .i64 j] : List AV) 2 [x] = [.int .u8 a, .int .u8 b, x] := fun _ _ _ _ => rfl
  have p1 : ∀ x : AV, putV (.ptr pt 0) [x] T = some (T.set pt (some [x])) := fun x => putV_1 bt
  have bs' : ∀ x : AV, (T.set pt (some [x])).blk ps = some [.int .i64 (s : Int)] := fun x => by rw [set_other _ _ ne]; exact bs
  have p2 : ∀ x y : AV, putV (.ptr ps 0) [y] (T.set pt (some [x])) = some ((T.set pt (some [x])).set ps (some [y])) := fun x y => putV_1 (bs' x)
  have w1 : IntKind.wrap .i64 ((t : Int) + 1) = ((t + 1 : Nat) : Int) := by rw [wr _ (by omega)]; omega
  have trn : ∀ x : Nat, ctlW.tr T (.tup []) (addL T pt ps t s (some x)) = (.tup [], addL T pt ps t s (some x)) := fun x => tr_ne pt lt (by
    show ((T.set pt _).set ps _).blk pt ≠ _
    rw [set_other _ _ (Ne.symm ne), set_blk, bt]
    intro h
    simp only [Option.some.injEq, List.cons.injEq, AV.int.injEq, true_and, and_true] at h
    omega)
  have w2 : ∀ x : Nat, x ≤ 1000 → IntKind.wrap .i64 ((s : Int) + (x : Int)) = ((s + x : Nat) : Int) := fun x hx => by rw [wr _ (by omega)]; omega
  cases hch : isCh c with
  | false =>
    have e1 := hl c.2.2 hc.1.2.2
    have hj := stp_lt ab c.2.2 hc.1.2.2
    unfold stpA at e1
    cases hs2 : (stp false ab c.2.2).2 with
    | true =>
      have hlk : lookd m nb ab c = some (tot m (2, 0, (stp false ab c.2.2).1)) := by unfold lookd; rw [hch, hs2]; rfl
      rw [hlk]
      rw [hs2] at e1
      generalize (stp false ab c.2.2).1 = j at e1 hj hlk ⊢
      have e2 : ∀ S, Cn B (k + 4) f_count_Total 0 [.agg m.cells, .agg [.int .u8 2, .int .u8 0, .int .i64 (j : Int)]] S = some (.int .i64 (tot m (2, 0, j) : Int), S) := fun S => total_c hB k hg hb (c := (2, 0, j)) ⟨by simp only; omega, by simp only; omega, hj⟩ S
      have w2' := w2 _ (tot_le hg (2, 0, j))
      have trn' := trn (tot m (2, 0, j))
      unfold addL at trn'
      simp only at trn'
      simp only [bO_s, gB_t, asBool_b, asInt_i, asAgg_a, asTup_a, asStr_s, asCons_c, nthA_0, nthA_s, aggCells_a, addV_p, seeV_p, seeV_i, same_nil, tr_same, eql4, neq4, decide_true, decide_false, Bool.false_eq_true, if_false, if_true, Bool.not_true, Bool.not_false, Bool.and_true, Bool.true_and, Bool.and_self, List.getElem?_cons_zero, List.getElem?_cons_succ, Nat.zero_add, Nat.add_zero, beq_self_eq_true, bne_self_eq_false, Int.reduceBNe, Int.reduceBEq, Int.reduceLT, Int.reduceGT, Int.reduceLE, Int.reduceGE, Nat.reduceAdd, Nat.reduceMul, Nat.reduceLeDiff, bc, g0, h4, hch, g2, callK, yl, OAn.way, OAn.cFrz, List.cons_append, List.nil_append, List.append_nil, e1, Int.ofNat_eq_natCast, lx, h3, bm, l29, t29, h29, hcm, hz, bt, p1, bs', sx, tx, e2, same_see, p2, w1, w2', trn', addL]
    | false =>
      cases hn2 : nb.2 with
      | true =>
        have hlk : lookd m nb ab c = some (tot nb.1 (2, 0, (stp false ab c.2.2).1)) := by unfold lookd; rw [hch, hs2, hn2]; rfl
        rw [hlk]
        rw [hs2] at e1
        generalize (stp false ab c.2.2).1 = j at e1 hj hlk ⊢
        have e2 : ∀ S, Cn B (k + 4) f_count_Total 0 [.agg nb.1.cells, .agg [.int .u8 2, .int .u8 0, .int .i64 (j : Int)]] S = some (.int .i64 (tot nb.1 (2, 0, j) : Int), S) := fun S => total_c hB k gn bn (c := (2, 0, j)) ⟨by simp only; omega, by simp only; omega, hj⟩ S
        have w2' := w2 _ (tot_le gn (2, 0, j))
        have trn' := trn (tot nb.1 (2, 0, j))
        unfold addL at trn'
        simp only at trn'
        simp only [bO_s, gB_t, asBool_b, asInt_i, asAgg_a, asTup_a, asStr_s, asCons_c, nthA_0, nthA_s, aggCells_a, addV_p, seeV_p, seeV_i, same_nil, tr_same, eql4, neq4, decide_true, decide_false, Bool.false_eq_true, if_false, if_true, Bool.not_true, Bool.not_false, Bool.and_true, Bool.true_and, Bool.and_self, List.getElem?_cons_zero, List.getElem?_cons_succ, Nat.zero_add, Nat.add_zero, beq_self_eq_true, bne_self_eq_false, Int.reduceBNe, Int.reduceBEq, Int.reduceLT, Int.reduceGT, Int.reduceLE, Int.reduceGE, Nat.reduceAdd, Nat.reduceMul, Nat.reduceLeDiff, bc, g0, h4, hch, g2, callK, yl, yn, OAn.way, OAn.cFrz, List.cons_append, List.nil_append, List.append_nil, e1, Int.ofNat_eq_natCast, hn, pair, hn2, lx, h3, bm, l29, l29n, t29, t29n, h29, hcm, hcn, hz, hset, bt, p1, bs', sx, tx, e2, same_see, p2, w1, w2', trn', addL]
      | false =>
        have hlk : lookd m nb ab c = none := by unfold lookd; rw [hch, hs2, hn2]
        rw [hlk]
        rw [hs2] at e1
        simp only [bO_s, gB_t, asBool_b, asInt_i, asAgg_a, asTup_a, asStr_s, asCons_c, nthA_0, nthA_s, aggCells_a, addV_p, seeV_p, seeV_i, same_nil, tr_same, eql4, neq4, decide_true, decide_false, Bool.false_eq_true, if_false, if_true, Bool.not_true, Bool.not_false, Bool.and_true, Bool.true_and, Bool.and_self, List.getElem?_cons_zero, List.getElem?_cons_succ, Nat.zero_add, Nat.add_zero, beq_self_eq_true, bne_self_eq_false, Int.reduceBNe, Int.reduceBEq, Int.reduceLT, Int.reduceGT, Int.reduceLE, Int.reduceGE, Nat.reduceAdd, Nat.reduceMul, Nat.reduceLeDiff, bc, g0, h4, hch, g2, callK, yl, yn, OAn.way, OAn.cFrz, List.cons_append, List.nil_append, List.append_nil, e1, Int.ofNat_eq_natCast, hn, pair, hn2, lx, h3, bm, l29, l29n, t29, t29n, h29, hcm, hcn, hz, hset, sx, tx, addL]
  | true =>
    have hk4 := hc.ch hch
    have e1 := hcl c.2.2 hk4
    have hj := stp_lt4 ab c.2.2 hk4
    unfold stpA at e1
    cases hs2 : (stp true ab c.2.2).2 with
    | true =>
      have hlk : lookd m nb ab c = some (tot m (4, c.2.1, (stp true ab c.2.2).1)) := by unfold lookd; rw [hch, hs2]; rfl
      rw [hlk]
      rw [hs2] at e1
      generalize (stp true ab c.2.2).1 = j at e1 hj hlk ⊢
      have e2 : ∀ S, Cn B (k + 4) f_count_Total 0 [.agg m.cells, .agg [.int .u8 4, .int .u8 (c.2.1 : Int), .int .i64 (j : Int)]] S = some (.int .i64 (tot m (4, c.2.1, j) : Int), S) := fun S => total_c hB k hg hb (c := (4, c.2.1, j)) ⟨by simp only; omega, hc.1.2.1, by simp only; omega⟩ S
      have w2' := w2 _ (tot_le hg (4, c.2.1, j))
      have trn' := trn (tot m (4, c.2.1, j))
      unfold addL at trn'
      simp only at trn'
      simp only [bO_s, gB_t, asBool_b, asInt_i, asAgg_a, asTup_a, asStr_s, asCons_c, nthA_0, nthA_s, aggCells_a, addV_p, seeV_p, seeV_i, same_nil, tr_same, eql4, neq4, decide_true, decide_false, Bool.false_eq_true, if_false, if_true, Bool.not_true, Bool.not_false, Bool.and_true, Bool.true_and, Bool.and_self, List.getElem?_cons_zero, List.getElem?_cons_succ, Nat.zero_add, Nat.add_zero, beq_self_eq_true, bne_self_eq_false, Int.reduceBNe, Int.reduceBEq, Int.reduceLT, Int.reduceGT, Int.reduceLE, Int.reduceGE, Nat.reduceAdd, Nat.reduceMul, Nat.reduceLeDiff, bc, g0, g1, h4, hch, g2, callK, yc, OAn.way, OAn.cFrz, List.cons_append, List.nil_append, List.append_nil, e1, Int.ofNat_eq_natCast, lx, h3, bm, l29, t29, h29, hcm, hz, bt, p1, bs', sx, tx, e2, same_see, p2, w1, w2', trn', addL]
    | false =>
      cases hn2 : nb.2 with
      | true =>
        have hlk : lookd m nb ab c = some (tot nb.1 (4, c.2.1, (stp true ab c.2.2).1)) := by unfold lookd; rw [hch, hs2, hn2]; rfl
        rw [hlk]
        rw [hs2] at e1
        generalize (stp true ab c.2.2).1 = j at e1 hj hlk ⊢
        have e2 : ∀ S, Cn B (k + 4) f_count_Total 0 [.agg nb.1.cells, .agg [.int .u8 4, .int .u8 (c.2.1 : Int), .int .i64 (j : Int)]] S = some (.int .i64 (tot nb.1 (4, c.2.1, j) : Int), S) := fun S => total_c hB k gn bn (c := (4, c.2.1, j)) ⟨by simp only; omega, hc.1.2.1, by simp only; omega⟩ S
        have w2' := w2 _ (tot_le gn (4, c.2.1, j))
        have trn' := trn (tot nb.1 (4, c.2.1, j))
        unfold addL at trn'
        simp only at trn'
        simp only [bO_s, gB_t, asBool_b, asInt_i, asAgg_a, asTup_a, asStr_s, asCons_c, nthA_0, nthA_s, aggCells_a, addV_p, seeV_p, seeV_i, same_nil, tr_same, eql4, neq4, decide_true, decide_false, Bool.false_eq_true, if_false, if_true, Bool.not_true, Bool.not_false, Bool.and_true, Bool.true_and, Bool.and_self, List.getElem?_cons_zero, List.getElem?_cons_succ, Nat.zero_add, Nat.add_zero, beq_self_eq_true, bne_self_eq_false, Int.reduceBNe, Int.reduceBEq, Int.reduceLT, Int.reduceGT, Int.reduceLE, Int.reduceGE, Nat.reduceAdd, Nat.reduceMul, Nat.reduceLeDiff, bc, g0, g1, h4, hch, g2, callK, yc, yn, OAn.way, OAn.cFrz, List.cons_append, List.nil_append, List.append_nil, e1, Int.ofNat_eq_natCast, hn, pair, hn2, lx, h3, bm, l29, l29n, t29, t29n, h29, hcm, hcn, hz, hset, bt, p1, bs', sx, tx, e2, same_see, p2, w1, w2', trn', addL]
      | false =>
        have hlk : lookd m nb ab c = none := by unfold lookd; rw [hch, hs2, hn2]
        rw [hlk]
        rw [hs2] at e1
        simp only [bO_s, gB_t, asBool_b, asInt_i, asAgg_a, asTup_a, asStr_s, asCons_c, nthA_0, nthA_s, aggCells_a, addV_p, seeV_p, seeV_i, same_nil, tr_same, eql4, neq4, decide_true, decide_false, Bool.false_eq_true, if_false, if_true, Bool.not_true, Bool.not_false, Bool.and_true, Bool.true_and, Bool.and_self, List.getElem?_cons_zero, List.getElem?_cons_succ, Nat.zero_add, Nat.add_zero, beq_self_eq_true, bne_self_eq_false, Int.reduceBNe, Int.reduceBEq, Int.reduceLT, Int.reduceGT, Int.reduceLE, Int.reduceGE, Nat.reduceAdd, Nat.reduceMul, Nat.reduceLeDiff, bc, g0, g1, h4, hch, g2, callK, yc, yn, OAn.way, OAn.cFrz, List.cons_append, List.nil_append, List.append_nil, e1, Int.ofNat_eq_natCast, hn, pair, hn2, lx, h3, bm, l29, l29n, t29, t29n, h29, hcm, hcn, hz, hset, sx, tx, addL]
end Go.Ab.tNearU
