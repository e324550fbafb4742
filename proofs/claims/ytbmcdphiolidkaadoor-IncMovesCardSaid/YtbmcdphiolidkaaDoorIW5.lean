/- How many coefficients of a block are not 0: both sides' totals. -/
import Derived.Test.YtbmcdphiolidkaaDoorIW4
set_option maxRecDepth 100000
set_option linter.unusedSimpArgs false
set_option linter.unusedVariables false
set_option linter.unusedSectionVars false
namespace Go.Ab.tNearU
open Go Go.Proofs

theorem ixF_is : ∀ {l : List Cd} {c : Cd} {i : Nat} (h : ixF l c = some i), ∃ hi : i < l.length, l[i] = c
  | [], _, _, h => by cases h
  | x :: l, c, i, h => by
    unfold ixF at h
    split at h
    · rename_i hx
      cases h
      exact ⟨by simp, hx⟩
    · cases hi : ixF l c with
      | none => rw [hi] at h; cases h
      | some j =>
        rw [hi] at h
        simp only [Option.map_some, Option.some.injEq] at h
        subst h
        obtain ⟨h1, h2⟩ := ixF_is hi
        exact ⟨by simp; omega, by simpa using h2⟩

def isNz : AV → Bool
  | .int _ n => n != 0
  | _ => false
def nzL (l : List AV) : Nat := (l.filter isNz).length
def nz (a : AV) : Nat := nzL (cut a)
theorem nz_nrm (a : AV) : nz (nrm a) = nz a ∨ ∃ cs, a = .is 0 cs := by
  cases a with
  | is n cs => cases n with
    | zero => exact .inr ⟨cs, rfl⟩
    | succ n => exact .inl rfl
  | _ => exact .inl rfl
theorem nz_nrm' {N : Nat} {a : AV} (h : Row N 1 a) : nz (nrm a) = nz a := by unfold nz; rw [cut_nrm h]
def alt (c : Cd) : Cd := if c = (1, 0, c.2.2) then (2, 0, c.2.2) else (1, 0, c.2.2)
def coefA (m : M) (c : Cd) : AV := match m.row c with
  | some r => r
  | none => if c.1 = 1 ∨ c.1 = 2 then (match m.row (alt c) with | some r => r | none => .nils) else .nils
theorem coef_good {m : M} (hg : Good 1000 m) (c : Cd) : Row 1000 1 (coefA m c) := by
  unfold coefA
  split
  · rename_i r h; exact row_good hg h
  · split
    · split
      · rename_i r h; exact row_good hg h
      · exact .inl rfl
    · exact .inl rfl
theorem luma_all : ((List.range 5).all fun a => isB (C1 f_count_luma 0 [.int .u8 (Int.ofNat a)] S0) (.bool (Nat.beq a 1 || Nat.beq a 2)) && isB (C1 f_count_luma 0 [.int .u8 (Int.ofNat a)] S0) (.bool (Nat.beq a 1 || Nat.beq a 2))) = true := by kernel_rfl
theorem luma_c {B : CallF} (hB : Known B) (k : Nat) {a : Nat} (ha : a < 5) (S : Heap) : Cn B k f_count_luma 0 [.int .u8 (a : Int)] S = some (.bool (Nat.beq a 1 || Nat.beq a 2), S) ∧ Cn B k f_count_luma 0 [.int .u8 (a : Int)] S = some (.bool (Nat.beq a 1 || Nat.beq a 2), S) := by
  have h := List.all_eq_true.1 luma_all a (List.mem_range.2 ha)
  rw [Bool.and_eq_true] at h
  exact ⟨known_sel hB rfl rfl rfl (isB_of h.1) k S, known_sel hB rfl rfl rfl (isB_of h.2) k S⟩
def exF (a b k : Nat) : Bool := match a with
  | 0 => Nat.beq b 0 && Nat.beq k 0
  | 1 => Nat.beq b 0 && Nat.blt k 16
  | 2 => Nat.beq b 0 && Nat.blt k 16
  | 3 => Nat.blt b 2 && Nat.beq k 0
  | 4 => Nat.blt b 2 && Nat.blt k 4
  | _ => false
theorem ex_all : ((List.range 5).all fun a => (List.range 2).all fun b => (List.range 16).all fun k => isB (C1 f_count_exists 0 [.agg [.int .u8 (Int.ofNat a), .int .u8 (Int.ofNat b), .int .i64 (Int.ofNat k)]] S0) (.bool (exF a b k)) && isB (C1 f_count_exists 0 [.agg [.int .u8 (Int.ofNat a), .int .u8 (Int.ofNat b), .int .i64 (Int.ofNat k)]] S0) (.bool (exF a b k))) = true := by kernel_rfl
/-- A block that may be asked for. -/
def CdOk (c : Cd) : Prop := c.1 < 5 ∧ c.2.1 < 2 ∧ c.2.2 < 16
theorem exists_c {B : CallF} (hB : Known B) (k : Nat) {c : Cd} (hc : CdOk c) (S : Heap) : Cn B k f_count_exists 0 [.agg (cdC c)] S = some (.bool (exF c.1 c.2.1 c.2.2), S) ∧ Cn B k f_count_exists 0 [.agg (cdC c)] S = some (.bool (exF c.1 c.2.1 c.2.2), S) := by
  have h := List.all_eq_true.1 (List.all_eq_true.1 (List.all_eq_true.1 ex_all c.1 (List.mem_range.2 hc.1)) c.2.1 (List.mem_range.2 hc.2.1)) c.2.2 (List.mem_range.2 hc.2.2)
  rw [Bool.and_eq_true] at h
  exact ⟨known_sel hB rfl rfl rfl (isB_of h.1) k S, known_sel hB rfl rfl rfl (isB_of h.2) k S⟩
theorem fz_row {N es : Nat} {a : AV} (h : Row N es a) (S : Heap) : fz 40 a S = some (a, S) := by obtain rfl | ⟨n, cs, rfl, _⟩ := h <;> rfl
theorem coef_c {B : CallF} (hB : Known B) (k : Nat) {m : M} (hg : Good 1000 m) (hb : Byt m) {c : Cd} (hc : CdOk c) (S : Heap) :
    Cn B (k + 3) f_count_coefficients 0 [.agg m.cells, .agg (cdC c)] S = some (coefA m c, S) := by
  rw [c_count_coefficients _ _ _ _ _ (hB.no _ _ _ _ (by decide)), T_count_coefficients]
  have l29 := M.len hg.pre
  have t29 : List.take 29 (List.drop 0 m.cells) = m.cells := by rw [List.drop_zero]; exact M.t29 hg.pre
  have l3 : (cdC c).length = 3 := rfl
  have t3 : List.take 3 (List.drop 0 (cdC c)) = cdC c := rfl
  have h29 : (29 : Nat) ≤ 29 := by omega
  have h3 : (3 : Nat) ≤ 3 := by omega
  have e1 := mbBlock_c hB k hg hb c S
  have g0 : (cdC c)[0]? = some (.int .u8 (c.1 : Int)) := rfl
  have g2 : (cdC c)[2]? = some (.int .i64 (c.2.2 : Int)) := rfl
  have e2 := (luma_c hB (k + 2) hc.1 S).1
  have e3 : aBin Tryd.prog .eql 52 (.agg (cdC c)) (.agg [.int .u8 1, .int .u8 0, .int .i64 (c.2.2 : Int)]) = some (.bool (decide (c = (1, 0, c.2.2)))) := eqlCd c (1, 0, c.2.2)
  have hfr := fz_row (coef_good hg c) S
  cases hr : m.row c with
  | some r =>
    rw [hr] at e1
    simp only at e1
    have hco : coefA m c = r := by unfold coefA; rw [hr]
    rw [hco] at hfr ⊢
    simp only [bO_s, gB_t, asBool_b, asInt_i, asAgg_a, asTup_a, asStr_s, asCons_c, nthA_0, nthA_s, aggCells_a, addV_p, seeV_p, seeV_i, same_nil, tr_same, eql4, neq4, decide_true, decide_false, Bool.false_eq_true, if_false, if_true, Bool.not_true, Bool.not_false, Bool.and_true, Bool.true_and, Bool.and_self, List.getElem?_cons_zero, List.getElem?_cons_succ, Nat.zero_add, Nat.add_zero, beq_self_eq_true, bne_self_eq_false, Int.reduceBNe, Int.reduceBEq, Int.reduceLT, Int.reduceGT, Int.reduceLE, Int.reduceGE, Nat.reduceAdd, Nat.reduceMul, Nat.reduceLeDiff, l29, l3, t29, t3, h29, h3, e1, hfr]
  | none =>
    rw [hr] at e1
    simp only at e1
    by_cases hl : c.1 = 1 ∨ c.1 = 2
    · have hlb : (Nat.beq c.1 1 || Nat.beq c.1 2) = true := by rcases hl with h | h <;> rw [h] <;> rfl
      rw [hlb] at e2
      have e4 := mbBlock_c hB k hg hb (alt c) S
      have hco : coefA m c = (match m.row (alt c) with | some r => r | none => .nils) := by unfold coefA; rw [hr]; simp only [if_pos hl]
      rw [hco] at hfr ⊢
      have l3' : ([.int .u8 2, .int .u8 0, .int .i64 (c.2.2 : Int)] : List AV).length = 3 := rfl
      have l3'' : ([.int .u8 1, .int .u8 0, .int .i64 (c.2.2 : Int)] : List AV).length = 3 := rfl
      have t3' : ∀ x : Int, List.take 3 (List.drop 0 ([.int .u8 x, .int .u8 0, .int .i64 (c.2.2 : Int)] : List AV)) = [.int .u8 x, .int .u8 0, .int .i64 (c.2.2 : Int)] := fun _ => rfl
      by_cases ha : c = (1, 0, c.2.2)
      · have hal : alt c = (2, 0, c.2.2) := by unfold alt; rw [if_pos ha]
        have hdt : decide (c = (1, 0, c.2.2)) = true := decide_eq_true ha
        rw [hdt] at e3
        have e4' : Cn B (k + 2) f_mb_Block 0 [.agg m.cells, .agg [.int .u8 2, .int .u8 0, .int .i64 (c.2.2 : Int)]] S = some (match m.row (alt c) with | some r => .tup [r, .bool true] | none => .tup [.nils, .bool false], S) := by rw [hal] at e4 ⊢; exact e4
        cases hr2 : m.row (alt c) with
        | some r =>
          rw [hr2] at e4' hfr
          simp only at e4' hfr
          simp only [bO_s, gB_t, asBool_b, asInt_i, asAgg_a, asTup_a, asStr_s, asCons_c, nthA_0, nthA_s, aggCells_a, addV_p, seeV_p, seeV_i, same_nil, tr_same, eql4, neq4, decide_true, decide_false, Bool.false_eq_true, if_false, if_true, Bool.not_true, Bool.not_false, Bool.and_true, Bool.true_and, Bool.and_self, List.getElem?_cons_zero, List.getElem?_cons_succ, Nat.zero_add, Nat.add_zero, beq_self_eq_true, bne_self_eq_false, Int.reduceBNe, Int.reduceBEq, Int.reduceLT, Int.reduceGT, Int.reduceLE, Int.reduceGE, Nat.reduceAdd, Nat.reduceMul, Nat.reduceLeDiff, l29, l3, t29, t3, h29, h3, e1, g0, g2, e2, e3, l3', t3', e4', hfr]
        | none =>
          rw [hr2] at e4' hfr
          simp only at e4' hfr
          simp only [bO_s, gB_t, asBool_b, asInt_i, asAgg_a, asTup_a, asStr_s, asCons_c, nthA_0, nthA_s, aggCells_a, addV_p, seeV_p, seeV_i, same_nil, tr_same, eql4, neq4, decide_true, decide_false, Bool.false_eq_true, if_false, if_true, Bool.not_true, Bool.not_false, Bool.and_true, Bool.true_and, Bool.and_self, List.getElem?_cons_zero, List.getElem?_cons_succ, Nat.zero_add, Nat.add_zero, beq_self_eq_true, bne_self_eq_false, Int.reduceBNe, Int.reduceBEq, Int.reduceLT, Int.reduceGT, Int.reduceLE, Int.reduceGE, Nat.reduceAdd, Nat.reduceMul, Nat.reduceLeDiff, l29, l3, t29, t3, h29, h3, e1, g0, g2, e2, e3, l3', t3', e4', hfr]
      · have hal : alt c = (1, 0, c.2.2) := by unfold alt; rw [if_neg ha]
        have hdt : decide (c = (1, 0, c.2.2)) = false := decide_eq_false ha
        rw [hdt] at e3
        have e4' : Cn B (k + 2) f_mb_Block 0 [.agg m.cells, .agg [.int .u8 1, .int .u8 0, .int .i64 (c.2.2 : Int)]] S = some (match m.row (alt c) with | some r => .tup [r, .bool true] | none => .tup [.nils, .bool false], S) := by rw [hal] at e4 ⊢; exact e4
        cases hr2 : m.row (alt c) with
        | some r =>
          rw [hr2] at e4' hfr
          simp only at e4' hfr
          simp only [bO_s, gB_t, asBool_b, asInt_i, asAgg_a, asTup_a, asStr_s, asCons_c, nthA_0, nthA_s, aggCells_a, addV_p, seeV_p, seeV_i, same_nil, tr_same, eql4, neq4, decide_true, decide_false, Bool.false_eq_true, if_false, if_true, Bool.not_true, Bool.not_false, Bool.and_true, Bool.true_and, Bool.and_self, List.getElem?_cons_zero, List.getElem?_cons_succ, Nat.zero_add, Nat.add_zero, beq_self_eq_true, bne_self_eq_false, Int.reduceBNe, Int.reduceBEq, Int.reduceLT, Int.reduceGT, Int.reduceLE, Int.reduceGE, Nat.reduceAdd, Nat.reduceMul, Nat.reduceLeDiff, l29, l3, t29, t3, h29, h3, e1, g0, g2, e2, e3, l3'', t3', e4', hfr]
        | none =>
          rw [hr2] at e4' hfr
          simp only at e4' hfr
          simp only [bO_s, gB_t, asBool_b, asInt_i, asAgg_a, asTup_a, asStr_s, asCons_c, nthA_0, nthA_s, aggCells_a, addV_p, seeV_p, seeV_i, same_nil, tr_same, eql4, neq4, decide_true, decide_false, Bool.false_eq_true, if_false, if_true, Bool.not_true, Bool.not_false, Bool.and_true, Bool.true_and, Bool.and_self, List.getElem?_cons_zero, List.getElem?_cons_succ, Nat.zero_add, Nat.add_zero, beq_self_eq_true, bne_self_eq_false, Int.reduceBNe, Int.reduceBEq, Int.reduceLT, Int.reduceGT, Int.reduceLE, Int.reduceGE, Nat.reduceAdd, Nat.reduceMul, Nat.reduceLeDiff, l29, l3, t29, t3, h29, h3, e1, g0, g2, e2, e3, l3'', t3', e4', hfr]
    · have hlb : (Nat.beq c.1 1 || Nat.beq c.1 2) = false := by
        cases hx : (Nat.beq c.1 1 || Nat.beq c.1 2) with
        | false => rfl
        | true =>
          rw [Bool.or_eq_true] at hx
          exact absurd (hx.imp Nat.eq_of_beq_eq_true Nat.eq_of_beq_eq_true) hl
      rw [hlb] at e2
      have hco : coefA m c = .nils := by unfold coefA; rw [hr]; simp only [if_neg hl]
      rw [hco] at hfr ⊢
      simp only [bO_s, gB_t, asBool_b, asInt_i, asAgg_a, asTup_a, asStr_s, asCons_c, nthA_0, nthA_s, aggCells_a, addV_p, seeV_p, seeV_i, same_nil, tr_same, eql4, neq4, decide_true, decide_false, Bool.false_eq_true, if_false, if_true, Bool.not_true, Bool.not_false, Bool.and_true, Bool.true_and, Bool.and_self, List.getElem?_cons_zero, List.getElem?_cons_succ, Nat.zero_add, Nat.add_zero, beq_self_eq_true, bne_self_eq_false, Int.reduceBNe, Int.reduceBEq, Int.reduceLT, Int.reduceGT, Int.reduceLE, Int.reduceGE, Nat.reduceAdd, Nat.reduceMul, Nat.reduceLeDiff, l29, l3, t29, t3, h29, h3, e1, g0, e2, hfr]
/-- The total of a block. -/
def tot (m : M) (c : Cd) : Nat := if exF c.1 c.2.1 c.2.2 = false then 0 else if m.kind = 2 then 16 else nz (coefA m c)
theorem nzL_take (l : List AV) {i : Nat} (h : i < l.length) : nzL (l.take (i + 1)) = nzL (l.take i) + (if isNz l[i] = true then 1 else 0) := by
  rw [List.take_add_one, List.getElem?_eq_getElem h, Option.toList_some]
  unfold nzL
  rw [List.filter_append, List.length_append]
  congr 1
  simp only [List.filter_cons, List.filter_nil]
  split <;> rfl
theorem kind_0 {m : M} (hg : Good 1000 m) (hb : Byt m) : m.cells[0]? = some (.int .u8 (m.kind : Int)) := by
  obtain ⟨p, hp⟩ := pre23 hg.pre
  have hk := hb.k
  unfold M.cells M.kind
  rw [hp] at hk ⊢
  simp only [List.headD_cons] at hk ⊢
  simp only [List.map_cons, List.cons_append, List.getElem?_cons_zero]
  rw [Int.toNat_of_nonneg hk.1]
theorem nz_le {N : Nat} {a : AV} (h : Row N 1 a) : ∀ i, nzL ((cut a).take i) ≤ i := fun i => by
  unfold nzL
  exact Nat.le_trans (List.length_filter_le _ _) (by rw [List.length_take]; omega)
theorem total_c {B : CallF} (hB : Known B) (k : Nat) {m : M} (hg : Good 1000 m) (hb : Byt m) {c : Cd} (hc : CdOk c) (S : Heap) :
    Cn B (k + 4) f_count_Total 0 [.agg m.cells, .agg (cdC c)] S = some (.int .i64 (tot m c : Int), S) := by
  rw [c_count_Total _ _ _ _ _ (hB.no _ _ _ _ (by decide)), T_count_Total]
  have l29 := M.len hg.pre
  have t29 : List.take 29 (List.drop 0 m.cells) = m.cells := by rw [List.drop_zero]; exact M.t29 hg.pre
  have l3 : (cdC c).length = 3 := rfl
  have t3 : List.take 3 (List.drop 0 (cdC c)) = cdC c := rfl
  have h29 : (29 : Nat) ≤ 29 := by omega
  have h3 : (3 : Nat) ≤ 3 := by omega
  have e1 := (exists_c hB (k + 3) hc S).1
  have g0 := kind_0 hg hb
  unfold tot
  cases hex : exF c.1 c.2.1 c.2.2 with
  | false =>
    rw [hex] at e1
    simp only [bO_s, gB_t, asBool_b, asInt_i, asAgg_a, asTup_a, asStr_s, asCons_c, nthA_0, nthA_s, aggCells_a, addV_p, seeV_p, seeV_i, same_nil, tr_same, eql4, neq4, decide_true, decide_false, Bool.false_eq_true, if_false, if_true, Bool.not_true, Bool.not_false, Bool.and_true, Bool.true_and, Bool.and_self, List.getElem?_cons_zero, List.getElem?_cons_succ, Nat.zero_add, Nat.add_zero, beq_self_eq_true, bne_self_eq_false, Int.reduceBNe, Int.reduceBEq, Int.reduceLT, Int.reduceGT, Int.reduceLE, Int.reduceGE, Nat.reduceAdd, Nat.reduceMul, Nat.reduceLeDiff, l29, l3, t3, h3, e1]
    rfl
  | true =>
    rw [hex] at e1
    by_cases h2 : m.kind = 2
    · have h2b : ((m.kind : Int) == 2) = true := by rw [h2]; rfl
      simp only [bO_s, gB_t, asBool_b, asInt_i, asAgg_a, asTup_a, asStr_s, asCons_c, nthA_0, nthA_s, aggCells_a, addV_p, seeV_p, seeV_i, same_nil, tr_same, eql4, neq4, decide_true, decide_false, Bool.false_eq_true, if_false, if_true, Bool.not_true, Bool.not_false, Bool.and_true, Bool.true_and, Bool.and_self, List.getElem?_cons_zero, List.getElem?_cons_succ, Nat.zero_add, Nat.add_zero, beq_self_eq_true, bne_self_eq_false, Int.reduceBNe, Int.reduceBEq, Int.reduceLT, Int.reduceGT, Int.reduceLE, Int.reduceGE, Nat.reduceAdd, Nat.reduceMul, Nat.reduceLeDiff, l29, l3, t3, h3, e1, g0, h2b, h2]
      rfl
    · have h2b : ((m.kind : Int) == 2) = false := by simp; omega
      have e2 := coef_c hB k hg hb hc S
      have hrw := coef_good hg c
      obtain ⟨n, q1, q2, q3, q4⟩ := len25 hrw (by omega)
      rw [Nat.mul_one] at q2
      rw [if_neg (by simp), if_neg h2]
      simp only [bO_s, gB_t, asBool_b, asInt_i, asAgg_a, asTup_a, asStr_s, asCons_c, nthA_0, nthA_s, aggCells_a, addV_p, seeV_p, seeV_i, same_nil, tr_same, eql4, neq4, decide_true, decide_false, Bool.false_eq_true, if_false, if_true, Bool.not_true, Bool.not_false, Bool.and_true, Bool.true_and, Bool.and_self, List.getElem?_cons_zero, List.getElem?_cons_succ, Nat.zero_add, Nat.add_zero, beq_self_eq_true, bne_self_eq_false, Int.reduceBNe, Int.reduceBEq, Int.reduceLT, Int.reduceGT, Int.reduceLE, Int.reduceGE, Nat.reduceAdd, Nat.reduceMul, Nat.reduceLeDiff, l29, l3, t3, t29, h29, h3, e1, g0, h2b, e2, q3]
      refine loop_to (fun i s => s = ([.int .i64 (nzL ((cut (coefA m c)).take i) : Int), coefA m c, .int .i64 (n : Int), .int .i64 (i : Int)], S)) (fun x => x = (0, [.int .i64 (nz (coefA m c) : Int)], S)) n (by simp [nzL]) ?_ ?_
      · rintro i s hi rfl
        by_cases hin : i < n
        · have hlt : (i : Int) < (n : Int) := by omega
          have hil : i < (cut (coefA m c)).length := by omega
          obtain ⟨v, hv⟩ := Row.ints hrw _ (List.getElem_mem hil)
          have hd : ((cut (coefA m c)).drop (i * 1))[0]? = some (.int .i64 v) := by
            rw [List.getElem?_drop, Nat.add_zero, Nat.mul_one, List.getElem?_eq_getElem hil, hv]
          have hw : IntKind.wrap .i64 ((i : Int) + 1) = ((i + 1 : Nat) : Int) := by rw [wr _ (by omega)]; omega
          have hnl := nz_le hrw i
          have hs := nzL_take (cut (coefA m c)) hil
          rw [hv] at hs
          by_cases hz : v = 0
          · have hzb : (v != 0) = false := by simp [hz]
            have : nzL ((cut (coefA m c)).take (i + 1)) = nzL ((cut (coefA m c)).take i) := by
              rw [hs]; simp [isNz, hz]
            rw [this]
            exact .inr ⟨hin, _, by simp only [bO_s, gB_t, asBool_b, asInt_i, asAgg_a, asTup_a, asStr_s, asCons_c, nthA_0, nthA_s, aggCells_a, addV_p, seeV_p, seeV_i, same_nil, tr_same, eql4, neq4, decide_true, decide_false, Bool.false_eq_true, if_false, if_true, Bool.not_true, Bool.not_false, Bool.and_true, Bool.true_and, Bool.and_self, List.getElem?_cons_zero, List.getElem?_cons_succ, Nat.zero_add, Nat.add_zero, beq_self_eq_true, bne_self_eq_false, Int.reduceBNe, Int.reduceBEq, Int.reduceLT, Int.reduceGT, Int.reduceLE, Int.reduceGE, Nat.reduceAdd, Nat.reduceMul, Nat.reduceLeDiff, hlt, q4 i hin, hd, hzb, hw], rfl⟩
          · have hzb : (v != 0) = true := by simp [hz]
            have : nzL ((cut (coefA m c)).take (i + 1)) = nzL ((cut (coefA m c)).take i) + 1 := by
              rw [hs]; simp [isNz, hz]
            rw [this]
            have hw2 : IntKind.wrap .i64 ((nzL ((cut (coefA m c)).take i) : Int) + 1) = ((nzL ((cut (coefA m c)).take i) + 1 : Nat) : Int) := by rw [wr _ (by omega)]; omega
            exact .inr ⟨hin, _, by simp only [bO_s, gB_t, asBool_b, asInt_i, asAgg_a, asTup_a, asStr_s, asCons_c, nthA_0, nthA_s, aggCells_a, addV_p, seeV_p, seeV_i, same_nil, tr_same, eql4, neq4, decide_true, decide_false, Bool.false_eq_true, if_false, if_true, Bool.not_true, Bool.not_false, Bool.and_true, Bool.true_and, Bool.and_self, List.getElem?_cons_zero, List.getElem?_cons_succ, Nat.zero_add, Nat.add_zero, beq_self_eq_true, bne_self_eq_false, Int.reduceBNe, Int.reduceBEq, Int.reduceLT, Int.reduceGT, Int.reduceLE, Int.reduceGE, Nat.reduceAdd, Nat.reduceMul, Nat.reduceLeDiff, hlt, q4 i hin, hd, hzb, hw, hw2], rfl⟩
        · have hie : i = n := by omega
          subst hie
          have hlt : ¬ (i : Int) < (i : Int) := by omega
          refine .inl ⟨(0, [.int .i64 (nzL ((cut (coefA m c)).take i) : Int)], S), by simp only [bO_s, gB_t, asBool_b, asInt_i, asAgg_a, asTup_a, asStr_s, asCons_c, nthA_0, nthA_s, aggCells_a, addV_p, seeV_p, seeV_i, same_nil, tr_same, eql4, neq4, decide_true, decide_false, Bool.false_eq_true, if_false, if_true, Bool.not_true, Bool.not_false, Bool.and_true, Bool.true_and, Bool.and_self, List.getElem?_cons_zero, List.getElem?_cons_succ, Nat.zero_add, Nat.add_zero, beq_self_eq_true, bne_self_eq_false, Int.reduceBNe, Int.reduceBEq, Int.reduceLT, Int.reduceGT, Int.reduceLE, Int.reduceGE, Nat.reduceAdd, Nat.reduceMul, Nat.reduceLeDiff, hlt], ?_⟩
          unfold nz
          rw [List.take_of_length_le (by omega)]
      · rintro x rfl
        simp only [bO_s, gB_t, asBool_b, asInt_i, asAgg_a, asTup_a, asStr_s, asCons_c, nthA_0, nthA_s, aggCells_a, addV_p, seeV_p, seeV_i, same_nil, tr_same, eql4, neq4, decide_true, decide_false, Bool.false_eq_true, if_false, if_true, Bool.not_true, Bool.not_false, Bool.and_true, Bool.true_and, Bool.and_self, List.getElem?_cons_zero, List.getElem?_cons_succ, Nat.zero_add, Nat.add_zero, beq_self_eq_true, bne_self_eq_false, Int.reduceBNe, Int.reduceBEq, Int.reduceLT, Int.reduceGT, Int.reduceLE, Int.reduceGE, Nat.reduceAdd, Nat.reduceMul, Nat.reduceLeDiff, sel]
end Go.Ab.tNearU
