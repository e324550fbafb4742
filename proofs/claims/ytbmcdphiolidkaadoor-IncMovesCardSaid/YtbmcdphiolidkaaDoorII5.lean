/- What Block returns. -/
import Derived.Test.YtbmcdphiolidkaaDoorII4
set_option maxRecDepth 100000
set_option linter.unusedSimpArgs false
set_option linter.unusedVariables false
set_option linter.unusedSectionVars false
namespace Go.Ab.tNearU
open Go Go.Proofs

def bstep (ab : Bool) (c : Cd) : Nat × Bool := if c.1 = 1 ∨ c.1 = 2 then stp false ab c.2.2 else if c.1 = 4 then stp true ab c.2.2 else (c.2.2, false)
def bcd (ab : Bool) (c : Cd) : Cd := (c.1, c.2.1, (bstep ab c).1)
def bside (m : M) (nb : M × Bool) (ab : Bool) (c : Cd) : Bool := if (bstep ab c).2 = true then decide (tot m (bcd ab c) > 0) else if nb.2 = true then decide (tot nb.1 (bcd ab c) > 0) else Nat.ble m.kind 2
def addB (T : Heap) (ps s wt : Nat) (b : Bool) : Heap := match b with
  | true => T.set ps (some [.int .i64 ((s + wt : Nat) : Int)])
  | false => T
theorem bcd_ok {ab : Bool} {c : Cd} (hc : CdEx c) : CdOk (bcd ab c) := by
  refine ⟨hc.1.1, hc.1.2.1, ?_⟩
  show (bstep ab c).1 < 16
  unfold bstep
  split
  · exact stp_lt ab _ hc.1.2.2
  · split
    · rename_i h4
      have := hc.ch (by unfold isCh; rw [h4]; rfl)
      have := stp_lt4 ab _ this
      omega
    · exact hc.1.2.2
set_option maxHeartbeats 1000000 in
theorem incBlock1_c {B : CallF} (hB : Known B) (k : Nat) {T : Heap} {m : M} (hg : Good 1000 m) (hb : Byt m) {c : Cd} (hc : CdEx c) {fl fc fn : Nat} (yl : ¬ yldId ≤ fl) (yc : ¬ yldId ≤ fc) (yn : ¬ yldId ≤ fn) {ab : Bool} {nb : M × Bool} (gn : Good 1000 nb.1) (bn : Byt nb.1)
    (hl : ∀ j : Nat, j < 16 → Cn B (k + 4) fl 0 [.int .i64 (j : Int)] T = some (stpA false ab j, T)) (hcl : ∀ j : Nat, j < 4 → Cn B (k + 4) fc 0 [.int .i64 (j : Int)] T = some (stpA true ab j, T)) {arg : AV} (hn : Cn B (k + 4) fn 0 [arg] T = some (pair nb, T))
    {pc pm ps s wt : Nat} (bc : T.blk pc = some (cdC c)) (bm : T.blk pm = some m.cells) (bs : T.blk ps = some [.int .i64 (s : Int)]) (hs : s ≤ 10) (hw : wt ≤ 10) (hw0 : 0 < wt) (lt : ps < T.next) :
    Cn B (k + 5) f_inc_Block_1 0 [.fn fl [] [], .fn fc [] [], .fn fn [arg] [], .int .i64 (wt : Int), .ptr pc 0, .ptr pm 0, .ptr ps 0] T = some (.tup [], addB T ps s wt (bside m nb ab c)) := by
  rw [c_inc_Block_1 _ _ _ _ _ _ _ _ _ _ (hB.no _ _ _ _ (by decide)), T_inc_Block_1]
  have l29 := M.len hg.pre
  have l29n := M.len gn.pre
  have t29 : List.take 29 m.cells = m.cells := M.t29 hg.pre
  have t29n : List.take 29 nb.1.cells = nb.1.cells := M.t29 gn.pre
  have h29 : (29 : Nat) ≤ 29 := by omega
  have h3 : (3 : Nat) ≤ 3 := by omega
  have lc : (cdC c).length = 3 := rfl
  have tc : List.take 3 (cdC c) = cdC c := rfl
  have cc : (cdC c).all cell = true := rfl
  have zc : setCells [.int .u8 0, .int .u8 0, .int .i64 0] 0 (cdC c) = cdC c := rfl
  have g0 : (cdC c)[0]? = some (.int .u8 (c.1 : Int)) := rfl
  have g2 : (cdC c)[2]? = some (.int .i64 (c.2.2 : Int)) := rfl
  have hz := M.z hg.pre
  have hcm := hg.cell
  have hcn := gn.cell
  have hset : setCells m.cells 0 nb.1.cells = nb.1.cells := setCells_all (by rw [l29, l29n])
  have sc : ∀ j : Nat, setCells (cdC c) 2 [.int .i64 (j : Int)] = cdC (c.1, c.2.1, j) := fun _ => rfl
  have ld : ∀ d : Cd, (cdC d).length = 3 := fun _ => rfl
  have td : ∀ d : Cd, List.take 3 (cdC d) = cdC d := fun _ => rfl
  have km0 := kind_0 hg hb
  have qi := (kinds3_c hB (k + 4) (kind_le hb) T).2.2
  have pps : putV (.ptr ps 0) [.int .i64 ((s + wt : Nat) : Int)] T = some (T.set ps (some [.int .i64 ((s + wt : Nat) : Int)])) := by simp [putV, bs, setCells]
  have wsum : IntKind.wrap .i64 ((s : Int) + (wt : Int)) = ((s + wt : Nat) : Int) := by rw [wr _ (by omega)]; omega
  have htr : ctlW.tr T (.tup []) (T.set ps (some [.int .i64 ((s + wt : Nat) : Int)])) = (.tup [], T.set ps (some [.int .i64 ((s + wt : Nat) : Int)])) := tr_ne ps lt (by
    rw [set_blk, bs]
    intro h
    simp only [Option.some.injEq, List.cons.injEq, AV.int.injEq, true_and, and_true] at h
    omega)
  have hdo := bcd_ok (ab := ab) hc
  have t1 := total_c hB k hg hb hdo T
  have t2 := total_c hB k gn bn hdo T
  have callN : ∀ (K : AV → Heap → Option LSt), callK (Cn B (k + 4)) .none (.fn fn [arg] []) [] T K = K (pair nb) T := fun K => by
    unfold callK
    simp only [if_neg yn]
    show bO (Cn B (k + 4) fn 0 [arg] T) _ = _
    rw [hn]; rfl
  -- the end of both ways
  have fin : ∀ (x : M) (is : Bool) (d : Cd), (is = true → (Cn B (k + 4) f_count_Total 0 [.agg x.cells, .agg (cdC d)] T = some (.int .i64 (tot x d : Int), T))) → x.cells.length = 29 → List.take 29 x.cells = x.cells → ∀ b, b = (if is = true then decide (tot x d > 0) else Nat.ble m.kind 2) →
      bO (α := LSt) (if (!is) = true then bO (addV (.ptr pm 0) 0) fun t64 => bO (seeV t64 T) fun t65 => bO (t65.1[t65.2]?) fun t66 => asInt .u8 t66 fun i67 => bO (Cn B (k + 4) f_kinds_Intra 0 [.int .u8 i67] T) fun t68 => asBool t68.1 fun b69 => if b69 = true then some ([.int .i64 (wt : Int), .ptr ps 0, .bool true], t68.2) else if is = true then gB (decide (29 ≤ List.length x.cells)) (gB (decide (3 ≤ List.length (cdC d))) (bO (Cn B (k + 4) f_count_Total 0 [.agg (List.take 29 x.cells), .agg (List.take 3 (cdC d))] t68.2) fun t70 => asInt .i64 t70.1 fun i71 => some ([.int .i64 (wt : Int), .ptr ps 0, .bool (decide ((i71 : Int) > 0))], t70.2))) else some ([.int .i64 (wt : Int), .ptr ps 0, .bool false], t68.2) else if is = true then gB (decide (29 ≤ List.length x.cells)) (gB (decide (3 ≤ List.length (cdC d))) (bO (Cn B (k + 4) f_count_Total 0 [.agg (List.take 29 x.cells), .agg (List.take 3 (cdC d))] T) fun t72 => asInt .i64 t72.1 fun i73 => some ([.int .i64 (wt : Int), .ptr ps 0, .bool (decide ((i73 : Int) > 0))], t72.2))) else some ([.int .i64 (wt : Int), .ptr ps 0, .bool false], T)) (fun r63 => asInt .i64 (nthA r63.1 0) fun i74 => asBool (nthA r63.1 2) fun b75 => if b75 = true then bO (seeV (nthA r63.1 1) r63.2) fun t76 => bO (t76.1[t76.2]?) fun t77 => asInt .i64 t77 fun i78 => bO (putV (nthA r63.1 1) [.int .i64 (IntKind.wrap .i64 (i78 + i74))] r63.2) fun t79 => some (ctlW.tr T (.tup []) t79) else some (ctlW.tr T (.tup []) r63.2)) = some (.tup [], addB T ps s wt b) := by
    intro x is d hx hxl hxt b hbv
    subst hbv
    cases is with
    | false =>
      cases hi : Nat.ble m.kind 2 with
      | true =>
        rw [hi] at qi
        simp only [bO_s, gB_t, asBool_b, asInt_i, asAgg_a, asTup_a, asStr_s, asCons_c, nthA_0, nthA_s, aggCells_a, addV_p, seeV_p, seeV_i, same_nil, tr_same, eql4, neq4, decide_true, decide_false, Bool.false_eq_true, if_false, if_true, Bool.not_true, Bool.not_false, Bool.and_true, Bool.true_and, Bool.and_self, List.getElem?_cons_zero, List.getElem?_cons_succ, Nat.zero_add, Nat.add_zero, beq_self_eq_true, bne_self_eq_false, Int.reduceBNe, Int.reduceBEq, Int.reduceLT, Int.reduceGT, Int.reduceLE, Int.reduceGE, Nat.reduceAdd, Nat.reduceMul, Nat.reduceLeDiff, bm, km0, qi, bs, wsum, pps, htr, addB]
      | false =>
        rw [hi] at qi
        simp only [bO_s, gB_t, asBool_b, asInt_i, asAgg_a, asTup_a, asStr_s, asCons_c, nthA_0, nthA_s, aggCells_a, addV_p, seeV_p, seeV_i, same_nil, tr_same, eql4, neq4, decide_true, decide_false, Bool.false_eq_true, if_false, if_true, Bool.not_true, Bool.not_false, Bool.and_true, Bool.true_and, Bool.and_self, List.getElem?_cons_zero, List.getElem?_cons_succ, Nat.zero_add, Nat.add_zero, beq_self_eq_true, bne_self_eq_false, Int.reduceBNe, Int.reduceBEq, Int.reduceLT, Int.reduceGT, Int.reduceLE, Int.reduceGE, Nat.reduceAdd, Nat.reduceMul, Nat.reduceLeDiff, bm, km0, qi, addB]
    | true =>
      have hx' := hx rfl
      by_cases hp : tot x d > 0
      · have hp' : (tot x d : Int) > 0 := by omega
        simp only [bO_s, gB_t, asBool_b, asInt_i, asAgg_a, asTup_a, asStr_s, asCons_c, nthA_0, nthA_s, aggCells_a, addV_p, seeV_p, seeV_i, same_nil, tr_same, eql4, neq4, decide_true, decide_false, Bool.false_eq_true, if_false, if_true, Bool.not_true, Bool.not_false, Bool.and_true, Bool.true_and, Bool.and_self, List.getElem?_cons_zero, List.getElem?_cons_succ, Nat.zero_add, Nat.add_zero, beq_self_eq_true, bne_self_eq_false, Int.reduceBNe, Int.reduceBEq, Int.reduceLT, Int.reduceGT, Int.reduceLE, Int.reduceGE, Nat.reduceAdd, Nat.reduceMul, Nat.reduceLeDiff, hxl, hxt, h29, ld, td, h3, hx', hp, hp', bs, wsum, pps, htr, addB]
      · have hp' : ¬ ((tot x d : Int) > 0) := by omega
        simp only [bO_s, gB_t, asBool_b, asInt_i, asAgg_a, asTup_a, asStr_s, asCons_c, nthA_0, nthA_s, aggCells_a, addV_p, seeV_p, seeV_i, same_nil, tr_same, eql4, neq4, decide_true, decide_false, Bool.false_eq_true, if_false, if_true, Bool.not_true, Bool.not_false, Bool.and_true, Bool.true_and, Bool.and_self, List.getElem?_cons_zero, List.getElem?_cons_succ, Nat.zero_add, Nat.add_zero, beq_self_eq_true, bne_self_eq_false, Int.reduceBNe, Int.reduceBEq, Int.reduceLT, Int.reduceGT, Int.reduceLE, Int.reduceGE, Nat.reduceAdd, Nat.reduceMul, Nat.reduceLeDiff, hxl, hxt, h29, ld, td, h3, hx', hp, hp', addB]
  simp only [bO_s, gB_t, asBool_b, asInt_i, asAgg_a, asTup_a, asStr_s, asCons_c, nthA_0, nthA_s, aggCells_a, addV_p, seeV_p, seeV_i, same_nil, tr_same, eql4, neq4, decide_true, decide_false, Bool.false_eq_true, if_false, if_true, Bool.not_true, Bool.not_false, Bool.and_true, Bool.true_and, Bool.and_self, List.getElem?_cons_zero, List.getElem?_cons_succ, Nat.zero_add, Nat.add_zero, beq_self_eq_true, bne_self_eq_false, Int.reduceBNe, Int.reduceBEq, Int.reduceLT, Int.reduceGT, Int.reduceLE, Int.reduceGE, Nat.reduceAdd, Nat.reduceMul, Nat.reduceLeDiff, bc, lc, tc, List.drop_zero, h3, cc, zc, g0]
  have hl5 := hc.1.1
  unfold bside
  have hnil : ∀ K : LSt → Option (AV × Heap), K = K := fun _ => rfl
  by_cases h12 : c.1 = 1 ∨ c.1 = 2
  · have hst : bstep ab c = stp false ab c.2.2 := by unfold bstep; rw [if_pos h12]
    have e1 := hl c.2.2 hc.1.2.2
    unfold stpA at e1
    have hb1 : ∀ (a b : LSt), (if ((c.1 : Int) == 1) = true then some (a, b) else some (a, b)) = some (a, b) := fun a b => by split <;> rfl
    have hon : ((c.1 : Int) == 1) = true ∨ (((c.1 : Int) == 1) = false ∧ ((c.1 : Int) == 2) = true) := by
      rcases h12 with h | h
      · left; rw [h]; rfl
      · right; rw [h]; exact ⟨rfl, rfl⟩
    have callL : ∀ (K : AV → Heap → Option LSt), callK (Cn B (k + 4)) .none (.fn fl [] []) [.int .i64 (c.2.2 : Int)] T K = K (.tup [.int .i64 (Int.ofNat (stp false ab c.2.2).1), .bool (stp false ab c.2.2).2, .int .i64 0]) T := fun K => by
      unfold callK
      simp only [if_neg yl]
      show bO (Cn B (k + 4) fl 0 [.int .i64 (c.2.2 : Int)] T) _ = _
      rw [e1]; rfl
    have hbd : bcd ab c = (c.1, c.2.1, (stp false ab c.2.2).1) := by unfold bcd; rw [hst]
    rw [hst]
    rw [hbd] at t1 t2 ⊢
    have scj := sc (stp false ab c.2.2).1
    rw [show (((stp false ab c.2.2).1 : Nat) : Int) = Int.ofNat (stp false ab c.2.2).1 from rfl] at scj
    generalize (stp false ab c.2.2).1 = j at *
    cases hsame : (stp false ab c.2.2).2 with
    | true =>
      have f1 := fin m true (c.1, c.2.1, j) (fun _ => t1) l29 t29 _ rfl
      rcases hon with ho | ⟨ho, ho2⟩
      · simp only [bO_s, gB_t, asBool_b, asInt_i, asAgg_a, asTup_a, asStr_s, asCons_c, nthA_0, nthA_s, aggCells_a, addV_p, seeV_p, seeV_i, same_nil, tr_same, eql4, neq4, decide_true, decide_false, Bool.false_eq_true, if_false, if_true, Bool.not_true, Bool.not_false, Bool.and_true, Bool.true_and, Bool.and_self, List.getElem?_cons_zero, List.getElem?_cons_succ, Nat.zero_add, Nat.add_zero, beq_self_eq_true, bne_self_eq_false, Int.reduceBNe, Int.reduceBEq, Int.reduceLT, Int.reduceGT, Int.reduceLE, Int.reduceGE, Nat.reduceAdd, Nat.reduceMul, Nat.reduceLeDiff, ho, bc, g2, callL, hsame, lc, h3, scj, bm, l29, t29, h29, hcm, hz, List.drop_zero] at f1 ⊢
        exact f1
      · simp only [bO_s, gB_t, asBool_b, asInt_i, asAgg_a, asTup_a, asStr_s, asCons_c, nthA_0, nthA_s, aggCells_a, addV_p, seeV_p, seeV_i, same_nil, tr_same, eql4, neq4, decide_true, decide_false, Bool.false_eq_true, if_false, if_true, Bool.not_true, Bool.not_false, Bool.and_true, Bool.true_and, Bool.and_self, List.getElem?_cons_zero, List.getElem?_cons_succ, Nat.zero_add, Nat.add_zero, beq_self_eq_true, bne_self_eq_false, Int.reduceBNe, Int.reduceBEq, Int.reduceLT, Int.reduceGT, Int.reduceLE, Int.reduceGE, Nat.reduceAdd, Nat.reduceMul, Nat.reduceLeDiff, ho, ho2, bc, g2, callL, hsame, lc, h3, scj, bm, l29, t29, h29, hcm, hz, List.drop_zero] at f1 ⊢
        exact f1
    | false =>
      have f1 := fin nb.1 nb.2 (c.1, c.2.1, j) (fun _ => t2) l29n t29n _ rfl
      unfold pair at callN
      rcases hon with ho | ⟨ho, ho2⟩
      · simp only [bO_s, gB_t, asBool_b, asInt_i, asAgg_a, asTup_a, asStr_s, asCons_c, nthA_0, nthA_s, aggCells_a, addV_p, seeV_p, seeV_i, same_nil, tr_same, eql4, neq4, decide_true, decide_false, Bool.false_eq_true, if_false, if_true, Bool.not_true, Bool.not_false, Bool.and_true, Bool.true_and, Bool.and_self, List.getElem?_cons_zero, List.getElem?_cons_succ, Nat.zero_add, Nat.add_zero, beq_self_eq_true, bne_self_eq_false, Int.reduceBNe, Int.reduceBEq, Int.reduceLT, Int.reduceGT, Int.reduceLE, Int.reduceGE, Nat.reduceAdd, Nat.reduceMul, Nat.reduceLeDiff, ho, bc, g2, callL, hsame, lc, h3, scj, bm, l29, t29, h29, hcm, hz, callN, l29n, hcn, hset, List.drop_zero] at f1 ⊢
        exact f1
      · simp only [bO_s, gB_t, asBool_b, asInt_i, asAgg_a, asTup_a, asStr_s, asCons_c, nthA_0, nthA_s, aggCells_a, addV_p, seeV_p, seeV_i, same_nil, tr_same, eql4, neq4, decide_true, decide_false, Bool.false_eq_true, if_false, if_true, Bool.not_true, Bool.not_false, Bool.and_true, Bool.true_and, Bool.and_self, List.getElem?_cons_zero, List.getElem?_cons_succ, Nat.zero_add, Nat.add_zero, beq_self_eq_true, bne_self_eq_false, Int.reduceBNe, Int.reduceBEq, Int.reduceLT, Int.reduceGT, Int.reduceLE, Int.reduceGE, Nat.reduceAdd, Nat.reduceMul, Nat.reduceLeDiff, ho, ho2, bc, g2, callL, hsame, lc, h3, scj, bm, l29, t29, h29, hcm, hz, callN, l29n, hcn, hset, List.drop_zero] at f1 ⊢
        exact f1
  · have n1 : ((c.1 : Int) == 1) = false := by rw [beq_eq_false_iff_ne]; omega
    have n2 : ((c.1 : Int) == 2) = false := by rw [beq_eq_false_iff_ne]; omega
    by_cases h4 : c.1 = 4
    · have hst : bstep ab c = stp true ab c.2.2 := by unfold bstep; rw [if_neg h12, if_pos h4]
      have n4 : ((c.1 : Int) == 4) = true := by rw [h4]; rfl
      have e1 := hcl c.2.2 (hc.ch (by unfold isCh; rw [h4]; rfl))
      unfold stpA at e1
      have callL : ∀ (K : AV → Heap → Option LSt), callK (Cn B (k + 4)) .none (.fn fc [] []) [.int .i64 (c.2.2 : Int)] T K = K (.tup [.int .i64 (Int.ofNat (stp true ab c.2.2).1), .bool (stp true ab c.2.2).2, .int .i64 0]) T := fun K => by
        unfold callK
        simp only [if_neg yc]
        show bO (Cn B (k + 4) fc 0 [.int .i64 (c.2.2 : Int)] T) _ = _
        rw [e1]; rfl
      have hbd : bcd ab c = (c.1, c.2.1, (stp true ab c.2.2).1) := by unfold bcd; rw [hst]
      rw [hst]
      rw [hbd] at t1 t2 ⊢
      have scj := sc (stp true ab c.2.2).1
      rw [show (((stp true ab c.2.2).1 : Nat) : Int) = Int.ofNat (stp true ab c.2.2).1 from rfl] at scj
      generalize (stp true ab c.2.2).1 = j at *
      cases hsame : (stp true ab c.2.2).2 with
      | true =>
        have f1 := fin m true (c.1, c.2.1, j) (fun _ => t1) l29 t29 _ rfl
        simp only [bO_s, gB_t, asBool_b, asInt_i, asAgg_a, asTup_a, asStr_s, asCons_c, nthA_0, nthA_s, aggCells_a, addV_p, seeV_p, seeV_i, same_nil, tr_same, eql4, neq4, decide_true, decide_false, Bool.false_eq_true, if_false, if_true, Bool.not_true, Bool.not_false, Bool.and_true, Bool.true_and, Bool.and_self, List.getElem?_cons_zero, List.getElem?_cons_succ, Nat.zero_add, Nat.add_zero, beq_self_eq_true, bne_self_eq_false, Int.reduceBNe, Int.reduceBEq, Int.reduceLT, Int.reduceGT, Int.reduceLE, Int.reduceGE, Nat.reduceAdd, Nat.reduceMul, Nat.reduceLeDiff, n1, n2, n4, bc, g2, callL, hsame, lc, h3, scj, bm, l29, t29, h29, hcm, hz, List.drop_zero] at f1 ⊢
        exact f1
      | false =>
        have f1 := fin nb.1 nb.2 (c.1, c.2.1, j) (fun _ => t2) l29n t29n _ rfl
        unfold pair at callN
        simp only [bO_s, gB_t, asBool_b, asInt_i, asAgg_a, asTup_a, asStr_s, asCons_c, nthA_0, nthA_s, aggCells_a, addV_p, seeV_p, seeV_i, same_nil, tr_same, eql4, neq4, decide_true, decide_false, Bool.false_eq_true, if_false, if_true, Bool.not_true, Bool.not_false, Bool.and_true, Bool.true_and, Bool.and_self, List.getElem?_cons_zero, List.getElem?_cons_succ, Nat.zero_add, Nat.add_zero, beq_self_eq_true, bne_self_eq_false, Int.reduceBNe, Int.reduceBEq, Int.reduceLT, Int.reduceGT, Int.reduceLE, Int.reduceGE, Nat.reduceAdd, Nat.reduceMul, Nat.reduceLeDiff, n1, n2, n4, bc, g2, callL, hsame, lc, h3, scj, bm, l29, t29, h29, hcm, hz, callN, l29n, hcn, hset, List.drop_zero] at f1 ⊢
        exact f1
    · have hst : bstep ab c = (c.2.2, false) := by unfold bstep; rw [if_neg h12, if_neg h4]
      have n4 : ((c.1 : Int) == 4) = false := by rw [beq_eq_false_iff_ne]; omega
      have hbd : bcd ab c = c := by unfold bcd; rw [hst]
      rw [hst]
      rw [hbd] at t1 t2 ⊢
      have f1 := fin nb.1 nb.2 c (fun _ => t2) l29n t29n _ rfl
      unfold pair at callN
      simp only [bO_s, gB_t, asBool_b, asInt_i, asAgg_a, asTup_a, asStr_s, asCons_c, nthA_0, nthA_s, aggCells_a, addV_p, seeV_p, seeV_i, same_nil, tr_same, eql4, neq4, decide_true, decide_false, Bool.false_eq_true, if_false, if_true, Bool.not_true, Bool.not_false, Bool.and_true, Bool.true_and, Bool.and_self, List.getElem?_cons_zero, List.getElem?_cons_succ, Nat.zero_add, Nat.add_zero, beq_self_eq_true, bne_self_eq_false, Int.reduceBNe, Int.reduceBEq, Int.reduceLT, Int.reduceGT, Int.reduceLE, Int.reduceGE, Nat.reduceAdd, Nat.reduceMul, Nat.reduceLeDiff, n1, n2, n4, bc, lc, h3, bm, l29, t29, h29, hcm, hz, callN, l29n, hcn, hset, List.drop_zero] at f1 ⊢
      exact f1
end Go.Ab.tNearU
