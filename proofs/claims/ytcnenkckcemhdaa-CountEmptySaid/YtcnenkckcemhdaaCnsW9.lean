/- The class of a block: the reference's function. -/
import Derived.Test.YtcnenkckcemhdaaCnsW8
set_option maxRecDepth 100000
set_option linter.unusedSimpArgs false
set_option linter.unusedVariables false
set_option linter.unusedSectionVars false
namespace Go.Ab.tNearU
open Go Go.Proofs

theorem has_c {B : CallF} (hB : Known B) (k : Nat) {m : M} (hg : Good 1000 m) (hb : Byt m) {c : Cd} (hc : c ∈ m.bls) (S : Heap) :
    Cn B (k + 1) f_spindleref15_Has 0 [.agg m.cells, .agg (cdC c)] S = some (.bool true, S) := by
  rw [c_spindleref15_Has _ _ _ _ _ (hB.no _ _ _ _ (by decide)), T_spindleref15_Has]
  have l29 := M.len hg.pre
  have t29 : List.take 29 (List.drop 0 m.cells) = m.cells := by rw [List.drop_zero]; exact M.t29 hg.pre
  have h29 : (29 : Nat) ≤ 29 := by omega
  have h3 : (3 : Nat) ≤ 3 := by omega
  have l3 : ∀ c, (cdC c).length = 3 := fun _ => rfl
  have t3 : ∀ c, List.take 3 (cdC c) = cdC c := fun _ => rfl
  have hlen := blA_len m.bls
  have hb27 : m.bls.length ≤ 27 := bls_len m.kind m.cbp
  have e1 := (blocks_c hB k hg hb S).2
  simp only [bO_s, gB_t, asBool_b, asInt_i, asAgg_a, asTup_a, asStr_s, asCons_c, nthA_0, nthA_s, aggCells_a, addV_p, seeV_p, seeV_i, same_nil, tr_same, eql4, neq4, decide_true, decide_false, Bool.false_eq_true, if_false, if_true, Bool.not_true, Bool.not_false, Bool.and_true, Bool.true_and, Bool.and_self, List.getElem?_cons_zero, List.getElem?_cons_succ, Nat.zero_add, Nat.add_zero, beq_self_eq_true, bne_self_eq_false, Int.reduceBNe, Int.reduceBEq, Int.reduceLT, Int.reduceGT, Int.reduceLE, Int.reduceGE, Nat.reduceAdd, Nat.reduceMul, Nat.reduceLeDiff, l29, l3, t29, h29, e1]
  refine loop_to (fun i s => s = ([.agg (cdC c), blA m.bls, .int .i64 (i : Int)], S) ∧ c ∉ m.bls.take i) (fun x => x = (1, [.bool true], S)) m.bls.length ⟨rfl, by simp⟩ ?_ ?_
  · rintro i s hi ⟨rfl, hno⟩
    by_cases hin : i < m.bls.length
    · have hlt : (i : Int) < (m.bls.length : Int) := by omega
      obtain ⟨p1, p2, p3⟩ := blA_at hin
      have hw : IntKind.wrap .i64 ((i : Int) + 1) = ((i + 1 : Nat) : Int) := by rw [wr _ (by omega)]; omega
      by_cases he : m.bls[i] = c
      · exact .inl ⟨(1, [.bool true], S), by simp only [bO_s, gB_t, asBool_b, asInt_i, asAgg_a, asTup_a, asStr_s, asCons_c, nthA_0, nthA_s, aggCells_a, addV_p, seeV_p, seeV_i, same_nil, tr_same, eql4, neq4, decide_true, decide_false, Bool.false_eq_true, if_false, if_true, Bool.not_true, Bool.not_false, Bool.and_true, Bool.true_and, Bool.and_self, List.getElem?_cons_zero, List.getElem?_cons_succ, Nat.zero_add, Nat.add_zero, beq_self_eq_true, bne_self_eq_false, Int.reduceBNe, Int.reduceBEq, Int.reduceLT, Int.reduceGT, Int.reduceLE, Int.reduceGE, Nat.reduceAdd, Nat.reduceMul, Nat.reduceLeDiff, hlen, hlt, p1, p2, p3, List.drop_zero, l3, t3, h3, eqlCd, he], rfl⟩
      · refine .inr ⟨hin, _, by simp only [bO_s, gB_t, asBool_b, asInt_i, asAgg_a, asTup_a, asStr_s, asCons_c, nthA_0, nthA_s, aggCells_a, addV_p, seeV_p, seeV_i, same_nil, tr_same, eql4, neq4, decide_true, decide_false, Bool.false_eq_true, if_false, if_true, Bool.not_true, Bool.not_false, Bool.and_true, Bool.true_and, Bool.and_self, List.getElem?_cons_zero, List.getElem?_cons_succ, Nat.zero_add, Nat.add_zero, beq_self_eq_true, bne_self_eq_false, Int.reduceBNe, Int.reduceBEq, Int.reduceLT, Int.reduceGT, Int.reduceLE, Int.reduceGE, Nat.reduceAdd, Nat.reduceMul, Nat.reduceLeDiff, hlen, hlt, p1, p2, p3, List.drop_zero, l3, t3, h3, eqlCd, he, hw], rfl, ?_⟩
        rw [List.take_add_one, List.getElem?_eq_getElem hin, Option.toList_some, List.mem_append, List.mem_singleton]
        rintro (h | h)
        · exact hno h
        · exact he h.symm
    · exact absurd (by rw [List.take_of_length_le (by omega)]; exact hc) hno
  · rintro x rfl
    simp only [bO_s, gB_t, asBool_b, asInt_i, asAgg_a, asTup_a, asStr_s, asCons_c, nthA_0, nthA_s, aggCells_a, addV_p, seeV_p, seeV_i, same_nil, tr_same, eql4, neq4, decide_true, decide_false, Bool.false_eq_true, if_false, if_true, Bool.not_true, Bool.not_false, Bool.and_true, Bool.true_and, Bool.and_self, List.getElem?_cons_zero, List.getElem?_cons_succ, Nat.zero_add, Nat.add_zero, beq_self_eq_true, bne_self_eq_false, Int.reduceBNe, Int.reduceBEq, Int.reduceLT, Int.reduceGT, Int.reduceLE, Int.reduceGE, Nat.reduceAdd, Nat.reduceMul, Nat.reduceLeDiff, sel]
/-- The block that the reference starts from. -/
def rd (c : Cd) : Cd := if c.1 = 0 then (1, 0, 0) else c
/-- What the reference finds nearby. -/
def nby (m : M) (nb : M × Bool) (ab : Bool) (d : Cd) : M × Cd × Bool :=
  match (stp (isCh d) ab d.2.2).2 with
  | true => (m, (d.1, d.2.1, (stp (isCh d) ab d.2.2).1), true)
  | false => (nb.1, (d.1, d.2.1, (stp (isCh d) ab d.2.2).1), nb.2)
theorem fz40_3 {l : List AV} {c : Cd} {b : Bool} {S : Heap} (h : l.all plain1 = true) : fz 40 (.tup [.agg l, .agg (cdC c), .bool b]) S = some (.tup [.agg l, .agg (cdC c), .bool b], S) := by
  have e2 : fz 39 (.agg (cdC c)) S = some (.agg (cdC c), S) := rfl
  rw [show (40 : Nat) = 37 + 1 + 1 + 1 from rfl, fz]
  simp only [fzM]
  rw [fz, fzM_plain h]
  simp only
  rw [show (37 + 1 + 1 : Nat) = 39 from rfl, e2]
  rfl
theorem nearby_c {B : CallF} (hB : Known B) (k : Nat) {S : Heap} {p q : Nat} {fi w : Int} {ms : List M} (h : Obj S p q fi w ms) {m : M} (hg : Good 1000 m) {d : Cd} (hd : d.2.2 < 16) (hd4 : isCh d = true → d.2.2 < 4) (ab : Bool) :
    Cn B (k + 6) f_spindleref15_Nearby 0 [.ptr p 0, .agg m.cells, .agg (cdC d), .bool ab] S =
      some (.tup [.agg (nby m (if ab then fa fi ms (fi + ms.length - w) else lf fi w ms) ab d).1.cells, .agg (cdC (nby m (if ab then fa fi ms (fi + ms.length - w) else lf fi w ms) ab d).2.1), .bool (nby m (if ab then fa fi ms (fi + ms.length - w) else lf fi w ms) ab d).2.2], S) := by
  rw [c_spindleref15_Nearby _ _ _ _ _ _ _ (hB.no _ _ _ _ (by decide)), T_spindleref15_Nearby]
  have gl := (lf_good (fi := fi) (w := w) h.good).1
  have ga := (fa_good (fi := fi) h.good (fi + ms.length - w)).1
  have e5 := left14_c hB.no k h
  have e6 := above14_c hB.no k h
  generalize lf fi w ms = nl at gl e5 ⊢
  generalize fa fi ms (fi + ms.length - w) = na at ga e6 ⊢
  have l29 := M.len hg.pre
  have l29l := M.len gl.pre
  have l29a := M.len ga.pre
  have t29 : List.take 29 m.cells = m.cells := M.t29 hg.pre
  have t29l : List.take 29 nl.1.cells = nl.1.cells := M.t29 gl.pre
  have t29a : List.take 29 na.1.cells = na.1.cells := M.t29 ga.pre
  have h29 : (29 : Nat) ≤ 29 := by omega
  have h3 : (3 : Nat) ≤ 3 := by omega
  have l3 : ∀ c, (cdC c).length = 3 := fun _ => rfl
  have t3 : ∀ c, List.take 3 (cdC c) = cdC c := fun _ => rfl
  have c3 : ∀ c, (cdC c).all cell = true := fun _ => rfl
  have s3 : ∀ c, setCells [.int .u8 0, .int .u8 0, .int .i64 0] 0 (cdC c) = cdC c := fun _ => rfl
  have s32 : ∀ (c : Cd) (j : Nat), setCells (cdC c) 2 [.int .i64 (j : Int)] = cdC (c.1, c.2.1, j) := fun _ _ => rfl
  have g0 : (cdC d)[0]? = some (.int .u8 (d.1 : Int)) := rfl
  have g2 : (cdC d)[2]? = some (.int .i64 (d.2.2 : Int)) := rfl
  have h4 : ((d.1 : Int) == 4) = isCh d := by
    unfold isCh
    rw [Bool.eq_iff_iff, beq_iff_eq, Nat.beq_eq]
    omega
  have z29 := M.z hg.pre
  have z29l := M.z gl.pre
  have z29a := M.z ga.pre
  have sla : setCells nl.1.cells 0 na.1.cells = na.1.cells := setCells_all (by rw [l29l, l29a])
  have hcm := hg.cell
  have hcl := gl.cell
  have hca := ga.cell
  have hz : ([.int .u8 0, .int .u8 0, .int .u8 0, .int .u8 0, .int .u8 0, .int .u8 0, .int .u8 0, .int .u8 0, .int .u8 0, .int .u8 0, .int .u8 0, .int .u8 0, .int .u8 0, .int .u8 0, .int .u8 0, .int .u8 0, .int .u8 0, .int .u8 0, .int .u8 0, .int .u8 0, .int .u8 0, .int .u8 0, .int .u8 0, .nils, .nils, .int .u8 0, .int .i64 0, .nils, .str ByteArray.empty] : List AV).length = 29 := rfl
  have hz3 : ([.int .u8 0, .int .u8 0, .int .i64 0] : List AV).length = 3 := rfl
  have f3m : ∀ (c : Cd) (b : Bool), fz 40 (.tup [.agg m.cells, .agg (cdC c), .bool b]) S = some (.tup [.agg m.cells, .agg (cdC c), .bool b], S) := fun c b => fz40_3 hg.plain
  have f3l : ∀ (c : Cd) (b : Bool), fz 40 (.tup [.agg nl.1.cells, .agg (cdC c), .bool b]) S = some (.tup [.agg nl.1.cells, .agg (cdC c), .bool b], S) := fun c b => fz40_3 gl.plain
  have f3a : ∀ (c : Cd) (b : Bool), fz 40 (.tup [.agg na.1.cells, .agg (cdC c), .bool b]) S = some (.tup [.agg na.1.cells, .agg (cdC c), .bool b], S) := fun c b => fz40_3 ga.plain
  unfold nby
  cases hch : isCh d with
  | false =>
    cases ab with
    | false =>
      have e1 := (place_l hB (k + 5) hd S).2
      unfold stpA at e1
      cases hs : (stp false false d.2.2).2 with
      | true =>
        rw [hs] at e1
        simp only [bO_s, gB_t, asBool_b, asInt_i, asAgg_a, asTup_a, asStr_s, asCons_c, nthA_0, nthA_s, aggCells_a, addV_p, seeV_p, seeV_i, same_nil, tr_same, eql4, neq4, decide_true, decide_false, Bool.false_eq_true, if_false, if_true, Bool.not_true, Bool.not_false, Bool.and_true, Bool.true_and, Bool.and_self, List.getElem?_cons_zero, List.getElem?_cons_succ, Nat.zero_add, Nat.add_zero, beq_self_eq_true, bne_self_eq_false, Int.reduceBNe, Int.reduceBEq, Int.reduceLT, Int.reduceGT, Int.reduceLE, Int.reduceGE, Nat.reduceAdd, Nat.reduceMul, Nat.reduceLeDiff, l29, l3, g0, g2, h4, hch, e1, Int.ofNat_eq_natCast, List.drop_zero, t3, h3, c3, s3, s32, t29, h29, hcm, z29, hz, hz3, f3m]
      | false =>
        rw [hs] at e1
        simp only [bO_s, gB_t, asBool_b, asInt_i, asAgg_a, asTup_a, asStr_s, asCons_c, nthA_0, nthA_s, aggCells_a, addV_p, seeV_p, seeV_i, same_nil, tr_same, eql4, neq4, decide_true, decide_false, Bool.false_eq_true, if_false, if_true, Bool.not_true, Bool.not_false, Bool.and_true, Bool.true_and, Bool.and_self, List.getElem?_cons_zero, List.getElem?_cons_succ, Nat.zero_add, Nat.add_zero, beq_self_eq_true, bne_self_eq_false, Int.reduceBNe, Int.reduceBEq, Int.reduceLT, Int.reduceGT, Int.reduceLE, Int.reduceGE, Nat.reduceAdd, Nat.reduceMul, Nat.reduceLeDiff, l29, l3, g0, g2, h4, hch, e1, Int.ofNat_eq_natCast, List.drop_zero, t3, h3, c3, s3, s32, e5, pair, l29l, t29l, h29, hcl, z29l, hz, hz3, f3l]
    | true =>
      have e1 := (place_a hB (k + 5) hd S).2
      unfold stpA at e1
      cases hs : (stp false true d.2.2).2 with
      | true =>
        rw [hs] at e1
        simp only [bO_s, gB_t, asBool_b, asInt_i, asAgg_a, asTup_a, asStr_s, asCons_c, nthA_0, nthA_s, aggCells_a, addV_p, seeV_p, seeV_i, same_nil, tr_same, eql4, neq4, decide_true, decide_false, Bool.false_eq_true, if_false, if_true, Bool.not_true, Bool.not_false, Bool.and_true, Bool.true_and, Bool.and_self, List.getElem?_cons_zero, List.getElem?_cons_succ, Nat.zero_add, Nat.add_zero, beq_self_eq_true, bne_self_eq_false, Int.reduceBNe, Int.reduceBEq, Int.reduceLT, Int.reduceGT, Int.reduceLE, Int.reduceGE, Nat.reduceAdd, Nat.reduceMul, Nat.reduceLeDiff, l29, l3, g0, g2, h4, hch, e1, Int.ofNat_eq_natCast, List.drop_zero, t3, h3, c3, s3, s32, t29, h29, hcm, z29, hz, hz3, f3m]
      | false =>
        rw [hs] at e1
        simp only [bO_s, gB_t, asBool_b, asInt_i, asAgg_a, asTup_a, asStr_s, asCons_c, nthA_0, nthA_s, aggCells_a, addV_p, seeV_p, seeV_i, same_nil, tr_same, eql4, neq4, decide_true, decide_false, Bool.false_eq_true, if_false, if_true, Bool.not_true, Bool.not_false, Bool.and_true, Bool.true_and, Bool.and_self, List.getElem?_cons_zero, List.getElem?_cons_succ, Nat.zero_add, Nat.add_zero, beq_self_eq_true, bne_self_eq_false, Int.reduceBNe, Int.reduceBEq, Int.reduceLT, Int.reduceGT, Int.reduceLE, Int.reduceGE, Nat.reduceAdd, Nat.reduceMul, Nat.reduceLeDiff, l29, l3, g0, g2, h4, hch, e1, Int.ofNat_eq_natCast, List.drop_zero, t3, h3, c3, s3, s32, e5, e6, pair, l29l, l29a, t29l, t29a, h29, hcl, hca, z29l, z29a, sla, hz, hz3, f3a]
  | true =>
    cases ab with
    | false =>
      have e1 := (place_cl hB (k + 5) (hd4 hch) S).2
      unfold stpA at e1
      cases hs : (stp true false d.2.2).2 with
      | true =>
        rw [hs] at e1
        simp only [bO_s, gB_t, asBool_b, asInt_i, asAgg_a, asTup_a, asStr_s, asCons_c, nthA_0, nthA_s, aggCells_a, addV_p, seeV_p, seeV_i, same_nil, tr_same, eql4, neq4, decide_true, decide_false, Bool.false_eq_true, if_false, if_true, Bool.not_true, Bool.not_false, Bool.and_true, Bool.true_and, Bool.and_self, List.getElem?_cons_zero, List.getElem?_cons_succ, Nat.zero_add, Nat.add_zero, beq_self_eq_true, bne_self_eq_false, Int.reduceBNe, Int.reduceBEq, Int.reduceLT, Int.reduceGT, Int.reduceLE, Int.reduceGE, Nat.reduceAdd, Nat.reduceMul, Nat.reduceLeDiff, l29, l3, g0, g2, h4, hch, e1, Int.ofNat_eq_natCast, List.drop_zero, t3, h3, c3, s3, s32, t29, h29, hcm, z29, hz, hz3, f3m]
      | false =>
        rw [hs] at e1
        simp only [bO_s, gB_t, asBool_b, asInt_i, asAgg_a, asTup_a, asStr_s, asCons_c, nthA_0, nthA_s, aggCells_a, addV_p, seeV_p, seeV_i, same_nil, tr_same, eql4, neq4, decide_true, decide_false, Bool.false_eq_true, if_false, if_true, Bool.not_true, Bool.not_false, Bool.and_true, Bool.true_and, Bool.and_self, List.getElem?_cons_zero, List.getElem?_cons_succ, Nat.zero_add, Nat.add_zero, beq_self_eq_true, bne_self_eq_false, Int.reduceBNe, Int.reduceBEq, Int.reduceLT, Int.reduceGT, Int.reduceLE, Int.reduceGE, Nat.reduceAdd, Nat.reduceMul, Nat.reduceLeDiff, l29, l3, g0, g2, h4, hch, e1, Int.ofNat_eq_natCast, List.drop_zero, t3, h3, c3, s3, s32, e5, pair, l29l, t29l, h29, hcl, z29l, hz, hz3, f3l]
    | true =>
      have e1 := (place_ca hB (k + 5) (hd4 hch) S).2
      unfold stpA at e1
      cases hs : (stp true true d.2.2).2 with
      | true =>
        rw [hs] at e1
        simp only [bO_s, gB_t, asBool_b, asInt_i, asAgg_a, asTup_a, asStr_s, asCons_c, nthA_0, nthA_s, aggCells_a, addV_p, seeV_p, seeV_i, same_nil, tr_same, eql4, neq4, decide_true, decide_false, Bool.false_eq_true, if_false, if_true, Bool.not_true, Bool.not_false, Bool.and_true, Bool.true_and, Bool.and_self, List.getElem?_cons_zero, List.getElem?_cons_succ, Nat.zero_add, Nat.add_zero, beq_self_eq_true, bne_self_eq_false, Int.reduceBNe, Int.reduceBEq, Int.reduceLT, Int.reduceGT, Int.reduceLE, Int.reduceGE, Nat.reduceAdd, Nat.reduceMul, Nat.reduceLeDiff, l29, l3, g0, g2, h4, hch, e1, Int.ofNat_eq_natCast, List.drop_zero, t3, h3, c3, s3, s32, t29, h29, hcm, z29, hz, hz3, f3m]
      | false =>
        rw [hs] at e1
        simp only [bO_s, gB_t, asBool_b, asInt_i, asAgg_a, asTup_a, asStr_s, asCons_c, nthA_0, nthA_s, aggCells_a, addV_p, seeV_p, seeV_i, same_nil, tr_same, eql4, neq4, decide_true, decide_false, Bool.false_eq_true, if_false, if_true, Bool.not_true, Bool.not_false, Bool.and_true, Bool.true_and, Bool.and_self, List.getElem?_cons_zero, List.getElem?_cons_succ, Nat.zero_add, Nat.add_zero, beq_self_eq_true, bne_self_eq_false, Int.reduceBNe, Int.reduceBEq, Int.reduceLT, Int.reduceGT, Int.reduceLE, Int.reduceGE, Nat.reduceAdd, Nat.reduceMul, Nat.reduceLeDiff, l29, l3, g0, g2, h4, hch, e1, Int.ofNat_eq_natCast, List.drop_zero, t3, h3, c3, s3, s32, e5, e6, pair, l29l, l29a, t29l, t29a, h29, hcl, hca, z29l, z29a, sla, hz, hz3, f3a]
end Go.Ab.tNearU
