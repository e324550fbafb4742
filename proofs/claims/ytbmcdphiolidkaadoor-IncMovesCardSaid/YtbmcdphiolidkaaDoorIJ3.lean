/- What Mvd returns. -/
import Derived.Test.YtbmcdphiolidkaaDoorIJ2
set_option maxRecDepth 100000
set_option linter.unusedSimpArgs false
set_option linter.unusedVariables false
set_option linter.unusedSectionVars false
namespace Go.Ab.tNearU
open Go Go.Proofs

theorem set_same' {T : Heap} {i : Nat} {a : Option (List AV)} (h : T.blk i = a) : T.set i a = T := by
  unfold Heap.set
  cases T with | mk nx bk cx =>
  simp only at h
  congr 1
  funext j
  by_cases hj : j = i
  · rw [if_pos hj, hj, h]
  · rw [if_neg hj]
def msum (m : M) (nb : M × Bool) (ab : Bool) (l0 : Nat) (vert : Bool) (s : Int) : Int :=
  if (stp false ab l0).2 = true then IntKind.wrap .i64 (s + sizeV m (stp false ab l0).1 vert) else if nb.2 = true then IntKind.wrap .i64 (s + sizeV nb.1 (stp false ab l0).1 vert) else s
set_option maxHeartbeats 1000000 in
theorem mvd1_c {B : CallF} (hB : KnownP B) (k : Nat) {T : Heap} {m : M} (hg : Good 1000 m) (hb : Byt m) (hs : Bys m) {l : List Nat} {l0 : Nat} (hl0 : l[0]? = some l0) (h16 : l0 < 16) {fl fn : Nat} (yl : ¬ yldId ≤ fl) (yn : ¬ yldId ≤ fn) {ab : Bool} {nb : M × Bool} (gn : Good 1000 nb.1) (bn : Byt nb.1) (sn : Bys nb.1)
    (hl : Cn B (k + 4) fl 0 [.int .i64 (l0 : Int)] T = some (stpA false ab l0, T)) {arg : AV} (hn : Cn B (k + 4) fn 0 [arg] T = some (pair nb, T))
    {pl pm ps pv : Nat} {vert : Bool} {s : Int} (bl : T.blk pl = some [isN l]) (bm : T.blk pm = some m.cells) (bs : T.blk ps = some [.int .i64 s]) (bv : T.blk pv = some [.bool vert]) (lt : ps < T.next) :
    Cn B (k + 5) f_inc_Mvd_1 0 [.fn fl [] [], .fn fn [arg] [], .ptr pl 0, .ptr ps 0, .ptr pm 0, .ptr pv 0] T = some (.tup [], T.set ps (some [.int .i64 (msum m nb ab l0 vert s)])) := by
  rw [c_inc_Mvd_1 _ _ _ _ _ _ _ _ _ (hB.no _ _ _ _ (by decide)), T_inc_Mvd_1]
  have l29 := M.len hg.pre
  have l29n := M.len gn.pre
  have t29 : List.take 29 m.cells = m.cells := M.t29 hg.pre
  have t29n : List.take 29 nb.1.cells = nb.1.cells := M.t29 gn.pre
  have h29 : (29 : Nat) ≤ 29 := by omega
  have zn := M.z gn.pre
  have hcn := gn.cell
  have hlen : 0 < l.length := by
    rcases Nat.eq_zero_or_pos l.length with h | h
    · rw [List.eq_nil_of_length_eq_zero h] at hl0; cases hl0
    · exact h
  have hix : aIdx 1 (isN l) 0 = some (.iptr (l.map iN)) := by simp [aIdx, isN, hlen]
  have hat : (l.map iN)[0]? = some (.int .i64 (l0 : Int)) := by rw [List.getElem?_map, hl0]; rfl
  unfold stpA at hl
  unfold pair at hn
  have callL : ∀ (K : AV → Heap → Option (AV × Heap)), callK (Cn B (k + 4)) .none (.fn fl [] []) [.int .i64 (l0 : Int)] T K = K (.tup [.int .i64 (Int.ofNat (stp false ab l0).1), .bool (stp false ab l0).2, .int .i64 0]) T := fun K => by
    rw [callK_f _ yl, List.append_nil, hl]; rfl
  have callN : ∀ (K : AV → Heap → Option (AV × Heap)), callK (Cn B (k + 4)) .none (.fn fn [arg] []) [] T K = K (.tup [.agg nb.1.cells, .bool nb.2]) T := fun K => by
    unfold callK
    simp only [if_neg yn]
    show bO (Cn B (k + 4) fn 0 [arg] T) _ = _
    rw [hn]; rfl
  have hput : ∀ x : Int, putV (.ptr ps 0) [.int .i64 x] T = some (T.set ps (some [.int .i64 x])) := fun x => by simp [putV, bs, setCells]
  have htr : ∀ x : Int, ctlW.tr T (.tup []) (T.set ps (some [.int .i64 x])) = (.tup [], T.set ps (some [.int .i64 x])) := fun x => by
    by_cases hx : x = s
    · rw [hx, set_same' bs, tr_id]
    · refine tr_ne ps lt ?_
      rw [set_blk, bs]
      intro h
      simp only [Option.some.injEq, List.cons.injEq, AV.int.injEq, true_and, and_true] at h
      exact hx h
  have z1 := size_c hB (k + 1) hg hb hs (stp false ab l0).1 vert T
  have z2 := size_c hB (k + 1) gn bn sn (stp false ab l0).1 vert T
  have hof : (((stp false ab l0).1 : Nat) : Int) = Int.ofNat (stp false ab l0).1 := rfl
  rw [hof] at z1 z2
  unfold msum
  cases hsame : (stp false ab l0).2 with
  | true =>
    simp only [bO_s, gB_t, asBool_b, asInt_i, asAgg_a, asTup_a, asStr_s, asCons_c, nthA_0, nthA_s, aggCells_a, addV_p, seeV_p, seeV_i, same_nil, tr_same, eql4, neq4, decide_true, decide_false, Bool.false_eq_true, if_false, if_true, Bool.not_true, Bool.not_false, Bool.and_true, Bool.true_and, Bool.and_self, List.getElem?_cons_zero, List.getElem?_cons_succ, Nat.zero_add, Nat.add_zero, beq_self_eq_true, bne_self_eq_false, Int.reduceBNe, Int.reduceBEq, Int.reduceLT, Int.reduceGT, Int.reduceLE, Int.reduceGE, Nat.reduceAdd, Nat.reduceMul, Nat.reduceLeDiff, bl, hix, hat, callL, hsame, bs, bm, l29, h29, List.drop_zero, t29, bv, z1, same_see, hput, htr]
  | false =>
    cases hnb : nb.2 with
    | true =>
      simp only [bO_s, gB_t, asBool_b, asInt_i, asAgg_a, asTup_a, asStr_s, asCons_c, nthA_0, nthA_s, aggCells_a, addV_p, seeV_p, seeV_i, same_nil, tr_same, eql4, neq4, decide_true, decide_false, Bool.false_eq_true, if_false, if_true, Bool.not_true, Bool.not_false, Bool.and_true, Bool.true_and, Bool.and_self, List.getElem?_cons_zero, List.getElem?_cons_succ, Nat.zero_add, Nat.add_zero, beq_self_eq_true, bne_self_eq_false, Int.reduceBNe, Int.reduceBEq, Int.reduceLT, Int.reduceGT, Int.reduceLE, Int.reduceGE, Nat.reduceAdd, Nat.reduceMul, Nat.reduceLeDiff, bl, hix, hat, callL, hsame, callN, hnb, l29n, hcn, h29, bs, zn, List.drop_zero, t29n, bv, z2, same_see, hput, htr]
    | false =>
      simp only [bO_s, gB_t, asBool_b, asInt_i, asAgg_a, asTup_a, asStr_s, asCons_c, nthA_0, nthA_s, aggCells_a, addV_p, seeV_p, seeV_i, same_nil, tr_same, eql4, neq4, decide_true, decide_false, Bool.false_eq_true, if_false, if_true, Bool.not_true, Bool.not_false, Bool.and_true, Bool.true_and, Bool.and_self, List.getElem?_cons_zero, List.getElem?_cons_succ, Nat.zero_add, Nat.add_zero, beq_self_eq_true, bne_self_eq_false, Int.reduceBNe, Int.reduceBEq, Int.reduceLT, Int.reduceGT, Int.reduceLE, Int.reduceGE, Nat.reduceAdd, Nat.reduceMul, Nat.reduceLeDiff, bl, hix, hat, callL, hsame, callN, hnb, l29n, hcn, h29]
      rw [set_same' bs]
def cutW (a : AV) (n : Nat) : AV := match a with
  | .is _ cs => .is n (cs.take (n * 2))
  | _ => .nils
theorem slice26 {N : Nat} {a : AV} (h : Row N 2 a) {j : Nat} (hj : j ≤ rl a) : aSlice Tryd.prog 26 a none (some (.int .i64 (j : Int))) = some (cutW a j) := by
  have hu : Tryd.prog.underlying 26 = some (.slice 59) := by kernel_rfl
  have hs : tsize Tryd.prog 59 = some 2 := by kernel_rfl
  obtain rfl | ⟨n, cs, rfl, h1, h2, h3⟩ := h
  · have : j = 0 := Nat.le_zero.1 hj
    subst this
    simp [aSlice, hu, hs, aNat, cutW]
  · have hj' : j ≤ n := hj
    simp [aSlice, hu, hs, aNat, hj', h2, cutW]
theorem cutW_row {N : Nat} {a : AV} (h : Row N 2 a) {j : Nat} (hj : j ≤ rl a) : Row N 2 (cutW a j) := by
  obtain rfl | ⟨n, cs, rfl, h1, h2, h3⟩ := h
  · exact .inl rfl
  · have hj' : j ≤ n := hj
    exact .inr ⟨j, cs.take (j * 2), rfl, by omega, by rw [List.length_take]; omega, fun c hc => h3 c (List.mem_of_mem_take hc)⟩
def M.cutV (m : M) (j : Nat) : M := { m with v := cutW m.v j }
theorem cutV_good {N : Nat} {m : M} (hg : Good N m) {j : Nat} (hj : j ≤ rl m.v) : Good N (m.cutV j) := ⟨hg.pre, hg.r, cutW_row hg.v hj, hg.b⟩
def mvdE (m : M) (part : Int) : Nat := if m.pErr ≠ 0 ∨ (rl m.v : Int) < part then 2 else if part < 0 ∨ part ≥ m.rects.length then 3 else 0
def mvdV (nl na : M × Bool) (m : M) (part : Int) (vert : Bool) : Int := if mvdE m part = 0 then msum (m.cutV part.toNat) na true ((m.cov part.toNat).headD 0) vert (msum (m.cutV part.toNat) nl false ((m.cov part.toNat).headD 0) vert 0) else 0
theorem bl_ne : (four fun a => four fun b => four fun c => four fun d => (rl6 a b c d).all fun r => match (blN r)[0]? with | some x => Nat.blt x 16 | none => false) = true := by kernel_rfl
theorem bl_ne3 : ([(0, 0, 4, 4), (0, 0, 4, 2), (0, 2, 4, 2), (0, 0, 2, 4), (2, 0, 2, 4)] : List R4).all (fun r => match (blN r)[0]? with | some x => Nat.blt x 16 | none => false) = true := by kernel_rfl
theorem rect_mem {k a b c d : Nat} {r : R4} (h : r ∈ rects k a b c d) : (match (blN r)[0]? with | some x => Nat.blt x 16 | none => false) = true := by
  unfold rects at h
  split at h
  · exact List.all_eq_true.1 bl_ne3 r (by simp at h; simp [h])
  · exact List.all_eq_true.1 bl_ne3 r (by simp at h; rcases h with h | h <;> simp [h])
  · exact List.all_eq_true.1 bl_ne3 r (by simp at h; rcases h with h | h <;> simp [h])
  · cases hv : (Nat.blt a 4 && Nat.blt b 4 && Nat.blt c 4 && Nat.blt d 4) with
    | true =>
      rw [hv] at h
      simp only [Bool.and_eq_true, Nat.blt_eq] at hv
      exact List.all_eq_true.1 (four_lt (four_lt (four_lt (four_lt bl_ne hv.1.1.1) hv.1.1.2) hv.1.2) hv.2) r h
    | false => rw [hv] at h; cases h
  · cases h
theorem cov_0 {m : M} {p : Nat} (hp : p < m.rects.length) : ∃ x, (m.cov p)[0]? = some x ∧ x < 16 ∧ (m.cov p).headD 0 = x := by
  have h := rect_mem (List.getElem_mem hp)
  have he : m.cov p = blN m.rects[p] := by
    unfold M.cov covB
    rw [show Go.Ab.tNearU.rects m.kind (sb m 0) (sb m 1) (sb m 2) (sb m 3) = m.rects from rfl, List.getElem?_eq_getElem hp]
  rw [← he] at h
  split at h
  · rename_i x hx
    rw [Nat.blt_eq] at h
    refine ⟨x, hx, h, ?_⟩
    cases hc : m.cov p with
    | nil => rw [hc] at hx; cases hx
    | cons y ys => rw [hc] at hx; exact Option.some.inj hx
  · cases h
set_option maxHeartbeats 2000000 in
theorem mvd_c {B : CallF} (hB : KnownP B) (k : Nat) {T : Heap} {p q : Nat} {fi w : Int} {ms : List M} (h : Obj T p q fi w ms) (hby : ∀ m ∈ ms, Byt m) (hbs : ∀ m ∈ ms, Bys m) {m : M} (hg : Good 1000 m) (hb : Byt m) (hs : Bys m) (part : Int) (vert : Bool) :
    Cn B (k + 6) f_inc_Mvd 0 [.ptr p 0, .agg m.cells, .int .i64 part, .bool vert] T = some (.tup [.int .i64 (mvdV (lf fi w ms) (fa fi ms (fi + ms.length - w)) m part vert), .int .i64 (mvdE m part : Int)], T) := by
  rw [c_inc_Mvd _ _ _ _ _ _ _ (hB.no _ _ _ _ (by decide)), T_inc_Mvd]
  have l29 := M.len hg.pre
  have g0 := kind_0 hg hb
  have g24 := M.g24 hg.pre
  have h29 : (29 : Nat) ≤ 29 := by omega
  have h23 : (23 : Nat) ≤ 29 := by omega
  have t29 : List.take 29 m.cells = m.cells := M.t29 hg.pre
  obtain ⟨n, hn⟩ : ∃ n, n = T.next := ⟨_, rfl⟩
  obtain ⟨S5, hS5⟩ : ∃ S5, S5 = (T.alloc m.cells).alloc [.bool vert] := ⟨_, rfl⟩
  have bm : S5.blk n = some m.cells := by rw [hS5, alloc_other _ _ (by simp only [alloc_next]; omega), hn, alloc_blk]
  have bv : S5.blk (n + 1) = some [.bool vert] := by rw [hS5, hn]; exact alloc_blk _ _
  have n5 : S5.next = n + 2 := by rw [hS5, hn]; rfl
  have E5 : Ext T S5 := by rw [hS5]; exact (Ext.alloc T _).trans (Ext.alloc _ _)
  have e1 := mpieces_c hB (k + 3) hg hb hs S5
  have l26 := rl26 hg.v
  have trE : ∀ v : AV, noId v = true → ctlW.tr T v S5 = (v, T) := fun v hv => tr_S hv E5
  have pe9 : m.pErr ≤ 9 := by
    unfold M.pErr pErr
    split <;> (try omega)
    split <;> omega
  simp only [bO_s, gB_t, asBool_b, asInt_i, asAgg_a, asTup_a, asStr_s, asCons_c, nthA_0, nthA_s, aggCells_a, addV_p, seeV_p, seeV_i, same_nil, tr_same, eql4, neq4, decide_true, decide_false, Bool.false_eq_true, if_false, if_true, Bool.not_true, Bool.not_false, Bool.and_true, Bool.true_and, Bool.and_self, List.getElem?_cons_zero, List.getElem?_cons_succ, Nat.zero_add, Nat.add_zero, beq_self_eq_true, bne_self_eq_false, Int.reduceBNe, Int.reduceBEq, Int.reduceLT, Int.reduceGT, Int.reduceLE, Int.reduceGE, Nat.reduceAdd, Nat.reduceMul, Nat.reduceLeDiff, l29, alloc_next, ← hn]
  rw [← hS5]
  simp only [bO_s, gB_t, asBool_b, asInt_i, asAgg_a, asTup_a, asStr_s, asCons_c, nthA_0, nthA_s, aggCells_a, addV_p, seeV_p, seeV_i, same_nil, tr_same, eql4, neq4, decide_true, decide_false, Bool.false_eq_true, if_false, if_true, Bool.not_true, Bool.not_false, Bool.and_true, Bool.true_and, Bool.and_self, List.getElem?_cons_zero, List.getElem?_cons_succ, Nat.zero_add, Nat.add_zero, beq_self_eq_true, bne_self_eq_false, Int.reduceBNe, Int.reduceBEq, Int.reduceLT, Int.reduceGT, Int.reduceLE, Int.reduceGE, Nat.reduceAdd, Nat.reduceMul, Nat.reduceLeDiff, eql_ptr, bm, g0, l29, h23, e1]
  by_cases hpe : m.pErr = 0
  · have hpe0 : ((m.pErr : Int) != 0) = false := by rw [hpe]; rfl
    by_cases hlt : (rl m.v : Int) < part
    · have hE : mvdE m part = 2 := by unfold mvdE; rw [if_pos (.inr hlt)]
      have hV : mvdV (lf fi w ms) (fa fi ms (fi + ms.length - w)) m part vert = 0 := by unfold mvdV; rw [hE, if_neg (by decide)]
      rw [hE, hV]
      simp only [bO_s, gB_t, asBool_b, asInt_i, asAgg_a, asTup_a, asStr_s, asCons_c, nthA_0, nthA_s, aggCells_a, addV_p, seeV_p, seeV_i, same_nil, tr_same, eql4, neq4, decide_true, decide_false, Bool.false_eq_true, if_false, if_true, Bool.not_true, Bool.not_false, Bool.and_true, Bool.true_and, Bool.and_self, List.getElem?_cons_zero, List.getElem?_cons_succ, Nat.zero_add, Nat.add_zero, beq_self_eq_true, bne_self_eq_false, Int.reduceBNe, Int.reduceBEq, Int.reduceLT, Int.reduceGT, Int.reduceLE, Int.reduceGE, Nat.reduceAdd, Nat.reduceMul, Nat.reduceLeDiff, hpe0, bm, g24, l26, hlt]
      rw [trE _ rfl]
      rfl
    · have hno : ¬ (m.pErr ≠ 0 ∨ (rl m.v : Int) < part) := by rintro (h | h) <;> omega
      by_cases hneg : part < 0
      · have hE : mvdE m part = 3 := by unfold mvdE; rw [if_neg hno, if_pos (.inl hneg)]
        have hV : mvdV (lf fi w ms) (fa fi ms (fi + ms.length - w)) m part vert = 0 := by unfold mvdV; rw [hE, if_neg (by decide)]
        rw [hE, hV]
        simp only [bO_s, gB_t, asBool_b, asInt_i, asAgg_a, asTup_a, asStr_s, asCons_c, nthA_0, nthA_s, aggCells_a, addV_p, seeV_p, seeV_i, same_nil, tr_same, eql4, neq4, decide_true, decide_false, Bool.false_eq_true, if_false, if_true, Bool.not_true, Bool.not_false, Bool.and_true, Bool.true_and, Bool.and_self, List.getElem?_cons_zero, List.getElem?_cons_succ, Nat.zero_add, Nat.add_zero, beq_self_eq_true, bne_self_eq_false, Int.reduceBNe, Int.reduceBEq, Int.reduceLT, Int.reduceGT, Int.reduceLE, Int.reduceGE, Nat.reduceAdd, Nat.reduceMul, Nat.reduceLeDiff, hpe0, bm, g24, l26, hlt, hneg]
        rw [trE _ rfl]
        rfl
      · by_cases hge : part ≥ (m.rects.length : Int)
        · have hE : mvdE m part = 3 := by unfold mvdE; rw [if_neg hno, if_pos (.inr hge)]
          have hV : mvdV (lf fi w ms) (fa fi ms (fi + ms.length - w)) m part vert = 0 := by unfold mvdV; rw [hE, if_neg (by decide)]
          rw [hE, hV]
          simp only [bO_s, gB_t, asBool_b, asInt_i, asAgg_a, asTup_a, asStr_s, asCons_c, nthA_0, nthA_s, aggCells_a, addV_p, seeV_p, seeV_i, same_nil, tr_same, eql4, neq4, decide_true, decide_false, Bool.false_eq_true, if_false, if_true, Bool.not_true, Bool.not_false, Bool.and_true, Bool.true_and, Bool.and_self, List.getElem?_cons_zero, List.getElem?_cons_succ, Nat.zero_add, Nat.add_zero, beq_self_eq_true, bne_self_eq_false, Int.reduceBNe, Int.reduceBEq, Int.reduceLT, Int.reduceGT, Int.reduceLE, Int.reduceGE, Nat.reduceAdd, Nat.reduceMul, Nat.reduceLeDiff, hpe0, bm, g24, l26, hlt, hneg, hge]
          rw [trE _ rfl]
          rfl
        · have hE : mvdE m part = 0 := by unfold mvdE; rw [if_neg hno, if_neg (by rintro (h | h) <;> omega)]
          obtain ⟨j, rfl⟩ := Int.eq_ofNat_of_zero_le (show 0 ≤ part by omega)
          have hV : mvdV (lf fi w ms) (fa fi ms (fi + ms.length - w)) m (j : Int) vert = msum (m.cutV j) (fa fi ms (fi + ms.length - w)) true ((m.cov j).headD 0) vert (msum (m.cutV j) (lf fi w ms) false ((m.cov j).headD 0) vert 0) := by unfold mvdV; rw [hE, if_pos rfl]; rfl
          rw [hE, hV]
          have hj : j < m.rects.length := by omega
          have hjr : j ≤ rl m.v := by omega
          obtain ⟨l0, hl0, h16, hhd⟩ := cov_0 hj
          rw [hhd]
          have e2 := mbCopy_c hB.no (k + 3) hg S5
          have hset : setCells m.cells 0 m.cells = m.cells := setCells_all rfl
          have pm1 : putV (.ptr n 0) m.cells S5 = some S5 := by
            simp only [putV, bm, l29, Nat.zero_add, Nat.le_refl, if_true, hset]
            rw [set_same' bm]
          have hsl := slice26 hg.v hjr
          have hgc := cutV_good hg hjr
          have hbc : Byt (m.cutV j) := ⟨hb.k, hb.c⟩
          have hsc : Bys (m.cutV j) := hs
          have s24 : setCells m.cells 24 [cutW m.v j] = (m.cutV j).cells := M.s24 hg.pre _
          have hcc : cell (cutW m.v j) = true := (cutW_row hg.v hjr).cell
          obtain ⟨S6, hS6⟩ : ∃ S6, S6 = S5.set n (some (m.cutV j).cells) := ⟨_, rfl⟩
          have pm2 : putV (.ptr n 24) [cutW m.v j] S5 = some S6 := by
            simp only [putV, bm, l29, List.length_cons, List.length_nil, s24]
            rw [if_pos (by omega), hS6]
          have bm6 : S6.blk n = some (m.cutV j).cells := by rw [hS6, set_blk]
          have bv6 : S6.blk (n + 1) = some [.bool vert] := by rw [hS6, set_other _ _ (by omega)]; exact bv
          have n6 : S6.next = n + 2 := by rw [hS6]; exact n5
          have E6 : Ext T S6 := by rw [hS6]; exact E5.set (by omega) _
          have g0c : (m.cutV j).cells[0]? = some (.int .u8 (m.kind : Int)) := kind_0 hgc hbc
          have lc := M.len hgc.pre
          have tc : List.take 29 (m.cutV j).cells = (m.cutV j).cells := M.t29 hgc.pre
          have e3 : Cn B (k + 5) f_kinds_Cover 0 [.int .u8 (m.kind : Int), .agg (List.take 4 (List.drop 19 (m.cutV j).cells)), .int .i64 (j : Int)] S6 = some (.tup [isN (m.cov j), .int .i64 0], S6) := mcov_c hB (k + 5) hgc hbc hsc S6 (p := j) hj
          have hcell := hg.cell
          generalize hL : m.cov j = L at hl0 e3
          obtain ⟨mc, hmc⟩ : ∃ mc, mc = m.cutV j := ⟨_, rfl⟩
          rw [← hmc] at hgc hbc hsc s24 hS6 bm6 g0c lc tc e3 ⊢
          obtain ⟨S7, hS7⟩ : ∃ S7, S7 = (S6.alloc [.nils]).set S6.next (some [isN L]) := ⟨_, rfl⟩
          have p7 : putV (.ptr S6.next 0) [isN L] (S6.alloc [.nils]) = some S7 := by rw [hS7]; exact putV_1' (alloc_blk S6 _)
          have n7 : S7.next = n + 3 := by rw [hS7, set_next, alloc_next, n6]
          have b7l : S7.blk S6.next = some [isN L] := by rw [hS7, set_blk]
          have E67 : Ext S6 S7 := by rw [hS7]; exact (Ext.alloc S6 _).set (Nat.le_refl _) _
          obtain ⟨U, hU⟩ : ∃ U, U = S7.alloc [.int .i64 0] := ⟨_, rfl⟩
          have bs : U.blk S7.next = some [.int .i64 0] := by rw [hU]; exact alloc_blk S7 _
          have p8 := putV_s bs
          have nU : U.next = n + 4 := by rw [hU, alloc_next, n7]
          have E7U : Ext S7 U := by rw [hU]; exact Ext.alloc S7 _
          have EU := E6.trans (E67.trans E7U)
          have bmU : U.blk n = some mc.cells := by rw [E7U.2.2 _ (by omega), E67.2.2 _ (by omega)]; exact bm6
          have bvU : U.blk (n + 1) = some [.bool vert] := by rw [E7U.2.2 _ (by omega), E67.2.2 _ (by omega)]; exact bv6
          have blU : U.blk S6.next = some [isN L] := by rw [E7U.2.2 _ (by omega)]; exact b7l
          have hOU : Obj U p q fi w ms := h.keep EU.1 (EU.2.2 _ h.lp) fun h0 => EU.2.2 _ (h.lq h0)
          have gl := (lf_good (fi := fi) (w := w) hOU.good).1
          have bl : Byt (lf fi w ms).1 := lf_byt hby
          have zs : Bys zM := fun i hi => by
            have : i = 0 := by simp [zM] at hi; exact hi
            omega
          have fs : ∀ a, Bys (fa fi ms a).1 := fun a => by
            unfold fa
            split
            · exact hbs _ (List.getElem_mem _)
            · exact zs
          have sl : Bys (lf fi w ms).1 := by
            unfold lf
            split
            · exact zs
            · exact fs _
          have ga := (fa_good (fi := fi) hOU.good (fi + ms.length - w)).1
          have ba : Byt (fa fi ms (fi + ms.length - w)).1 := fa_byt hby _
          have r1 := mvd1_c hB k hgc hbc hsc hl0 h16 (ab := false) (fl := f_place_Left) (fn := f_near_Near_Left) (by decide) (by decide) gl bl sl
            (place_l hB.toKnown (k + 4) h16 U).1 (left_c hB.no k hOU) blU bmU bs bvU (by omega)
          obtain ⟨V, hVe⟩ : ∃ V, V = U.set S7.next (some [.int .i64 (msum mc (lf fi w ms) false l0 vert 0)]) := ⟨_, rfl⟩
          rw [← hVe] at r1
          have oV : ∀ j, j ≠ S7.next → V.blk j = U.blk j := fun j hj => by rw [hVe]; exact set_other _ _ hj
          have nV : V.next = U.next := by rw [hVe]; rfl
          have hlp := h.lp
          have hOV : Obj V p q fi w ms := hOU.keep (by omega) (oV _ (by omega)) fun h0 => oV _ (by have := h.lq h0; omega)
          have bsV : V.blk S7.next = some [.int .i64 (msum mc (lf fi w ms) false l0 vert 0)] := by rw [hVe, set_blk]
          have r2 := mvd1_c hB k hgc hbc hsc hl0 h16 (ab := true) (fl := f_place_Above) (fn := f_near_Near_Above) (by decide) (by decide) ga ba (fs _)
            (place_a hB.toKnown (k + 4) h16 V).1 (above_c hB.no k hOV) (pl := S6.next) (pm := n) (pv := n + 1) (by rw [oV _ (by omega)]; exact blU) (by rw [oV _ (by omega)]; exact bmU) bsV (by rw [oV _ (by omega)]; exact bvU) (by omega)
          obtain ⟨W, hW⟩ : ∃ W, W = V.set S7.next (some [.int .i64 (msum mc (fa fi ms (fi + ms.length - w)) true l0 vert (msum mc (lf fi w ms) false l0 vert 0))]) := ⟨_, rfl⟩
          rw [← hW] at r2
          have bsW : W.blk S7.next = some [.int .i64 (msum mc (fa fi ms (fi + ms.length - w)) true l0 vert (msum mc (lf fi w ms) false l0 vert 0))] := by rw [hW, set_blk]
          have EW : Ext T W := by
            rw [hW, hVe]
            exact (EU.set (by omega) _).set (by omega) _
          have hcl : ∀ l : List Nat, cell (isN l) = true := fun _ => rfl
          simp only [bO_s, gB_t, asBool_b, asInt_i, asAgg_a, asTup_a, asStr_s, asCons_c, nthA_0, nthA_s, aggCells_a, addV_p, seeV_p, seeV_i, same_nil, tr_same, eql4, neq4, decide_true, decide_false, Bool.false_eq_true, if_false, if_true, Bool.not_true, Bool.not_false, Bool.and_true, Bool.true_and, Bool.and_self, List.getElem?_cons_zero, List.getElem?_cons_succ, Nat.zero_add, Nat.add_zero, beq_self_eq_true, bne_self_eq_false, Int.reduceBNe, Int.reduceBEq, Int.reduceLT, Int.reduceGT, Int.reduceLE, Int.reduceGE, Nat.reduceAdd, Nat.reduceMul, Nat.reduceLeDiff, hpe0, bm, g24, l26, hlt, hneg, hge, l29, h29, List.drop_zero, t29, e2, hcell, pm1, hsl, hcc, List.all_cons, List.all_nil, pm2, bm6, g0c, lc, h23, e3, hcl, p7]
          rw [← hU]
          simp only [bO_s, gB_t, asBool_b, asInt_i, asAgg_a, asTup_a, asStr_s, asCons_c, nthA_0, nthA_s, aggCells_a, addV_p, seeV_p, seeV_i, same_nil, tr_same, eql4, neq4, decide_true, decide_false, Bool.false_eq_true, if_false, if_true, Bool.not_true, Bool.not_false, Bool.and_true, Bool.true_and, Bool.and_self, List.getElem?_cons_zero, List.getElem?_cons_succ, Nat.zero_add, Nat.add_zero, beq_self_eq_true, bne_self_eq_false, Int.reduceBNe, Int.reduceBEq, Int.reduceLT, Int.reduceGT, Int.reduceLE, Int.reduceGE, Nat.reduceAdd, Nat.reduceMul, Nat.reduceLeDiff, p8, r1, r2, bsW]
          rw [tr_S rfl EW]
          rfl
  · have hpe0 : ((m.pErr : Int) != 0) = true := by rw [bne_iff_ne]; omega
    have hE : mvdE m part = 2 := by unfold mvdE; rw [if_pos (.inl hpe)]
    have hV : mvdV (lf fi w ms) (fa fi ms (fi + ms.length - w)) m part vert = 0 := by unfold mvdV; rw [hE, if_neg (by decide)]
    rw [hE, hV]
    simp only [bO_s, gB_t, asBool_b, asInt_i, asAgg_a, asTup_a, asStr_s, asCons_c, nthA_0, nthA_s, aggCells_a, addV_p, seeV_p, seeV_i, same_nil, tr_same, eql4, neq4, decide_true, decide_false, Bool.false_eq_true, if_false, if_true, Bool.not_true, Bool.not_false, Bool.and_true, Bool.true_and, Bool.and_self, List.getElem?_cons_zero, List.getElem?_cons_succ, Nat.zero_add, Nat.add_zero, beq_self_eq_true, bne_self_eq_false, Int.reduceBNe, Int.reduceBEq, Int.reduceLT, Int.reduceGT, Int.reduceLE, Int.reduceGE, Nat.reduceAdd, Nat.reduceMul, Nat.reduceLeDiff, hpe0]
    rw [trE _ rfl]
    rfl
end Go.Ab.tNearU
