/- CountGrows: the law. -/
import Derived.Test.YtcnenkckcemhdaaCnsF2
import Derived.Test.YtcnenkckcemhdaaCnsWC
set_option maxRecDepth 100000
set_option linter.unusedSimpArgs false
set_option linter.unusedVariables false
set_option linter.unusedSectionVars false
namespace Go.Ab.tNearU
open Go Go.Proofs

theorem Obj.ext {S T : Heap} {p q : Nat} {fi w : Int} {ms : List M} (h : Obj S p q fi w ms) (hE : Ext S T) : Obj T p q fi w ms := h.keep hE.1 (hE.2.2 _ h.lp) fun h0 => hE.2.2 _ (h.lq h0)
theorem LeL.norm {ms ms' : List M} (h : LeL ms ms') (hg : ∀ m ∈ ms', Good 1000 m) : LeL ms (ms'.map M.norm) := ⟨by rw [List.length_map]; exact h.len, fun i h1 h2 => by
  rw [List.getElem_map]
  exact (h.at' i h1 (by rw [List.length_map] at h2; exact h2)).norm (hg _ (List.getElem_mem _))⟩
theorem LeL.refl (ms : List M) : LeL ms ms := ⟨rfl, fun _ _ _ => Le.refl _⟩
theorem LeL.set {ms : List M} {i : Nat} (hi : i < ms.length) {m' : M} (h : Le ms[i] m') : LeL ms (ms.set i m') := ⟨by rw [List.length_set], fun j h1 h2 => by
  by_cases hj : i = j
  · subst hj; rw [List.getElem_set_self]; exact h
  · rw [List.getElem_set_ne hj]; exact Le.refl _⟩
theorem grow_w {T : Heap} {x : AV} {ds ms : List M} {ids : List Nat} (h : SoM T x ds ms ids) (hg : ∀ m ∈ ms, Good 1000 m) (hby : ∀ m ∈ ms, Byt m) {i j k n id : Nat} {cs : List AV} (hi : i < ms.length) (hj : j < (cut ms[i].b).length) (hk : k < n) (hc : cs.length = n)
    (h1 : (cut ms[i].b)[j] = .is n cs) (h2 : cs[k]? = some (.int .i64 0))
    (hs : SoM (T.set id (some (cs.set k (.int .i64 1)))) x ds (ms.set i { ms[i] with b := .is (cut ms[i].b).length ((cut ms[i].b).set j (.is n (cs.set k (.int .i64 1)))) }) ids) :
    ∃ ms', SoM (T.set id (some (cs.set k (.int .i64 1)))) x ds ms' ids ∧ LeL ms ms' ∧ (∀ m ∈ ms', Good 1000 m) ∧ (∀ m ∈ ms', Byt m) := by
  have hgi := hg _ (List.getElem_mem hi)
  have hR := hgi.b.mem _ (List.getElem_mem hj)
  rw [h1] at hR
  have hI : ints cs := by
    obtain h0 | ⟨n', cs', h0, _, _, h3⟩ := hR
    · cases h0
    · cases h0; exact h3
  have hkc : k < cs.length := by omega
  have hck : cs[k] = .int .i64 0 := by
    rw [List.getElem?_eq_getElem hkc] at h2; exact Option.some.inj h2
  have hn := nzL_set cs hkc (.int .i64 1)
  rw [hck] at hn
  have hz : (if isNz (AV.int .i64 0) = true then 1 else 0) = 0 := rfl
  have ho : (if isNz (AV.int .i64 1) = true then 1 else 0) = 1 := rfl
  rw [hz, ho] at hn
  obtain ⟨r1, r2⟩ := relB_set (ρ := (· ≤ ·)) (fun n => Nat.le_refl n) hgi.b hj h1 (cs' := cs.set k (.int .i64 1)) (List.length_set ..) (ints_set hI k 1) (by omega)
  refine ⟨_, hs, LeL.set hi r2.le, fun m hm => ?_, fun m hm => ?_⟩
  · rcases List.mem_or_eq_of_mem_set hm with hm | rfl
    · exact hg m hm
    · exact ⟨hgi.pre, hgi.r, hgi.v, r1⟩
  · rcases List.mem_or_eq_of_mem_set hm with hm | rfl
    · exact hby m hm
    · have := hby _ (List.getElem_mem hi)
      exact ⟨this.k, this.c⟩
set_option maxHeartbeats 1000000 in
theorem countGrows_c {B : CallF} (hB : Known B) (k : Nat) {a : AV} {ms : List M} (ha : ∀ S, Rd S a ms) (hl : ms.length ≤ maxLen) (hA : ∀ m ∈ ms, Arg m) {m : M} (hm : Arg m) (fi w : Int) (u v : Nat) (hu : u ≤ 255) (hv : v ≤ 255) :
    ∃ S', Cn B (k + 9) f_spindlelaw15_CountGrows 0 [.int .i64 fi, .int .i64 w, a, .agg m.cells, .int .u8 (u : Int), .int .u8 (v : Int)] S0 = some (.bool true, S') := by
  rw [c_spindlelaw15_CountGrows _ _ _ _ _ _ _ _ _ (hB.no _ _ _ _ (by decide)), T_spindlelaw15_CountGrows]
  have hgM := hm.good
  have l29 := M.len hgM.pre
  have t29 : List.take 29 m.cells = m.cells := M.t29 hgM.pre
  have h29 : (29 : Nat) ≤ 29 := by omega
  have z29 := M.z hgM.pre
  obtain ⟨b1, f1, f1'⟩ := few_c hB.no (k + 7) (ha S0) (fun x hx => (hA x hx).good) hl 6
  obtain ⟨b2, f2, f2'⟩ := few_c hB.no (k + 7) (rd_one m S0) (fun x hx => by rw [List.mem_singleton] at hx; subst hx; exact hgM) (by rw [List.length_singleton]; have := maxLen_is; omega) 1
  have hlen := (ha S0).len
  cases b1 with
  | false =>
    simp only [bO_s, gB_t, asBool_b, asInt_i, asAgg_a, asTup_a, asStr_s, asCons_c, nthA_0, nthA_s, aggCells_a, addV_p, seeV_p, seeV_i, same_nil, tr_same, eql4, neq4, decide_true, decide_false, Bool.false_eq_true, if_false, if_true, Bool.not_true, Bool.not_false, Bool.and_true, Bool.true_and, Bool.and_self, List.getElem?_cons_zero, List.getElem?_cons_succ, Nat.zero_add, Nat.add_zero, beq_self_eq_true, bne_self_eq_false, Int.reduceBNe, Int.reduceBEq, Int.reduceLT, Int.reduceGT, Int.reduceLE, Int.reduceGE, Nat.reduceAdd, Nat.reduceMul, Nat.reduceLeDiff, l29, f1]
    exact ⟨_, rfl⟩
  | true =>
    cases b2 with
    | false =>
      simp only [bO_s, gB_t, asBool_b, asInt_i, asAgg_a, asTup_a, asStr_s, asCons_c, nthA_0, nthA_s, aggCells_a, addV_p, seeV_p, seeV_i, same_nil, tr_same, eql4, neq4, decide_true, decide_false, Bool.false_eq_true, if_false, if_true, Bool.not_true, Bool.not_false, Bool.and_true, Bool.true_and, Bool.and_self, List.getElem?_cons_zero, List.getElem?_cons_succ, Nat.zero_add, Nat.add_zero, beq_self_eq_true, bne_self_eq_false, Int.reduceBNe, Int.reduceBEq, Int.reduceLT, Int.reduceGT, Int.reduceLE, Int.reduceGE, Nat.reduceAdd, Nat.reduceMul, Nat.reduceLeDiff, l29, f1, List.drop_zero, t29, h29, z29, f2]
      exact ⟨_, rfl⟩
    | true =>
      obtain ⟨len6, g60⟩ := f1' rfl
      obtain ⟨_, gm60⟩ := f2' rfl
      have hg : Good 1000 m := (gm60 m (List.mem_singleton.2 rfl)).mono (by omega)
      have hgs : ∀ x ∈ ms, Good 1000 x := fun x hx => (g60 x hx).mono (by omega)
      have hb : Byt m := hm.byt hgM.pre
      have hgn : ∀ x ∈ ms.map M.norm, Good 1000 x := fun x hx => by
        obtain ⟨y, hy, rfl⟩ := List.mem_map.1 hx
        exact (hgs y hy).norm
      have hbs : ∀ x ∈ ms.map M.norm, Byt x := fun x hx => by
        obtain ⟨y, hy, rfl⟩ := List.mem_map.1 hx
        exact ⟨((hA y hy).byt (hA y hy).good.pre).k, (hA y hy).cb⟩
      by_cases h0 : ms.length = 0
      · have hz : ((ms.length : Int) == 0) = true := by rw [h0]; rfl
        simp only [bO_s, gB_t, asBool_b, asInt_i, asAgg_a, asTup_a, asStr_s, asCons_c, nthA_0, nthA_s, aggCells_a, addV_p, seeV_p, seeV_i, same_nil, tr_same, eql4, neq4, decide_true, decide_false, Bool.false_eq_true, if_false, if_true, Bool.not_true, Bool.not_false, Bool.and_true, Bool.true_and, Bool.and_self, List.getElem?_cons_zero, List.getElem?_cons_succ, Nat.zero_add, Nat.add_zero, beq_self_eq_true, bne_self_eq_false, Int.reduceBNe, Int.reduceBEq, Int.reduceLT, Int.reduceGT, Int.reduceLE, Int.reduceGE, Nat.reduceAdd, Nat.reduceMul, Nat.reduceLeDiff, l29, f1, List.drop_zero, t29, h29, z29, f2, hlen, hz]
        exact ⟨_, rfl⟩
      have hz : ((ms.length : Int) == 0) = false := by
        rw [beq_eq_false_iff_ne]; omega
      obtain ⟨x, T, ds, ids, e1, hx, hpd, hin, hE⟩ := copyMbs1_c hB.no (k + 4) (DMs.arg ha S0) (fun j hj => by cases hj) hgs (by omega)
      have hnl : (ms.map M.norm).length = ms.length := List.length_map _
      have hi : ms.length - 1 < (ms.map M.norm).length := by omega
      obtain ⟨q, hi', idx, rfl, hq, hd, hidx, hupd⟩ := hx.upd hi
      have hgi := hgn _ (List.getElem_mem hi)
      have hlx := hx.dms.len
      have hw1 : IntKind.wrap .i64 (((ms.map M.norm).length : Int) - 1) = ((ms.length - 1 : Nat) : Int) := by rw [wr _ (by omega)]; omega
      have hix : aIdx 29 (.hs q 0 (ms.map M.norm).length 29) ((ms.length - 1 : Nat) : Int) = some (.ptr q (0 + (ms.length - 1) * 29)) := by
        simp only [aIdx, Int.toNat_natCast]
        rw [if_pos ⟨by omega, by omega, trivial⟩]
      have hfl := flat_len hpd
      have hle : (ms.length - 1) * 29 + 29 ≤ (flat ds).length := by rw [hfl]; omega
      have hat := flat_at hpd hi'
      have hdp : ds[ms.length - 1].pre.length = 23 := by rw [hd.pre]; exact hgi.pre
      have ld := M.len hdp
      have zd := M.z hdp
      have cd := hd.cell hgi
      have g27 := M.g27 hdp
      have hdl := dm_len hd hgi
      simp only [bO_s, gB_t, asBool_b, asInt_i, asAgg_a, asTup_a, asStr_s, asCons_c, nthA_0, nthA_s, aggCells_a, addV_p, seeV_p, seeV_i, same_nil, tr_same, eql4, neq4, decide_true, decide_false, Bool.false_eq_true, if_false, if_true, Bool.not_true, Bool.not_false, Bool.and_true, Bool.true_and, Bool.and_self, List.getElem?_cons_zero, List.getElem?_cons_succ, Nat.zero_add, Nat.add_zero, beq_self_eq_true, bne_self_eq_false, Int.reduceBNe, Int.reduceBEq, Int.reduceLT, Int.reduceGT, Int.reduceLE, Int.reduceGE, Nat.reduceAdd, Nat.reduceMul, Nat.reduceLeDiff, l29, f1, List.drop_zero, t29, h29, z29, f2, hlen, hz, e1, hlx, hw1, hix, hq, hle, hat, ld, zd, cd, g27, hdl]
      refine bO_ex (fun (o : Option (AV × Heap)) => ∃ S', o = some (.bool true, S')) (fun y => ∃ T' ms', y = ([.int .i64 fi, .int .i64 w, a, .agg m.cells, .hs q 0 (ms.map M.norm).length 29], T') ∧ SoM T' (.hs q 0 (ms.map M.norm).length 29) ds ms' ids ∧ LeL (ms.map M.norm) ms' ∧ (∀ m ∈ ms', Good 1000 m) ∧ (∀ m ∈ ms', Byt m) ∧ Ext S0 T') ?_ ?_
      · by_cases hb0 : (cut (ms.map M.norm)[ms.length - 1].b).length = 0
        · have hb0' : ¬ (((cut (ms.map M.norm)[ms.length - 1].b).length : Int) > 0) := by omega
          simp only [bO_s, gB_t, asBool_b, asInt_i, asAgg_a, asTup_a, asStr_s, asCons_c, nthA_0, nthA_s, aggCells_a, addV_p, seeV_p, seeV_i, same_nil, tr_same, eql4, neq4, decide_true, decide_false, Bool.false_eq_true, if_false, if_true, Bool.not_true, Bool.not_false, Bool.and_true, Bool.true_and, Bool.and_self, List.getElem?_cons_zero, List.getElem?_cons_succ, Nat.zero_add, Nat.add_zero, beq_self_eq_true, bne_self_eq_false, Int.reduceBNe, Int.reduceBEq, Int.reduceLT, Int.reduceGT, Int.reduceLE, Int.reduceGE, Nat.reduceAdd, Nat.reduceMul, Nat.reduceLeDiff, hb0']
          exact ⟨_, rfl, T, _, rfl, hx, LeL.refl _, hgn, hbs, hE⟩
        have hb0' : ((cut (ms.map M.norm)[ms.length - 1].b).length : Int) > 0 := by omega
        obtain ⟨j, hjd⟩ : ∃ j, j = u % (cut (ms.map M.norm)[ms.length - 1].b).length := ⟨_, rfl⟩
        have hj : j < (cut (ms.map M.norm)[ms.length - 1].b).length := by rw [hjd]; exact Nat.mod_lt _ (by omega)
        obtain ⟨qb, outs, y, p1, p2, p3, p4⟩ := hd.writeB hj
        have hwu : IntKind.wrap .i64 (u : Int) = (u : Int) := wr _ (by omega)
        have hwv : IntKind.wrap .i64 (v : Int) = (v : Int) := wr _ (by omega)
        have hmod := rem_nat (a := u) hb0
        rw [← hjd] at hmod
        have hixb : aIdx 1 ds[ms.length - 1].b (j : Int) = some (.ptr qb j) := by
          rw [p1]
          simp only [aIdx, Int.toNat_natCast]
          rw [if_pos ⟨by omega, by omega, trivial⟩, Nat.mul_one, Nat.zero_add]
        rcases p4 with ⟨rfl, hno⟩ | ⟨id, n, cs, rfl, r1, r2, r3, r4, r5⟩
        · have l25 : aLen Try.prog 25 .nils = some (.int .i64 0) := by kernel_rfl
          simp only [bO_s, gB_t, asBool_b, asInt_i, asAgg_a, asTup_a, asStr_s, asCons_c, nthA_0, nthA_s, aggCells_a, addV_p, seeV_p, seeV_i, same_nil, tr_same, eql4, neq4, decide_true, decide_false, Bool.false_eq_true, if_false, if_true, Bool.not_true, Bool.not_false, Bool.and_true, Bool.true_and, Bool.and_self, List.getElem?_cons_zero, List.getElem?_cons_succ, Nat.zero_add, Nat.add_zero, beq_self_eq_true, bne_self_eq_false, Int.reduceBNe, Int.reduceBEq, Int.reduceLT, Int.reduceGT, Int.reduceLE, Int.reduceGE, Nat.reduceAdd, Nat.reduceMul, Nat.reduceLeDiff, hb0', hwu, hmod, hixb, p2, p3, l25]
          exact ⟨_, rfl, T, _, rfl, hx, LeL.refl _, hgn, hbs, hE⟩
        · have l25 : aLen Try.prog 25 (.hs id 0 n 1) = some (.int .i64 (n : Int)) := by kernel_rfl
          by_cases hn0 : n = 0
          · have hn0' : ¬ ((n : Int) > 0) := by omega
            simp only [bO_s, gB_t, asBool_b, asInt_i, asAgg_a, asTup_a, asStr_s, asCons_c, nthA_0, nthA_s, aggCells_a, addV_p, seeV_p, seeV_i, same_nil, tr_same, eql4, neq4, decide_true, decide_false, Bool.false_eq_true, if_false, if_true, Bool.not_true, Bool.not_false, Bool.and_true, Bool.true_and, Bool.and_self, List.getElem?_cons_zero, List.getElem?_cons_succ, Nat.zero_add, Nat.add_zero, beq_self_eq_true, bne_self_eq_false, Int.reduceBNe, Int.reduceBEq, Int.reduceLT, Int.reduceGT, Int.reduceLE, Int.reduceGE, Nat.reduceAdd, Nat.reduceMul, Nat.reduceLeDiff, hb0', hwu, hmod, hixb, p2, p3, l25, hn0']
            exact ⟨_, rfl, T, _, rfl, hx, LeL.refl _, hgn, hbs, hE⟩
          have hn0' : (n : Int) > 0 := by omega
          obtain ⟨kk, hkd⟩ : ∃ kk, kk = v % n := ⟨_, rfl⟩
          have hk : kk < n := by rw [hkd]; exact Nat.mod_lt _ (by omega)
          have hmod2 := rem_nat (a := v) hn0
          rw [← hkd] at hmod2
          have hixc : aIdx 1 (.hs id 0 n 1) (kk : Int) = some (.ptr id kk) := by
            simp only [aIdx, Int.toNat_natCast]
            rw [if_pos ⟨by omega, by omega, trivial⟩, Nat.mul_one, Nat.zero_add]
          have hR := hgi.b.mem _ (List.getElem_mem hj)
          rw [r1] at hR
          have hI : ints cs := by
            obtain h0 | ⟨n', cs', h0, _, _, h3⟩ := hR
            · cases h0
            · cases h0; exact h3
          have hkc : kk < cs.length := by omega
          obtain ⟨z, hz'⟩ := hI _ (List.getElem_mem hkc)
          have hgz : cs[kk]? = some (.int .i64 z) := by rw [List.getElem?_eq_getElem hkc, hz']
          by_cases hz0 : z = 0
          · subst hz0
            have hput : putV (.ptr id kk) [.int .i64 1] T = some (T.set id (some (cs.set kk (.int .i64 1)))) := by
              simp only [putV, r2, List.length_cons, List.length_nil, setCells]
              rw [if_pos (by omega)]
            have hpl : (cs.set kk (.int .i64 1)).all plain1 = true := ints_plain (ints_set hI kk 1)
            have hs := hupd (T.set id (some (cs.set kk (.int .i64 1)))) _ (fun j' hj' => set_other _ _ (fun he => hj' (by rw [he]; exact r4))) (r5 (cs.set kk (.int .i64 1)) (by rw [List.length_set]; exact r3) hpl)
            obtain ⟨ms', s1, s2, s3, s4⟩ := grow_w hx hgn hbs hi hj hk r3 r1 hgz hs
            simp only [bO_s, gB_t, asBool_b, asInt_i, asAgg_a, asTup_a, asStr_s, asCons_c, nthA_0, nthA_s, aggCells_a, addV_p, seeV_p, seeV_i, same_nil, tr_same, eql4, neq4, decide_true, decide_false, Bool.false_eq_true, if_false, if_true, Bool.not_true, Bool.not_false, Bool.and_true, Bool.true_and, Bool.and_self, List.getElem?_cons_zero, List.getElem?_cons_succ, Nat.zero_add, Nat.add_zero, beq_self_eq_true, bne_self_eq_false, Int.reduceBNe, Int.reduceBEq, Int.reduceLT, Int.reduceGT, Int.reduceLE, Int.reduceGE, Nat.reduceAdd, Nat.reduceMul, Nat.reduceLeDiff, hb0', hwu, hwv, hmod, hixb, p2, p3, l25, hn0', hmod2, hixc, r2, hgz, hput]
            exact ⟨_, rfl, _, ms', rfl, s1, s2, s3, s4, hE.set (hin id (hidx id r4)).1 _⟩
          · have hzb : (z == 0) = false := by rw [beq_eq_false_iff_ne]; exact hz0
            simp only [bO_s, gB_t, asBool_b, asInt_i, asAgg_a, asTup_a, asStr_s, asCons_c, nthA_0, nthA_s, aggCells_a, addV_p, seeV_p, seeV_i, same_nil, tr_same, eql4, neq4, decide_true, decide_false, Bool.false_eq_true, if_false, if_true, Bool.not_true, Bool.not_false, Bool.and_true, Bool.true_and, Bool.and_self, List.getElem?_cons_zero, List.getElem?_cons_succ, Nat.zero_add, Nat.add_zero, beq_self_eq_true, bne_self_eq_false, Int.reduceBNe, Int.reduceBEq, Int.reduceLT, Int.reduceGT, Int.reduceLE, Int.reduceGE, Nat.reduceAdd, Nat.reduceMul, Nat.reduceLeDiff, hb0', hwu, hwv, hmod, hixb, p2, p3, l25, hn0', hmod2, hixc, r2, hgz, hzb]
            exact ⟨_, rfl, T, _, rfl, hx, LeL.refl _, hgn, hbs, hE⟩
      · rintro y ⟨T', ms', rfl, hx', hLe, hg', hb', hE'⟩
        obtain ⟨x', e2, hx2⟩ := hx'.rd hg'
        have hin' : ∀ j ∈ ids, S0.next ≤ j := fun j hj => (hin j hj).1
        have hE2 := hE'.kill hin'
        have hl' : ms'.length = ms.length := by rw [← hLe.len, hnl]
        have hLn := hLe.norm hg'
        have hbn' : ∀ x ∈ ms'.map M.norm, Byt x := fun x hx => by
          obtain ⟨y, hy, rfl⟩ := List.mem_map.1 hx
          exact ⟨(hb' y hy).k, (hb' y hy).c⟩
        have e9 := fun T => awake_c hB (k + 8) T
        simp only [bO_s, gB_t, asBool_b, asInt_i, asAgg_a, asTup_a, asStr_s, asCons_c, nthA_0, nthA_s, aggCells_a, addV_p, seeV_p, seeV_i, same_nil, tr_same, eql4, neq4, decide_true, decide_false, Bool.false_eq_true, if_false, if_true, Bool.not_true, Bool.not_false, Bool.and_true, Bool.true_and, Bool.and_self, List.getElem?_cons_zero, List.getElem?_cons_succ, Nat.zero_add, Nat.add_zero, beq_self_eq_true, bne_self_eq_false, Int.reduceBNe, Int.reduceBEq, Int.reduceLT, Int.reduceGT, Int.reduceLE, Int.reduceGE, Nat.reduceAdd, Nat.reduceMul, Nat.reduceLeDiff, e2]
        rcases both_c (fi := fi) (w := w) hB.no (k + 2) (S := kill T' ids) ha hgs (by omega) with ⟨hok, T1, q1, q1', c1, hT1, hE3⟩ | ⟨hno, c1⟩
        · rcases both_c (fi := fi) (w := w) hB.no (k + 2) (S := T1) hx2 hg' (by omega) with ⟨hok2, T2, q2, q2', c2, hT2, hE4⟩ | ⟨hno, c2⟩
          · have d1 := lawBlocks_c hB (k + 7) hg hb T2
            have hlen := blA_len m.bls
            have hb27 : m.bls.length ≤ 27 := bls_len m.kind m.cbp
            simp only [bO_s, gB_t, asBool_b, asInt_i, asAgg_a, asTup_a, asStr_s, asCons_c, nthA_0, nthA_s, aggCells_a, addV_p, seeV_p, seeV_i, same_nil, tr_same, eql4, neq4, decide_true, decide_false, Bool.false_eq_true, if_false, if_true, Bool.not_true, Bool.not_false, Bool.and_true, Bool.true_and, Bool.and_self, List.getElem?_cons_zero, List.getElem?_cons_succ, Nat.zero_add, Nat.add_zero, beq_self_eq_true, bne_self_eq_false, Int.reduceBNe, Int.reduceBEq, Int.reduceLT, Int.reduceGT, Int.reduceLE, Int.reduceGE, Nat.reduceAdd, Nat.reduceMul, Nat.reduceLeDiff, c1, c2, eql_ptr, l29, h29, List.drop_zero, t29, d1]
            refine loop_ex (fun (o : Option (AV × Heap)) => ∃ S', o = some (.bool true, S')) (fun i s => s = ([.agg m.cells, .ptr (kill T' ids).next 0, .ptr T1.next 0, blA m.bls, .int .i64 (i : Int)], T2)) (fun x => x = (0, [], T2)) m.bls.length rfl ?_ ?_
            · rintro i s hi2 rfl
              by_cases hin2 : i < m.bls.length
              · have hlt : (i : Int) < (m.bls.length : Int) := by omega
                obtain ⟨p1, p2, p3⟩ := blA_at hin2
                have hw : IntKind.wrap .i64 ((i : Int) + 1) = ((i + 1 : Nat) : Int) := by rw [wr _ (by omega)]; omega
                have hmem : m.bls[i] ∈ m.bls := List.getElem_mem hin2
                have k1 := class_c hB (k + 2) (hT1.a.ext hE4) hbs hg hb hmem
                have k2 := class_c hB (k + 2) hT2.a hbn' hg hb hmem
                have hcl := cls_le (fi := fi) (w := w) hLn m m.bls[i]
                have hnl2 : ¬ (((cls m (lf fi w (ms'.map M.norm)) (fa fi (ms'.map M.norm) (fi + (ms'.map M.norm).length - w)) m.bls[i] : Nat) : Int) < ((cls m (lf fi w (ms.map M.norm)) (fa fi (ms.map M.norm) (fi + (ms.map M.norm).length - w)) m.bls[i] : Nat) : Int)) := by omega
                have h3 : (3 : Nat) ≤ 3 := by omega
                refine .inr ⟨hin2, _, ?_, rfl⟩
                simp only [bO_s, gB_t, asBool_b, asInt_i, asAgg_a, asTup_a, asStr_s, asCons_c, nthA_0, nthA_s, aggCells_a, addV_p, seeV_p, seeV_i, same_nil, tr_same, eql4, neq4, decide_true, decide_false, Bool.false_eq_true, if_false, if_true, Bool.not_true, Bool.not_false, Bool.and_true, Bool.true_and, Bool.and_self, List.getElem?_cons_zero, List.getElem?_cons_succ, Nat.zero_add, Nat.add_zero, beq_self_eq_true, bne_self_eq_false, Int.reduceBNe, Int.reduceBEq, Int.reduceLT, Int.reduceGT, Int.reduceLE, Int.reduceGE, Nat.reduceAdd, Nat.reduceMul, Nat.reduceLeDiff, hlen, hlt, l29, h29, t29, List.drop_zero, p1, p2, p3, k1, k2, hnl2, hw]
              · have hlt : ¬ (i : Int) < (m.bls.length : Int) := by omega
                exact .inl ⟨(0, [], T2), by simp only [bO_s, gB_t, asBool_b, asInt_i, asAgg_a, asTup_a, asStr_s, asCons_c, nthA_0, nthA_s, aggCells_a, addV_p, seeV_p, seeV_i, same_nil, tr_same, eql4, neq4, decide_true, decide_false, Bool.false_eq_true, if_false, if_true, Bool.not_true, Bool.not_false, Bool.and_true, Bool.true_and, Bool.and_self, List.getElem?_cons_zero, List.getElem?_cons_succ, Nat.zero_add, Nat.add_zero, beq_self_eq_true, bne_self_eq_false, Int.reduceBNe, Int.reduceBEq, Int.reduceLT, Int.reduceGT, Int.reduceLE, Int.reduceGE, Nat.reduceAdd, Nat.reduceMul, Nat.reduceLeDiff, hlen, hlt], rfl⟩
            · rintro x rfl
              simp only [bO_s, gB_t, asBool_b, asInt_i, asAgg_a, asTup_a, asStr_s, asCons_c, nthA_0, nthA_s, aggCells_a, addV_p, seeV_p, seeV_i, same_nil, tr_same, eql4, neq4, decide_true, decide_false, Bool.false_eq_true, if_false, if_true, Bool.not_true, Bool.not_false, Bool.and_true, Bool.true_and, Bool.and_self, List.getElem?_cons_zero, List.getElem?_cons_succ, Nat.zero_add, Nat.add_zero, beq_self_eq_true, bne_self_eq_false, Int.reduceBNe, Int.reduceBEq, Int.reduceLT, Int.reduceGT, Int.reduceLE, Int.reduceGE, Nat.reduceAdd, Nat.reduceMul, Nat.reduceLeDiff, sel, e9]
              exact some_tr _ _ _
          · exact absurd (hl' ▸ hok) hno
        · rcases both_c (fi := fi) (w := w) hB.no (k + 2) (S := kill T' ids) hx2 hg' (by omega) with ⟨hok2, T2, q2, q2', c2, hT2, hE4⟩ | ⟨hno2, c2⟩
          · exact absurd (hl' ▸ hok2) hno
          · simp only [bO_s, gB_t, asBool_b, asInt_i, asAgg_a, asTup_a, asStr_s, asCons_c, nthA_0, nthA_s, aggCells_a, addV_p, seeV_p, seeV_i, same_nil, tr_same, eql4, neq4, decide_true, decide_false, Bool.false_eq_true, if_false, if_true, Bool.not_true, Bool.not_false, Bool.and_true, Bool.true_and, Bool.and_self, List.getElem?_cons_zero, List.getElem?_cons_succ, Nat.zero_add, Nat.add_zero, beq_self_eq_true, bne_self_eq_false, Int.reduceBNe, Int.reduceBEq, Int.reduceLT, Int.reduceGT, Int.reduceLE, Int.reduceGE, Nat.reduceAdd, Nat.reduceMul, Nat.reduceLeDiff, c1, c2, eql_nilp, e9]
            exact some_tr _ _ _
end Go.Ab.tNearU
