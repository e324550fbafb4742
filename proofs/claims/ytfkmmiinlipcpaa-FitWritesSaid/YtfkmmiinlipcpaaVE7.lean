/- A block is written: vblock.write, Put, Fits. -/
import Derived.Test.YtfkmmiinlipcpaaVE6
set_option maxRecDepth 100000
set_option linter.unusedSimpArgs false
set_option linter.unusedVariables false
set_option linter.unusedSectionVars false
namespace Go.Ab.tV
open Go Go.Proofs

theorem lvC_len {k s : Nat} {v : Int} {b : List Bool} (hk : k ≤ 6) (h : lvC k s v = some b) : b.length ≤ 28 := by
  unfold lvC at h
  split at h
  · cases h
  · rw [← Option.some.inj h]; exact lvB_len hk (by omega)
theorem k0_le (t o : Nat) : k0N t o ≤ 6 := by unfold k0N; split <;> omega
theorem s0_le (o : Nat) : s0N o ≤ 2 := by unfold s0N; split <;> omega
theorem onesB_take (L : List Int) {i : Nat} (hi : i < L.length) : onesB (L.take (i + 1)) = onesB (L.take i) ++ [L[i] == -1] := by
  rw [List.take_add_one, List.getElem?_eq_getElem hi, Option.toList_some]; unfold onesB; rw [List.map_append]; rfl
theorem bitsN_bool (b : Bool) : bitsN 1 (if b = true then 1 else 0) = [b] := by cases b <;> rfl
theorem Blk.mk' {l : List Int} (h1 : ¬ sizedI (l.length : Int) = false) (h2 : ¬ rngd l = false) : Blk l := ⟨by simpa using h1, by simpa using h2⟩
theorem sel_0 {β : Type} (f : List AV → Heap → Option β) (fs : List (List AV → Heap → Option β)) (v : List AV) (S : Heap) : sel (f :: fs) 0 v S = f v S := (rfl)
theorem sel_1 {β : Type} (f g : List AV → Heap → Option β) (fs : List (List AV → Heap → Option β)) (v : List AV) (S : Heap) : sel (f :: g :: fs) 1 v S = g v S := (rfl)
theorem Wr.lt2 {S : Heap} {p q : Nat} {bs : List Bool} (h : Wr S p q bs) : p < S.next := h.lt.1
section
variable {B : CallF} (hB : Silent B) (k : Nat) {S : Heap} {p q : Nat} {bs : List Bool}
include hB
theorem vwrite_c (hw : Wr S p q bs) (hb : bs.length ≤ 1000000) {cls : Int} (hc : 0 ≤ cls ∧ cls ≤ 4) {l : List Int} (hl : Blk l) :
    WOut S p q bs (blkC cls l) (Cn B (k + 6) f_vblock_write 0 [.ptr p 0, .int .i64 cls, .int .i64 (l.length : Int), ofA l] S) := by
  rw [c_vblock_write _ _ _ _ _ _ _ (hB.no _ _ _ _ (kn_no (by decide))), T_vblock_write]
  have htok := hl.tok hc
  have hzer := hl.zer
  have htot := hl.tot
  have hzr := hl.zr
  have hmem := fun v hv => hl.mem (v := v) hv
  have hll := hl.len
  have hsum := (rst_sum l).2
  have htl := tokP_len cls (l.length : Int) ((rst l).1.length : Nat) (onesN (rst l).1 : Nat)
  have hzl := zerP_len (l.length : Int) ((rst l).1.length : Nat) (rZ l : Nat)
  unfold ofA blkC
  obtain ⟨L, hL⟩ : ∃ L, L = (rst l).1 := ⟨_, rfl⟩
  obtain ⟨M, hM⟩ : ∃ M, M = (rst l).2.1 := ⟨_, rfl⟩
  obtain ⟨Z, hZ⟩ : ∃ Z, Z = rZ l := ⟨_, rfl⟩
  rw [← hL] at htok hzer htot hzr hmem htl hzl hsum ⊢
  rw [← hM] at hzr hsum ⊢
  rw [← hZ] at hzer hzr hzl ⊢
  have e1 := ones_c hB (k + 4) (isl_il S L 0) (by omega) (.int .i64 (Z : Int)) (isl (natI M))
  obtain ⟨S1, q1, e2, p1⟩ := puttoken_c hB k hw (by omega) cls l.length (L.length : Nat) (onesN L : Nat)
  rw [htok] at e2
  have hlen := (isl_il S L 0).len
  simp only [zB, decide_true, decide_false, Bool.false_eq_true, if_false, if_true, List.getElem?_cons_zero, List.getElem?_cons_succ, beq_self_eq_true, bne_self_eq_false, Int.reduceBNe, Int.reduceBEq, Int.reduceLT, Int.reduceGT, Int.reduceLE, Int.reduceGE, Nat.reduceAdd, Nat.reduceMul, Nat.reduceLeDiff, List.length_cons, List.length_nil, hlen, take3, e1, e2]
  by_cases h0 : L = []
  · have c1 : ((L.length : Int) == 0) = true := by rw [h0]; rfl
    rw [if_pos h0]
    refine ⟨S1, q1, 0, _, by simp only [zB, decide_true, decide_false, Bool.false_eq_true, if_false, if_true, List.getElem?_cons_zero, List.getElem?_cons_succ, beq_self_eq_true, bne_self_eq_false, Int.reduceBNe, Int.reduceBEq, Int.reduceLT, Int.reduceGT, Int.reduceLE, Int.reduceGE, Nat.reduceAdd, Nat.reduceMul, Nat.reduceLeDiff, c1], p1, fun K hK => ⟨rfl, ?_⟩, fun h => by cases h⟩
    rw [← Option.some.inj hK]
  rw [if_neg h0]
  have hLp := List.length_pos_iff.2 h0
  have c1 : ((L.length : Int) == 0) = false := by simp; exact h0
  have e3 := slice_hi h0 htot.2.2.2
  have hl3 := (is_il S (L.take (onesN L)) 0).len
  simp only [zB, decide_true, decide_false, Bool.false_eq_true, if_false, if_true, List.getElem?_cons_zero, List.getElem?_cons_succ, beq_self_eq_true, bne_self_eq_false, Int.reduceBNe, Int.reduceBEq, Int.reduceLT, Int.reduceGT, Int.reduceLE, Int.reduceGE, Nat.reduceAdd, Nat.reduceMul, Nat.reduceLeDiff, c1, e3, hl3]
  obtain ⟨tok, htk⟩ : ∃ tok, tok = (tokP cls l.length (L.length : Nat) (onesN L : Nat)).2 := ⟨_, rfl⟩
  rw [← htk] at p1 htl ⊢
  have ho : (L.take (onesN L)).length = onesN L := by rw [List.length_take]; omega
  rw [ho]
  -- the ones
  refine loop_meas (WOut S p q bs _) (fun m st => ∃ (i : Nat) (T : Heap) (q' : Nat), i + m = onesN L ∧ st = ([.ptr p 0, .int .i64 (l.length : Int), .agg [isl L, .int .i64 (Z : Int), isl (natI M)], .int .i64 (L.length : Int), .int .i64 (onesN L : Int), .is (onesN L) (ints (L.take (onesN L))), .int .i64 (onesN L : Int), .int .i64 (i : Int)], T) ∧
      Puts S T p q q' bs (bs ++ tok ++ onesB (L.take i))) (onesN L) ⟨0, S1, q1, by omega, rfl, by rw [List.take_zero]; simpa [onesB] using p1⟩ ?_
  rintro m st ⟨i, T, q2, him, rfl, hP⟩
  have hobl : (onesB (L.take i)).length ≤ 3 := by simp only [onesB, List.length_map, List.length_take]; omega
  cases m with
  | succ m =>
    have hi : i < onesN L := by omega
    have hi2 : i < L.length := by omega
    have c2 : (i : Int) < (onesN L : Int) := by omega
    have hit : i < (L.take (onesN L)).length := by omega
    obtain ⟨t, cs, o, x1, x2, x3⟩ := (is_il T (L.take (onesN L)) 0).at hit
    rw [ho] at x1
    have hv := onesG_at 3 L i hi2 hi
    have hgt : (L.take (onesN L))[i] = L[i] := List.getElem_take
    rw [hgt] at x3
    have w1 := oneBit _ hv
    obtain ⟨T2, q3, e4, p4⟩ := put_c hB (k + 4) hP.1 1 (if (L[i] == -1) = true then 1 else 0) (by omega) (by split <;> omega) (by simp only [List.length_append]; omega)
    rw [bitsN_bool] at p4
    have w2 : IntKind.wrap .i64 ((i : Int) + 1) = ((i + 1 : Nat) : Int) := by rw [wr _ (by omega)]; omega
    rw [show ((1 : Nat) : Int) = 1 from rfl] at e4
    refine .inr ⟨m, ([.ptr p 0, .int .i64 (l.length : Int), .agg [isl L, .int .i64 (Z : Int), isl (natI M)], .int .i64 (L.length : Int), .int .i64 (onesN L : Int), .is (onesN L) (ints (L.take (onesN L))), .int .i64 (onesN L : Int), .int .i64 ((i + 1 : Nat) : Int)], T2), by omega, by simp only [zB, decide_true, decide_false, Bool.false_eq_true, if_false, if_true, List.getElem?_cons_zero, List.getElem?_cons_succ, beq_self_eq_true, bne_self_eq_false, Int.reduceBNe, Int.reduceBEq, Int.reduceLT, Int.reduceGT, Int.reduceLE, Int.reduceGE, Nat.reduceAdd, Nat.reduceMul, Nat.reduceLeDiff, c2, x1, x2, x3, w1, e4, w2], i + 1, T2, q3, by omega, rfl, ?_⟩
    rw [onesB_take L hi2, ← List.append_assoc]
    exact hP.trans p4
  | zero =>
    have hi : i = onesN L := by omega
    subst hi
    have c2 : ¬ ((onesN L : Int) < (onesN L : Int)) := by omega
    refine .inl ⟨(0, [.ptr p 0, .int .i64 (l.length : Int), .agg [isl L, .int .i64 (Z : Int), isl (natI M)], .int .i64 (L.length : Int), .int .i64 (onesN L : Int)], T), by simp only [zB, decide_true, decide_false, Bool.false_eq_true, if_false, if_true, List.getElem?_cons_zero, List.getElem?_cons_succ, beq_self_eq_true, bne_self_eq_false, Int.reduceBNe, Int.reduceBEq, Int.reduceLT, Int.reduceGT, Int.reduceLE, Int.reduceGE, Nat.reduceAdd, Nat.reduceMul, Nat.reduceLeDiff, c2], ?_⟩
    -- the levels
    obtain ⟨T1, e5, hC, f1⟩ := new_c hB (k + 4) (S := T) htot.2.1 htot.2.2.1 htot.2.2.2
    have e6 := slice_lo h0 htot.2.2.2
    have hl6 := (is_il S (L.drop (onesN L)) 0).len
    have hd : (L.drop (onesN L)).length = L.length - onesN L := List.length_drop
    obtain ⟨cp, hcp⟩ : ∃ cp, cp = T.next := ⟨_, rfl⟩
    rw [← hcp] at e5 hC
    simp only [zB, decide_true, decide_false, Bool.false_eq_true, if_false, if_true, List.getElem?_cons_zero, List.getElem?_cons_succ, beq_self_eq_true, bne_self_eq_false, Int.reduceBNe, Int.reduceBEq, Int.reduceLT, Int.reduceGT, Int.reduceLE, Int.reduceGE, Nat.reduceAdd, Nat.reduceMul, Nat.reduceLeDiff, sel_0, sel_1, e5, e6, hl6]
    have hlt := hP.1.lt
    have hP1 : Puts S T1 p q q2 bs (bs ++ tok ++ onesB (L.take (onesN L))) := ⟨hP.1.fr f1 (by simp) (by simp), hP.2.1.trans f1 (fun j hj => by simp at hj), hP.2.2⟩
    rw [hd]
    have hrdp : ∀ i, i < (L.drop (onesN L)).length → (L.drop (onesN L))[i]? = L[onesN L + i]? := fun i _ => List.getElem?_drop
    refine loop_meas (WOut S p q bs _) (fun m st => ∃ (i : Nat) (U : Heap) (q' kk ss : Nat) (done : List Bool), i + m = L.length - onesN L ∧ st = ([.ptr p 0, .int .i64 (l.length : Int), .agg [isl L, .int .i64 (Z : Int), isl (natI M)], .int .i64 (L.length : Int), .ptr cp 0, .is (L.length - onesN L) (ints (L.drop (onesN L))), .int .i64 ((L.length - onesN L : Nat) : Int), .int .i64 (i : Int)], U) ∧
        Puts S U p q q' bs (bs ++ tok ++ onesB (L.take (onesN L)) ++ done) ∧ Cod U cp kk m ss ∧ kk ≤ 6 ∧ ss ≤ 2 ∧ (ss = 0 ∨ i = 0 ∧ ss = s0N (onesN L)) ∧ cp ≠ q' ∧ done.length ≤ 28 * i ∧
        lvsP (k0N L.length (onesN L)) (s0N (onesN L)) (L.drop (onesN L)) = (lvsP kk ss ((L.drop (onesN L)).drop i)).map (done ++ ·)) (L.length - onesN L)
      ⟨0, T1, q2, k0N L.length (onesN L), s0N (onesN L), [], by omega, rfl, by rw [List.append_nil]; exact hP1, hC, k0_le _ _, s0_le _, .inr ⟨rfl, rfl⟩, by omega, by simp, by rw [List.drop_zero]; cases lvsP (k0N L.length (onesN L)) (s0N (onesN L)) (L.drop (onesN L)) <;> simp⟩ ?_
    rintro m st ⟨i, U, q3, kk, ss, done, him, rfl, hQ, hCU, hkk, hss, hs0, hcq, hdl, hlv⟩
    cases m with
    | succ m =>
      have hi : i < (L.drop (onesN L)).length := by omega
      have c3 : (i : Int) < ((L.length - onesN L : Nat) : Int) := by omega
      obtain ⟨t, cs, o, x1, x2, x3⟩ := (is_il U (L.drop (onesN L)) 0).at hi
      rw [hd] at x1
      obtain ⟨v, hv⟩ : ∃ v, v = (L.drop (onesN L))[i] := ⟨_, rfl⟩
      have hvm : v ∈ L := by rw [hv]; exact List.mem_of_mem_drop (List.getElem_mem hi)
      obtain ⟨hv0, hv1, hv2⟩ := hmem v hvm
      rw [← hv] at x3
      have hnot : ss = 0 ∨ v ≠ 1 ∧ v ≠ -1 := by
        rcases hs0 with hs0 | ⟨rfl, hs0⟩
        · exact .inl hs0
        · by_cases h3 : onesN L < 3
          · have h4 : onesN L < L.length := by omega
            have := onesG_stop 3 L h4 h3
            have e : v = L[onesG 3 L]'h4 := by rw [hv]; simp only [List.getElem_drop, Nat.add_zero]; rfl
            rw [e]; simp only [not_or] at this; exact .inr this
          · left; rw [hs0]; unfold s0N; rw [if_neg h3]
      rw [List.drop_eq_getElem_cons hi, ← hv] at hlv
      have hltU := hQ.1.lt
      have hcpp : cp ≠ p := by omega
      cases hb' : lvC kk ss v with
      | none =>
        have e7 := lput_none hB (k + 1) (p := p) hCU hkk hss v (by omega) hv0 hnot hb'
        refine .inl ⟨(1, [.int .i64 12], U), by simp only [zB, decide_true, decide_false, Bool.false_eq_true, if_false, if_true, List.getElem?_cons_zero, List.getElem?_cons_succ, beq_self_eq_true, bne_self_eq_false, Int.reduceBNe, Int.reduceBEq, Int.reduceLT, Int.reduceGT, Int.reduceLE, Int.reduceGE, Nat.reduceAdd, Nat.reduceMul, Nat.reduceLeDiff, c3, x1, x2, x3, e7], ?_⟩
        have : lvsP (k0N L.length (onesN L)) (s0N (onesN L)) (L.drop (onesN L)) = none := by rw [hlv]; simp only [lvsP, hb']; rfl
        rw [this]
        exact ⟨U, q3, 12, _, by simp only [zB, decide_true, decide_false, Bool.false_eq_true, if_false, if_true, List.getElem?_cons_zero, List.getElem?_cons_succ, beq_self_eq_true, bne_self_eq_false, Int.reduceBNe, Int.reduceBEq, Int.reduceLT, Int.reduceGT, Int.reduceLE, Int.reduceGE, Nat.reduceAdd, Nat.reduceMul, Nat.reduceLeDiff, sel_0, sel_1], hQ, fun K hK => (by cases hK), fun _ => rfl⟩
      | some b =>
        obtain ⟨U2, q4, e7, g1, g2, g3, g4⟩ := lput_some hB (k + 1) hCU hQ.1 ⟨hcpp, hcq⟩ (by simp only [List.length_append]; omega) hkk (by omega) hss v (by omega) hv0 hnot hb'
        have hbl := lvC_len hkk hb'
        have w3 : IntKind.wrap .i64 ((i : Int) + 1) = ((i + 1 : Nat) : Int) := by rw [wr _ (by omega)]; omega
        refine .inr ⟨m, ([.ptr p 0, .int .i64 (l.length : Int), .agg [isl L, .int .i64 (Z : Int), isl (natI M)], .int .i64 (L.length : Int), .ptr cp 0, .is (L.length - onesN L) (ints (L.drop (onesN L))), .int .i64 ((L.length - onesN L : Nat) : Int), .int .i64 ((i + 1 : Nat) : Int)], U2), by omega, by simp only [zB, decide_true, decide_false, Bool.false_eq_true, if_false, if_true, List.getElem?_cons_zero, List.getElem?_cons_succ, beq_self_eq_true, bne_self_eq_false, Int.reduceBNe, Int.reduceBEq, Int.reduceLT, Int.reduceGT, Int.reduceLE, Int.reduceGE, Nat.reduceAdd, Nat.reduceMul, Nat.reduceLeDiff, c3, x1, x2, x3, e7, w3], i + 1, U2, q4, aftN kk v.natAbs, 0, done ++ b, by omega, rfl, ?_, g4, (aft_le hkk _).1, by omega, .inl rfl, ?_, by rw [List.length_append]; omega, ?_⟩
        · refine ⟨by rw [← List.append_assoc]; exact g1, hQ.2.1.trans g2 (fun j hj => ?_), ?_⟩
          · have hSU := hQ.2.1.1
            simp only [List.mem_cons, List.not_mem_nil, or_false] at hj ⊢
            rcases hj with rfl | rfl | rfl
            · exact .inl (.inl rfl)
            · rcases hQ.2.2 with h | h
              · exact .inl (.inr h)
              · exact .inr h
            · right; have := hP.2.1.1; omega
          · have hSU := hQ.2.1.1
            rcases g3 with h | h
            · rw [h]; exact hQ.2.2
            · exact .inr (by omega)
        · have := hCU.lt
          rcases g3 with h | h
          · rw [h]; exact hcq
          · omega
        · rw [hlv]
          simp only [lvsP, hb', Option.map_map]
          congr 1
          funext x
          simp [List.append_assoc]
    | zero =>
      have hi : i = L.length - onesN L := by omega
      subst hi
      have c3 : ¬ (((L.length - onesN L : Nat) : Int) < ((L.length - onesN L : Nat) : Int)) := by omega
      refine .inl ⟨(0, [.ptr p 0, .int .i64 (l.length : Int), .agg [isl L, .int .i64 (Z : Int), isl (natI M)], .int .i64 (L.length : Int)], U), by simp only [zB, decide_true, decide_false, Bool.false_eq_true, if_false, if_true, List.getElem?_cons_zero, List.getElem?_cons_succ, beq_self_eq_true, bne_self_eq_false, Int.reduceBNe, Int.reduceBEq, Int.reduceLT, Int.reduceGT, Int.reduceLE, Int.reduceGE, Nat.reduceAdd, Nat.reduceMul, Nat.reduceLeDiff, c3], ?_⟩
      have hdn : List.drop (L.length - onesN L) (List.drop (onesN L) L) = [] := List.drop_eq_nil_of_le (by omega)
      rw [hdn, lvsP_nil, Option.map_some, List.append_nil] at hlv
      rw [hlv, Option.map_some]
      -- the zeros
      obtain ⟨V, q4, e8, p8⟩ := putzeros_c hB (k + 3) hQ.1 (by simp only [List.length_append]; omega) l.length (L.length : Nat) (Z : Nat)
      rw [hzer h0] at e8
      have hP8 := hQ.trans p8
      obtain ⟨zb, hzb⟩ : ∃ zb, zb = (zerP l.length (L.length : Nat) (Z : Nat)).2 := ⟨_, rfl⟩
      rw [← hzb] at hP8 hzl ⊢
      have hlM := (isl_il V (natI M) 0).len
      rw [natI_len] at hlM
      simp only [zB, decide_true, decide_false, Bool.false_eq_true, if_false, if_true, List.getElem?_cons_zero, List.getElem?_cons_succ, beq_self_eq_true, bne_self_eq_false, Int.reduceBNe, Int.reduceBEq, Int.reduceLT, Int.reduceGT, Int.reduceLE, Int.reduceGE, Nat.reduceAdd, Nat.reduceMul, Nat.reduceLeDiff, sel_0, sel_1, e8, hlM]
      have hMl : M.length ≤ 16 := by omega
      have hMs := hzr.2 h0
      refine loop_meas (WOut S p q bs _) (fun m st => ∃ (i left : Nat) (W : Heap) (q' : Nat) (done2 : List Bool), i + m = M.length ∧ st = ([.ptr p 0, .int .i64 (left : Int), isl (natI M), .int .i64 (M.length : Int), .int .i64 (i : Int)], W) ∧
          Puts S W p q q' bs (bs ++ tok ++ onesB (L.take (onesN L)) ++ done ++ zb ++ done2) ∧ left ≤ Z ∧ (M.drop i).sum ≤ left ∧ done2.length ≤ 80 * i ∧ runsP Z M = done2 ++ runsP left (M.drop i)) M.length
        ⟨0, Z, V, q4, [], by omega, rfl, by rw [List.append_nil]; exact hP8, Nat.le_refl _, by rw [List.drop_zero]; exact hMs, by simp, by rw [List.drop_zero]; rfl⟩ ?_
      rintro m st ⟨i, left, W, q5, done2, him, rfl, hR, hlz, hsm, hd2, hrp⟩
      have hfin : ∀ rest, runsP left (M.drop i) = rest → rest = [] → WOut S p q bs (some (tok ++ onesB (L.take (onesN L)) ++ done ++ zb ++ runsP Z M)) (some (AV.int .i64 0, W)) := fun rest h1 h2 => by
        refine ⟨W, q5, 0, _, rfl, hR, fun K hK => ⟨rfl, ?_⟩, fun h => by cases h⟩
        rw [← Option.some.inj hK, hrp, h1, h2, List.append_nil]
        simp only [List.append_assoc]
      cases m with
      | zero =>
        have c4 : ¬ ((i : Int) < (M.length : Int)) := by omega
        refine .inl ⟨(0, [], W), by simp only [zB, decide_true, decide_false, Bool.false_eq_true, if_false, if_true, List.getElem?_cons_zero, List.getElem?_cons_succ, beq_self_eq_true, bne_self_eq_false, Int.reduceBNe, Int.reduceBEq, Int.reduceLT, Int.reduceGT, Int.reduceLE, Int.reduceGE, Nat.reduceAdd, Nat.reduceMul, Nat.reduceLeDiff, c4], ?_⟩
        have := hfin _ rfl (by rw [List.drop_eq_nil_of_le (by omega)]; rfl)
        simp only [zB, decide_true, decide_false, Bool.false_eq_true, if_false, if_true, List.getElem?_cons_zero, List.getElem?_cons_succ, beq_self_eq_true, bne_self_eq_false, Int.reduceBNe, Int.reduceBEq, Int.reduceLT, Int.reduceGT, Int.reduceLE, Int.reduceGE, Nat.reduceAdd, Nat.reduceMul, Nat.reduceLeDiff, sel_0, sel_1]
        exact this
      | succ m =>
        have hi : i < M.length := by omega
        have c4 : (i : Int) < (M.length : Int) := by omega
        have hi' : i < (natI M).length := by rw [natI_len]; exact hi
        obtain ⟨t, cs, o, x1, x2, x3⟩ := (isl_il W (natI M) 0).at hi'
        rw [natI_at hi'] at x3
        by_cases hl0 : left = 0
        · have c5 : ((left : Int) == 0) = true := by simp [hl0]
          refine .inl ⟨(0, [], W), by simp only [zB, decide_true, decide_false, Bool.false_eq_true, if_false, if_true, List.getElem?_cons_zero, List.getElem?_cons_succ, beq_self_eq_true, bne_self_eq_false, Int.reduceBNe, Int.reduceBEq, Int.reduceLT, Int.reduceGT, Int.reduceLE, Int.reduceGE, Nat.reduceAdd, Nat.reduceMul, Nat.reduceLeDiff, c4, x1, x2, x3, c5], ?_⟩
          have := hfin _ rfl (by rw [hl0]; exact runsP_zero _ (by omega))
          simp only [zB, decide_true, decide_false, Bool.false_eq_true, if_false, if_true, List.getElem?_cons_zero, List.getElem?_cons_succ, beq_self_eq_true, bne_self_eq_false, Int.reduceBNe, Int.reduceBEq, Int.reduceLT, Int.reduceGT, Int.reduceLE, Int.reduceGE, Nat.reduceAdd, Nat.reduceMul, Nat.reduceLeDiff, sel_0, sel_1]
          exact this
        · have c5 : ((left : Int) == 0) = false := by simp [hl0]
          rw [List.drop_eq_getElem_cons hi, List.sum_cons] at hsm
          obtain ⟨W2, q6, e9, p9⟩ := putrun_c hB (k + 3) hR.1 (by simp only [List.length_append]; omega) (left : Nat) (M[i] : Nat)
          have hr0 : (runP (left : Nat) (M[i] : Nat)).1 = 0 := by
            unfold runP
            rw [if_neg (by omega)]
            split <;> rfl
          rw [hr0] at e9
          have hrl := runP_len (left : Int) (M[i] : Nat)
          have w4 : IntKind.wrap .i64 ((left : Int) - ((M[i] : Nat) : Int)) = ((left - M[i] : Nat) : Int) := by rw [wr _ (by omega)]; omega
          have w5 : IntKind.wrap .i64 ((i : Int) + 1) = ((i + 1 : Nat) : Int) := by rw [wr _ (by omega)]; omega
          refine .inr ⟨m, ([.ptr p 0, .int .i64 ((left - M[i] : Nat) : Int), isl (natI M), .int .i64 (M.length : Int), .int .i64 ((i + 1 : Nat) : Int)], W2), by omega, by simp only [zB, decide_true, decide_false, Bool.false_eq_true, if_false, if_true, List.getElem?_cons_zero, List.getElem?_cons_succ, beq_self_eq_true, bne_self_eq_false, Int.reduceBNe, Int.reduceBEq, Int.reduceLT, Int.reduceGT, Int.reduceLE, Int.reduceGE, Nat.reduceAdd, Nat.reduceMul, Nat.reduceLeDiff, c4, x1, x2, x3, c5, e9, w4, w5], i + 1, left - M[i], W2, q6, done2 ++ (runP (left : Nat) (M[i] : Nat)).2, by omega, rfl, ?_, by omega, by omega, by rw [List.length_append]; omega, ?_⟩
          · rw [← List.append_assoc]; exact hR.trans p9
          · rw [hrp, List.drop_eq_getElem_cons hi]; simp only [runsP, List.append_assoc]
theorem vput_c (hw : Wr S p q bs) (hb : bs.length ≤ 1000000) (cls : Int) {a : AV} {l : List Int} {d : Nat} (hl : IL S a l d) (hd : d ≠ p ∧ d ≠ q) (hlen : l.length ≤ 1000000000) :
    ∃ S' q', Cn B (k + 7) f_vblock_Put 0 [.ptr p 0, .int .i64 cls, a] S = some (.int .i64 (putR cls l).1, S') ∧ Puts S S' p q q' bs (bs ++ (putR cls l).2) := by
  rw [c_vblock_Put _ _ _ _ _ _ (hB.no _ _ _ _ (kn_no (by decide))), T_vblock_Put]
  unfold putR
  by_cases g1 : cls < 0
  · rw [if_pos (.inl g1)]
    exact ⟨S, q, by simp only [zB, decide_true, decide_false, Bool.false_eq_true, if_false, if_true, List.getElem?_cons_zero, List.getElem?_cons_succ, beq_self_eq_true, bne_self_eq_false, Int.reduceBNe, Int.reduceBEq, Int.reduceLT, Int.reduceGT, Int.reduceLE, Int.reduceGE, Nat.reduceAdd, Nat.reduceMul, Nat.reduceLeDiff, g1], by rw [List.append_nil]; exact Puts.refl hw⟩
  by_cases g2 : cls > 4
  · rw [if_pos (.inr (.inl g2))]
    exact ⟨S, q, by simp only [zB, decide_true, decide_false, Bool.false_eq_true, if_false, if_true, List.getElem?_cons_zero, List.getElem?_cons_succ, beq_self_eq_true, bne_self_eq_false, Int.reduceBNe, Int.reduceBEq, Int.reduceLT, Int.reduceGT, Int.reduceLE, Int.reduceGE, Nat.reduceAdd, Nat.reduceMul, Nat.reduceLeDiff, g1, g2], by rw [List.append_nil]; exact Puts.refl hw⟩
  have e1 := vsized_c hB (k + 5) (S := S) (l.length : Int)
  by_cases g3 : sizedI (l.length : Int) = false
  · rw [if_pos (.inr (.inr (.inl g3)))]
    rw [g3] at e1
    exact ⟨S, q, by simp only [zB, decide_true, decide_false, Bool.false_eq_true, if_false, if_true, List.getElem?_cons_zero, List.getElem?_cons_succ, beq_self_eq_true, bne_self_eq_false, Int.reduceBNe, Int.reduceBEq, Int.reduceLT, Int.reduceGT, Int.reduceLE, Int.reduceGE, Nat.reduceAdd, Nat.reduceMul, Nat.reduceLeDiff, g1, g2, hl.len, e1], by rw [List.append_nil]; exact Puts.refl hw⟩
  obtain ⟨S1, e2, f2⟩ := of_c hB (k + 4) hl hlen
  have g3' : sizedI (l.length : Int) = true := by simpa using g3
  rw [g3'] at e1
  unfold ofR at e2
  rw [if_neg g3] at e2
  by_cases g4 : rngd l = false
  · rw [if_pos (.inr (.inr (.inr g4)))]
    rw [if_pos g4] at e2
    refine ⟨S1, q, ?_, by rw [List.append_nil]; exact ⟨hw.fr f2 (by simp) (by simp), f2.nil, .inl rfl⟩⟩
    unfold zR at e2
    simp only [zB, decide_true, decide_false, Bool.false_eq_true, if_false, if_true, List.getElem?_cons_zero, List.getElem?_cons_succ, beq_self_eq_true, bne_self_eq_false, Int.reduceBNe, Int.reduceBEq, Int.reduceLT, Int.reduceGT, Int.reduceLE, Int.reduceGE, Nat.reduceAdd, Nat.reduceMul, Nat.reduceLeDiff, g1, g2, hl.len, e1, e2, List.length_cons, List.length_nil, List.all_cons, List.all_nil, cell_nils, cell_i]
  rw [if_neg (by simp only [not_or]; exact ⟨g1, g2, g3, g4⟩)]
  rw [if_neg g4] at e2
  have hblk := Blk.mk' g3 g4
  obtain ⟨S2, e3, w3, f3⟩ := write_c hB (k + 5) (S := S1)
  obtain ⟨S3, q3, r3, bs3, e4, p4, k4, n4⟩ := vwrite_c hB k w3 (by simp) (cls := cls) ⟨by omega, by omega⟩ hblk
  have hl1 := (hl.fr f2 (by simp)).fr f3 (by simp)
  have hltp := hw.lt
  have hn1 := f2.1
  have hn2 := f3.1
  have hF3 : Fr S S3 [] := (f2.trans f3 (fun j hj => by simp at hj)).trans p4.2.1 (fun j hj => .inr (by simp at hj; omega))
  have hw3 : Wr S3 p q bs := hw.fr hF3 (by simp) (by simp)
  have hl3 : IL S3 a l d := hl.fr hF3 (by simp)
  unfold ofA at e2 e4
  cases hK : blkC cls l with
  | none =>
    have := n4 hK
    subst this
    refine ⟨S3, q, ?_, by rw [List.append_nil]; exact ⟨hw3, hF3.nil, .inl rfl⟩⟩
    simp only [zB, decide_true, decide_false, Bool.false_eq_true, if_false, if_true, List.getElem?_cons_zero, List.getElem?_cons_succ, beq_self_eq_true, bne_self_eq_false, Int.reduceBNe, Int.reduceBEq, Int.reduceLT, Int.reduceGT, Int.reduceLE, Int.reduceGE, Nat.reduceAdd, Nat.reduceMul, Nat.reduceLeDiff, g1, g2, hl.len, e1, e2, List.length_cons, List.length_nil, List.all_cons, List.all_nil, isl_cell, cell_i, e3, hl1.len, set3_a, take3, e4]
  | some Kb =>
    obtain ⟨hr, hb3⟩ := k4 Kb hK
    subst hr
    obtain ⟨S4, q4, r4, bs4, e5, p5, k5, n5⟩ := vwrite_c hB k hw3 hb (cls := cls) ⟨by omega, by omega⟩ hblk
    obtain ⟨hr5, hb5⟩ := k5 Kb hK
    subst hr5 hb5
    unfold ofA at e5
    refine ⟨S4, q4, ?_, p5.1, hF3.nil.trans p5.2.1 (fun j hj => .inl hj), ?_⟩
    · simp only [zB, decide_true, decide_false, Bool.false_eq_true, if_false, if_true, List.getElem?_cons_zero, List.getElem?_cons_succ, beq_self_eq_true, bne_self_eq_false, Int.reduceBNe, Int.reduceBEq, Int.reduceLT, Int.reduceGT, Int.reduceLE, Int.reduceGE, Nat.reduceAdd, Nat.reduceMul, Nat.reduceLeDiff, g1, g2, hl.len, e1, e2, List.length_cons, List.length_nil, List.all_cons, List.all_nil, isl_cell, cell_i, e3, hl1.len, set3_a, take3, e4, hl3.len, e5]
    · rcases p5.2.2 with h | h
      · exact .inl h
      · exact .inr (by have := hF3.1; omega)
theorem vfits_c {a : AV} {l : List Int} {d : Nat} (hl : IL S a l d) (hd : d < S.next ∨ ∀ S, IL S a l 0) (hlen : l.length ≤ 1000000000) : ∃ S', Cn B (k + 8) f_vblock_Fits 0 [a] S = some (.bool ((putR 0 l).1 == 0), S') ∧ Fr S S' [] := by
  rw [c_vblock_Fits _ _ _ _ (hB.no _ _ _ _ (kn_no (by decide))), T_vblock_Fits]
  obtain ⟨S1, e1, w1, f1⟩ := write_c hB (k + 6) (S := S)
  have key : ∃ d', IL S1 a l d' ∧ d' ≠ S.next := by
    rcases hd with hd | hd
    · exact ⟨d, hl.fr f1 (by simp), by omega⟩
    · by_cases h0 : S.next = 0
      · rcases hd S1 with h | h | ⟨h1, h2, h3⟩
        · exact ⟨1, .inl h, by omega⟩
        · exact ⟨1, .inr (.inl h), by omega⟩
        · rcases hd ⟨0, fun _ => none, (none, [])⟩ with h | h | ⟨_, h, _⟩
          · exact ⟨1, .inl h, by omega⟩
          · exact ⟨1, .inr (.inl h), by omega⟩
          · cases h
      · exact ⟨0, hd S1, by omega⟩
  obtain ⟨d', hl1, hd'⟩ := key
  obtain ⟨S2, q2, e2, p2⟩ := vput_c hB k w1 (by simp) 0 hl1 ⟨hd', hd'⟩ hlen
  exact ⟨S2, by simp only [zB, decide_true, decide_false, Bool.false_eq_true, if_false, if_true, List.getElem?_cons_zero, List.getElem?_cons_succ, beq_self_eq_true, bne_self_eq_false, Int.reduceBNe, Int.reduceBEq, Int.reduceLT, Int.reduceGT, Int.reduceLE, Int.reduceGE, Nat.reduceAdd, Nat.reduceMul, Nat.reduceLeDiff, e1, e2], f1.trans p2.2.1 (fun j hj => .inr (by simp at hj; omega))⟩
end
end Go.Ab.tV
