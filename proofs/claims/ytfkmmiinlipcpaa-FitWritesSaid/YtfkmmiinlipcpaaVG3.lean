/- A block is read: the way of success. -/
import Derived.Test.YtfkmmiinlipcpaaVG2
import Derived.Test.YtfkmmiinlipcpaaVB9
set_option maxRecDepth 100000
set_option linter.unusedSimpArgs false
set_option linter.unusedVariables false
set_option linter.unusedSectionVars false
namespace Go.Ab.tV
open Go Go.Proofs

theorem oneBit2 (v : Int) (h : v = 1 ∨ v = -1) : IntKind.wrap .i64 (1 - IntKind.wrap .i64 (2 * IntKind.wrap .i64 (((if (v == -1) = true then 1 else 0 : Nat)) : Int))) = v := by
  rcases h with rfl | rfl <;> decide
theorem fz_isl (d : Nat) (l : List Int) (S : Heap) : fz (d + 1) (isl l) S = some (isl l, S) := by unfold isl; split <;> rfl
theorem hv_take (L : List Int) {i : Nat} (hi : i < L.length) : L.take (i + 1) = L.take i ++ [L[i]] := by
  rw [List.take_add_one, List.getElem?_eq_getElem hi, Option.toList_some]
section
variable {B : CallF} (hB : Silent B) (k : Nat) {S : Heap} {p : Nat} {s : ByteArray} {a : Nat}
include hB
theorem levels_c (hr : Rdr S p s a) {l : List Int} (hl : Blk l) (h0 : (rst l).1 ≠ []) {b : List Bool} (hb : lvsP (k0N (rst l).1.length (onesN (rst l).1)) (s0N (onesN (rst l).1)) ((rst l).1.drop (onesN (rst l).1)) = some b) (hh : Has s a (onesB ((rst l).1.take (onesN (rst l).1)) ++ b)) :
    ∃ S', Cn B (k + 5) f_vblock_levels 0 [.ptr p 0, .int .i64 ((rst l).1.length : Int), .int .i64 (onesN (rst l).1 : Int)] S = some (.tup [isl (rst l).1, .int .i64 0], S') ∧ Rdr S' p s (a + onesN (rst l).1 + b.length) ∧ Fr S S' [p] := by
  rw [c_vblock_levels _ _ _ _ _ _ (hB.no _ _ _ _ (kn_no (by decide))), T_vblock_levels]
  have htot := hl.tot
  have hmem := fun v hv => hl.mem (v := v) hv
  obtain ⟨L, hL⟩ : ∃ L, L = (rst l).1 := ⟨_, rfl⟩
  rw [← hL] at htot hmem h0 hb hh ⊢
  rw [Has.app] at hh
  have hol : (onesB (L.take (onesN L))).length = onesN L := by simp only [onesB, List.length_map, List.length_take]; omega
  rw [hol] at hh
  have hplt := hr.lt
  simp only [zB, decide_true, decide_false, Bool.false_eq_true, if_false, if_true, List.getElem?_cons_zero, List.getElem?_cons_succ, beq_self_eq_true, bne_self_eq_false, Int.reduceBNe, Int.reduceBEq, Int.reduceLT, Int.reduceGT, Int.reduceLE, Int.reduceGE, Nat.reduceAdd, Nat.reduceMul, Nat.reduceLeDiff]
  refine loop_meas (fun o => ∃ S', o = some (AV.tup [isl L, .int .i64 0], S') ∧ Rdr S' p s (a + onesN L + b.length) ∧ Fr S S' [p]) (fun m st => ∃ (i : Nat) (T : Heap) (q : Nat), i + m = onesN L ∧ st = ([.ptr p 0, .int .i64 (L.length : Int), .int .i64 (onesN L : Int), hv (L.take i) q, .int .i64 (onesN L : Int), .int .i64 (i : Int)], T) ∧
      Rdr T p s (a + i) ∧ HR T (L.take i) q ∧ (L.take i ≠ [] → S.next ≤ q) ∧ Fr S T [p]) (onesN L) ⟨0, S, 0, by omega, rfl, hr, fun h => absurd rfl h, fun h => absurd rfl h, Fr.refl _ _⟩ ?_
  rintro m st ⟨i, T, q, him, rfl, hR, hH, hq, hF⟩
  cases m with
  | succ m =>
    have hi : i < onesN L := by omega
    have hi2 : i < L.length := by omega
    have c1 : (i : Int) < (onesN L : Int) := by omega
    have hle := hh.1.le
    rw [hol] at hle
    obtain ⟨T1, e1, hR1, f1⟩ := bit_ok hB (k + 1) hR (by omega)
    have hbit := hh.1.2 i (by omega)
    have hge : (onesB (L.take (onesN L)))[i]'(by omega) = (L[i] == -1) := by simp [onesB]
    rw [hge] at hbit
    rw [hbit] at e1
    have hva := onesG_at 3 L i hi2 hi
    have w1 := oneBit2 _ hva
    have hnp : L.take i ≠ [] → q ≠ p := fun h => by have := hq h; omega
    have hH1 := hH.fr f1 (fun h => by simp; exact hnp h)
    obtain ⟨T2, e2, hH2, n2, x2, o2⟩ := appI L[i] hH1 (by rw [List.length_take]; omega)
    rw [← hv_take L hi2] at e2 hH2
    have hpn := hR1.lt
    have hF1 : Fr S T1 [p] := hF.trans f1 (fun j hj => .inl hj)
    have hsn := hF1.1
    have hk : ∀ j, j < S.next → T2.blk j = T1.blk j := fun j hj => o2 j (by omega) (by
      by_cases hn : L.take i = []
      · exact .inr hn
      · exact .inl (by have := hq hn; omega))
    have w2 : IntKind.wrap .i64 ((i : Int) + 1) = ((i + 1 : Nat) : Int) := by rw [wr _ (by omega)]; omega
    have z0 : ((0 : Int) != 0) = false := rfl
    refine .inr ⟨m, ([.ptr p 0, .int .i64 (L.length : Int), .int .i64 (onesN L : Int), hv (L.take (i + 1)) T1.next, .int .i64 (onesN L : Int), .int .i64 ((i + 1 : Nat) : Int)], T2), by omega, by simp only [zB, decide_true, decide_false, Bool.false_eq_true, if_false, if_true, List.getElem?_cons_zero, List.getElem?_cons_succ, beq_self_eq_true, bne_self_eq_false, Int.reduceBNe, Int.reduceBEq, Int.reduceLT, Int.reduceGT, Int.reduceLE, Int.reduceGE, Nat.reduceAdd, Nat.reduceMul, Nat.reduceLeDiff, c1, e1, z0, w1, e2, w2], i + 1, T2, T1.next, by omega, rfl, ⟨(hk p hplt).trans hR1.blk, by omega, hR1.sz, by have := hR1.le; omega⟩, hH2, fun _ => hsn, ⟨by omega, x2.trans hF1.2.1, fun j hj hn => (hk j hj).trans (hF1.2.2 j hj hn)⟩⟩
  | zero =>
    have hi : i = onesN L := by omega
    subst hi
    have c1 : ¬ ((onesN L : Int) < (onesN L : Int)) := by omega
    refine .inl ⟨(0, [.ptr p 0, .int .i64 (L.length : Int), .int .i64 (onesN L : Int), hv (L.take (onesN L)) q], T), by simp only [zB, decide_true, decide_false, Bool.false_eq_true, if_false, if_true, List.getElem?_cons_zero, List.getElem?_cons_succ, beq_self_eq_true, bne_self_eq_false, Int.reduceBNe, Int.reduceBEq, Int.reduceLT, Int.reduceGT, Int.reduceLE, Int.reduceGE, Nat.reduceAdd, Nat.reduceMul, Nat.reduceLeDiff, c1], ?_⟩
    obtain ⟨T1, e1, hC, f1⟩ := new_c hB (k + 3) (S := T) htot.2.1 htot.2.2.1 htot.2.2.2
    obtain ⟨cp, hcp⟩ : ∃ cp, cp = T.next := ⟨_, rfl⟩
    rw [← hcp] at e1 hC
    have hcS : S.next ≤ cp := by have := hF.1; omega
    simp only [zB, decide_true, decide_false, Bool.false_eq_true, if_false, if_true, List.getElem?_cons_zero, List.getElem?_cons_succ, beq_self_eq_true, bne_self_eq_false, Int.reduceBNe, Int.reduceBEq, Int.reduceLT, Int.reduceGT, Int.reduceLE, Int.reduceGE, Nat.reduceAdd, Nat.reduceMul, Nat.reduceLeDiff, sel_0, e1]
    have hF1 : Fr S T1 [p] := hF.trans f1 (fun j hj => by simp at hj)
    refine loop_meas (fun o => ∃ S', o = some (AV.tup [isl L, .int .i64 0], S') ∧ Rdr S' p s (a + onesN L + b.length) ∧ Fr S S' [p]) (fun m st => ∃ (i : Nat) (U : Heap) (q kk ss : Nat) (done rest : List Bool), i + m = L.length ∧ onesN L ≤ i ∧ st = ([.ptr p 0, .int .i64 (L.length : Int), hv (L.take i) q, .ptr cp 0], U) ∧
        Rdr U p s (a + onesN L + done.length) ∧ HR U (L.take i) q ∧ (L.take i ≠ [] → S.next ≤ q ∧ q ≠ cp) ∧ Cod U cp kk m ss ∧ kk ≤ 6 ∧ (ss = 0 ∨ ss = 2) ∧ (ss = 0 ∨ i = onesN L ∧ ss = s0N (onesN L)) ∧ Fr S U [p] ∧ lvsP kk ss (L.drop i) = some rest ∧ Has s (a + onesN L + done.length) rest ∧ done.length + rest.length = b.length) (L.length - onesN L)
      ⟨onesN L, T1, q, _, _, [], b, by omega, Nat.le_refl _, rfl, (by simpa using hR.fr f1 (by simp)), hH.fr f1 (fun _ => by simp), fun h => ⟨hq h, by have := (hH h).2; omega⟩, hC, k0_le _ _, (by unfold s0N; split; exact .inr rfl; exact .inl rfl), .inr ⟨rfl, rfl⟩, hF1, hb, by simpa using hh.2, by simp⟩ ?_
    rintro m st ⟨i, U, q, kk, ss, done, rest, him, hoi, rfl, hRU, hHU, hqU, hCU, hkk, hss, hs0, hFU, hlv, hhas, hdl⟩
    have hlU := hv_len (L.take i) q
    have htl : (L.take i).length = i := by rw [List.length_take]; omega
    rw [htl] at hlU
    cases m with
    | succ m =>
      have hi : i < L.length := by omega
      have c2 : (i : Int) < (L.length : Int) := by omega
      obtain ⟨v, hve⟩ : ∃ v, v = L[i] := ⟨_, rfl⟩
      obtain ⟨hv0, hv1, hv2⟩ := hmem v (by rw [hve]; exact List.getElem_mem hi)
      have hnot : ss = 0 ∨ v ≠ 1 ∧ v ≠ -1 := by
        rcases hs0 with hs0 | ⟨hie, hs0⟩
        · exact .inl hs0
        · by_cases h3 : onesN L < 3
          · have h4 : onesN L < L.length := by omega
            have := onesG_stop 3 L h4 h3
            have e : v = L[onesG 3 L]'h4 := by rw [hve]; subst hie; rfl
            rw [e]; simp only [not_or] at this; exact .inr this
          · left; rw [hs0]; unfold s0N; rw [if_neg h3]
      rw [List.drop_eq_getElem_cons hi, ← hve] at hlv
      simp only [lvsP] at hlv
      cases hc' : lvC kk ss v with
      | none => rw [hc'] at hlv; cases hlv
      | some c =>
        rw [hc'] at hlv
        simp only [Option.map_eq_some_iff] at hlv
        obtain ⟨r2, hr2, rfl⟩ := hlv
        rw [Has.app] at hhas
        have hcpp : cp ≠ p := by omega
        obtain ⟨U1, e2, hR1, hC1, f2⟩ := lread_c hB k hCU hRU hcpp hkk (by omega) hss v (by omega) hv0 hnot hc' hhas.1
        have hH1 := hHU.fr f2 (fun h => by have := hqU h; simp; exact ⟨by omega, this.2⟩)
        obtain ⟨U2, e3, hH2, n2, x2, o2⟩ := appI v hH1 (by omega)
        rw [hve, ← hv_take L hi] at e3 hH2
        rw [← hve] at e3
        have hF2 : Fr S U1 [p] := hFU.trans f2 (fun j hj => by
          simp only [List.mem_cons, List.not_mem_nil, or_false] at hj ⊢
          rcases hj with rfl | rfl
          · exact .inl rfl
          · exact .inr hcS)
        have hsn := hF2.1
        have hk : ∀ j, j ≠ U1.next → (j ≠ q ∨ L.take i = []) → U2.blk j = U1.blk j := o2
        have hkS : ∀ j, j < S.next → U2.blk j = U1.blk j := fun j hj => hk j (by omega) (by
          by_cases hn : L.take i = []
          · exact .inr hn
          · exact .inl (by have := hqU hn; omega))
        have hcl := hC1.lt
        have hrl := hR1.lt
        refine .inr ⟨m, ([.ptr p 0, .int .i64 (L.length : Int), hv (L.take (i + 1)) U1.next, .ptr cp 0], U2), by omega, by simp only [zB, decide_true, decide_false, Bool.false_eq_true, if_false, if_true, List.getElem?_cons_zero, List.getElem?_cons_succ, beq_self_eq_true, bne_self_eq_false, Int.reduceBNe, Int.reduceBEq, Int.reduceLT, Int.reduceGT, Int.reduceLE, Int.reduceGE, Nat.reduceAdd, Nat.reduceMul, Nat.reduceLeDiff, hlU, c2, e2, e3], i + 1, U2, U1.next, aftN kk v.natAbs, 0, done ++ c, r2, by omega, by omega, rfl, ?_, hH2, fun _ => ⟨hsn, by omega⟩, ⟨?_, by omega⟩, (aft_le hkk _).1, .inl rfl, .inl rfl, ⟨by omega, x2.trans hF2.2.1, fun j hj hn => (hkS j hj).trans (hF2.2.2 j hj hn)⟩, hr2, ?_, ?_⟩
        · rw [List.length_append, ← Nat.add_assoc]
          exact ⟨(hkS p hplt).trans hR1.blk, by omega, hR1.sz, hR1.le⟩
        · rw [hk cp (by omega) (by
            by_cases hn : L.take i = []
            · exact .inr hn
            · exact .inl (Ne.symm (hqU hn).2))]
          exact hC1.blk
        · rw [List.length_append, ← Nat.add_assoc]; exact hhas.2
        · rw [List.length_append] at hdl ⊢; omega
    | zero =>
      have hi : i = L.length := by omega
      subst hi
      have c2 : ¬ ((L.length : Int) < (L.length : Int)) := by omega
      rw [List.drop_length, lvsP_nil] at hlv
      have hre := (Option.some.inj hlv).symm
      subst hre
      rw [List.length_nil, Nat.add_zero] at hdl
      rw [List.take_length] at hHU hqU hlU ⊢
      rw [hdl] at hRU
      have e4 : fz 40 (.tup [hv L q, .int .i64 0]) U = some (.tup [isl L, .int .i64 0], kill U L q) := fz_tup (fzM_c (fz_hv 37 hHU) (fzM_c (fz_int 38 _ 0 _) rfl))
      have hFk : Fr S (kill U L q) [p] := hFU.kill (fun h => .inr (hqU h).1)
      have hqp : q ≠ p := by have := (hqU h0).1; omega
      refine .inl ⟨(0, [hv L q], U), by simp only [zB, decide_true, decide_false, Bool.false_eq_true, if_false, if_true, List.getElem?_cons_zero, List.getElem?_cons_succ, beq_self_eq_true, bne_self_eq_false, Int.reduceBNe, Int.reduceBEq, Int.reduceLT, Int.reduceGT, Int.reduceLE, Int.reduceGE, Nat.reduceAdd, Nat.reduceMul, Nat.reduceLeDiff, hlU, c2], kill U L q, by simp only [zB, decide_true, decide_false, Bool.false_eq_true, if_false, if_true, List.getElem?_cons_zero, List.getElem?_cons_succ, beq_self_eq_true, bne_self_eq_false, Int.reduceBNe, Int.reduceBEq, Int.reduceLT, Int.reduceGT, Int.reduceLE, Int.reduceGE, Nat.reduceAdd, Nat.reduceMul, Nat.reduceLeDiff, sel_0, e4], ?_, hFk⟩
      have hkb : (kill U L q).blk p = U.blk p := by unfold kill; rw [if_neg h0]; exact set_other _ _ (Ne.symm hqp)
      have hkn : (kill U L q).next = U.next := by unfold kill; rw [if_neg h0]; rfl
      exact ⟨hkb.trans hRU.blk, by rw [hkn]; exact hRU.lt, hRU.sz, hRU.le⟩
theorem skip_c (n : Nat) : ∀ {S : Heap} {a : Nat}, Rdr S p s a → a + n ≤ 8 * s.size → ∃ S', Cn B (k + 3) f_vblock_skip 0 [.ptr p 0, .int .i64 (n : Int)] S = some (.tup [], S') ∧ Rdr S' p s (a + n) ∧ Fr S S' [p] := by
  intro S a hr hn
  rw [c_vblock_skip _ _ _ _ _ (hB.no _ _ _ _ (kn_no (by decide))), T_vblock_skip]
  have hsz := hr.sz
  simp only [zB, decide_true, decide_false, Bool.false_eq_true, if_false, if_true, List.getElem?_cons_zero, List.getElem?_cons_succ, beq_self_eq_true, bne_self_eq_false, Int.reduceBNe, Int.reduceBEq, Int.reduceLT, Int.reduceGT, Int.reduceLE, Int.reduceGE, Nat.reduceAdd, Nat.reduceMul, Nat.reduceLeDiff]
  refine loop_meas (fun o => ∃ S', o = some (AV.tup [], S') ∧ Rdr S' p s (a + n) ∧ Fr S S' [p]) (fun m st => ∃ (i : Nat) (T : Heap), i + m = n ∧ st = ([.ptr p 0, .int .i64 (m : Int)], T) ∧ Rdr T p s (a + i) ∧ Fr S T [p]) n ⟨0, S, by omega, rfl, hr, Fr.refl _ _⟩ ?_
  rintro m st ⟨i, T, him, rfl, hR, hF⟩
  by_cases hm : m = 0
  · subst hm
    have c1 : ¬ (((0 : Nat) : Int) > 0) := by omega
    have : i = n := by omega
    subst this
    exact .inl ⟨(0, [], T), by simp only [zB, decide_true, decide_false, Bool.false_eq_true, if_false, if_true, List.getElem?_cons_zero, List.getElem?_cons_succ, beq_self_eq_true, bne_self_eq_false, Int.reduceBNe, Int.reduceBEq, Int.reduceLT, Int.reduceGT, Int.reduceLE, Int.reduceGE, Nat.reduceAdd, Nat.reduceMul, Nat.reduceLeDiff, c1], T, by simp only [zB, decide_true, decide_false, Bool.false_eq_true, if_false, if_true, List.getElem?_cons_zero, List.getElem?_cons_succ, beq_self_eq_true, bne_self_eq_false, Int.reduceBNe, Int.reduceBEq, Int.reduceLT, Int.reduceGT, Int.reduceLE, Int.reduceGE, Nat.reduceAdd, Nat.reduceMul, Nat.reduceLeDiff, sel_0], hR, hF⟩
  · have c1 : (m : Int) > 0 := by omega
    have w1 : (if (64 : Int) < (m : Int) then (64 : Int) else (m : Int)) = ((min m 64 : Nat) : Int) := by split <;> omega
    obtain ⟨T1, e1, hR1, f1⟩ := u_ok hB k hR (min m 64) (by omega) (by omega)
    have w2 : IntKind.wrap .i64 ((m : Int) - ((min m 64 : Nat) : Int)) = ((m - min m 64 : Nat) : Int) := by rw [wr _ (by omega)]; omega
    exact .inr ⟨m - min m 64, ([.ptr p 0, .int .i64 ((m - min m 64 : Nat) : Int)], T1), by omega, by simp only [zB, decide_true, decide_false, Bool.false_eq_true, if_false, if_true, List.getElem?_cons_zero, List.getElem?_cons_succ, beq_self_eq_true, bne_self_eq_false, Int.reduceBNe, Int.reduceBEq, Int.reduceLT, Int.reduceGT, Int.reduceLE, Int.reduceGE, Nat.reduceAdd, Nat.reduceMul, Nat.reduceLeDiff, c1, w1, e1, w2], i + min m 64, T1, by omega, rfl, by rw [← Nat.add_assoc]; exact hR1, hF.trans f1 (fun j hj => .inl hj)⟩
end
end Go.Ab.tV
