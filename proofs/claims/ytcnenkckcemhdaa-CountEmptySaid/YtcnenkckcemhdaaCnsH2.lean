/- CountEmpty: the law. -/
import Derived.Test.YtcnenkckcemhdaaCnsH1
import Derived.Test.YtcnenkckcemhdaaCnsF3
set_option maxRecDepth 100000
set_option linter.unusedSimpArgs false
set_option linter.unusedVariables false
set_option linter.unusedSectionVars false
namespace Go.Ab.tNearU
open Go Go.Proofs

/-- Without coefficients, and not of samples. -/
def Zero (m : M) : Prop := m.kind ≠ 2 ∧ ∀ r ∈ cut m.b, nz r = 0
theorem row_in {m : M} {c : Cd} {r : AV} (h : m.row c = some r) : r ∈ cut m.b := by
  unfold M.row at h
  cases hi : ixF m.bls c with
  | none => rw [hi] at h; cases h
  | some i => rw [hi] at h; exact List.mem_of_getElem? h
theorem Zero.tot {m : M} (h : Zero m) (c : Cd) : tot m c = 0 := by
  unfold Go.Ab.tNearU.tot
  split
  · rfl
  · rw [if_neg h.1]
    unfold coefA
    split
    · rename_i r hr; exact h.2 r (row_in hr)
    · split
      · split
        · rename_i r hr; exact h.2 r (row_in hr)
        · rfl
      · rfl
theorem zM_zero : Zero zM := ⟨by decide, fun r hr => by cases hr⟩
theorem Zero.norm {m : M} (hg : Good 1000 m) (h : Zero m) : Zero m.norm := ⟨h.1, fun r hr => by
  have : r ∈ (cut m.b).map nrm := by rw [← cut_nB hg.b]; exact hr
  obtain ⟨x, hx, rfl⟩ := List.mem_map.1 this
  rcases nz_nrm x with e | ⟨cs, rfl⟩
  · rw [e]; exact h.2 x hx
  · rfl⟩
theorem fa_zero {fi : Int} {ms : List M} (h : ∀ m ∈ ms, Zero m) (a : Int) : Zero (fa fi ms a).1 := by
  unfold fa
  split
  · exact h _ (List.getElem_mem _)
  · exact zM_zero
theorem lf_zero {fi w : Int} {ms : List M} (h : ∀ m ∈ ms, Zero m) : Zero (lf fi w ms).1 := by
  unfold lf
  split
  · exact zM_zero
  · exact fa_zero h _
theorem lookd_zero {m : M} {nb : M × Bool} (h : Zero m) (hn : Zero nb.1) (ab : Bool) (c : Cd) : (lookd m nb ab c).getD 0 = 0 := by
  unfold lookd
  split
  · exact h.tot _
  · split
    · exact hn.tot _
    · rfl
theorem cls_zero {m : M} {nl na : M × Bool} (h : Zero m) (hl : Zero nl.1) (ha : Zero na.1) (c : Cd) : cls m nl na c = if c.1 = 3 then 4 else 0 := by
  unfold cls
  split
  · rfl
  · unfold clsN
    have h1 := lookd_zero h hl false c
    have h2 := lookd_zero h ha true c
    have : sm (lookd m nl false c) (lookd m na true c) = 0 := by unfold sm; omega
    rw [this]
    split <;> rfl
theorem flat_get {ds : List M} (hp : Pre ds) {i j : Nat} (hi : i < ds.length) (hj : j < 29) : (flat ds)[i * 29 + j]? = ds[i].cells[j]? := by
  have h := flat_at hp hi
  rw [← h, List.getElem?_take_of_lt hj, List.getElem?_drop]
theorem slice22 {n h : Nat} {L : List AV} (hl : L.length = n * 29) (hh : h ≤ n) : aSlice Try.prog 22 (.is n L) none (some (.int .i64 (h : Int))) = some (.is h (L.take (h * 29))) := by
  have hs : ∃ e, Try.prog.underlying 22 = some (.slice e) ∧ tsize Try.prog e = some 29 := ⟨29, by kernel_rfl, by kernel_rfl⟩
  obtain ⟨e, h1, h2⟩ := hs
  simp [aSlice, h1, h2, aNat, hh, hl]
theorem flat_take {ms : List M} (hp : Pre ms) (h : Nat) (hh : h ≤ ms.length) : (flat ms).take (h * 29) = flat (ms.take h) := by
  have e : flat ms = flat (ms.take h) ++ flat (ms.drop h) := by rw [← flat_app, List.take_append_drop]
  have hl : (flat (ms.take h)).length = h * 29 := by
    rw [flat_len fun x hx => hp x (List.mem_of_mem_take hx), List.length_take, Nat.min_eq_left hh]
  rw [e, ← hl, List.take_append_of_le_length (Nat.le_refl _), List.take_length]
theorem own1_len {T : Heap} {y r : AV} {ix : List Nat} (h : Own 1 T y r ix) (hr : Row 1000 1 r) : aLen Try.prog 25 y = some (.int .i64 (rl r : Int)) := by
  rcases h with ⟨_, rfl, _⟩ | ⟨id, n, es, cs, cs', ids', rfl, rfl, _⟩
  · exact rl25 hr
  · kernel_rfl
theorem rep_row (n : Nat) (h : n ≤ 1000) : Row 1000 1 (.is n (List.replicate n (.int .i64 0))) := .inr ⟨n, _, rfl, h, by simp, fun c hc => ⟨0, (List.mem_replicate.1 hc).2⟩⟩
theorem rep_nz (n : Nat) : nz (.is n (List.replicate n (.int .i64 0))) = 0 := by
  unfold nz nzL
  show ((List.replicate n (AV.int .i64 0)).filter isNz).length = 0
  rw [List.filter_replicate]
  rfl
theorem rl_le {r : AV} (h : Row 1000 1 r) : rl r ≤ 1000 := by
  obtain rfl | ⟨n, cs, rfl, h1, _⟩ := h
  · exact Nat.zero_le _
  · exact h1
/-- The state of the loops. -/
structure ZS (T : Heap) (q : Nat) (ds ms : List M) (N i : Nat) : Prop where
  st : ZSt T q ds ms
  len : ms.length = N
  good : ∀ m ∈ ms, Good 1000 m
  byt : ∀ m ∈ ms, Byt m
  zero : ∀ j (h : j < ms.length), j < i → Zero ms[j]
set_option maxHeartbeats 1000000 in
theorem zero_step {q N : Nat} {ds : List M} (hpd : Pre ds) (hdl : ds.length = N) (hN : N ≤ 1000) (hdb : ∀ i (h : i < ds.length), ds[i].b = .nils ∨ ∃ qb n, ds[i].b = .hs qb 0 n 1) {fi w : Int} {T : Heap} {ms : List M} {i : Nat} (h : ZS T q ds ms N i) (hi : i < N) (hi' : i < ms.length) (hk : ms[i].kind ≠ 2) {f : Nat × LSt → Option (LSt ⊕ (Nat × LSt))}
    (W : Option (LSt ⊕ (Nat × LSt)) → Prop) (hW : ∀ T' ms', ZS T' q ds ms' N (i + 1) → W (f (0, [.int .i64 fi, .int .i64 w, .hs q 0 N 29, .int .i64 (i : Int)], T'))) (k : Nat)
    {step : LSt → Option (LSt ⊕ (Nat × LSt))}
    (hs : ∀ s, step s = (fun s26 => asInt .i64 (nthA s26.1 0) fun i27 => asInt .i64 (nthA s26.1 1) fun i28 => asInt .i64 (nthA s26.1 3) fun i29 => asInt .i64 (nthA s26.1 4) fun i30 => bO (aIdx 29 (nthA s26.1 2) i29) fun t31 => bO (addV t31 27) fun t32 => bO (seeV t32 s26.2) fun t33 => bO (t33.1[t33.2]?) fun t34 => bO (aLen Try.prog 27 (t34)) fun t35 => asInt .i64 t35 fun i36 => if decide ((i30 : Int) < i36) then bO (aIdx 29 (nthA s26.1 2) i29) fun t37 => bO (addV t37 27) fun t38 => bO (seeV t38 s26.2) fun t39 => bO (t39.1[t39.2]?) fun t40 => gB (ctlW.same []) (bO (aIdx 29 (nthA s26.1 2) i29) fun t41 => bO (addV t41 27) fun t42 => bO (seeV t42 s26.2) fun t43 => bO (t43.1[t43.2]?) fun t44 => gB (ctlW.same []) (bO (aIdx 1 t44 i30) fun t45 => bO (seeV t45 s26.2) fun t46 => bO (t46.1[t46.2]?) fun t47 => gB (ctlW.same []) (bO (aLen Try.prog 25 (t47)) fun t48 => asInt .i64 t48 fun i49 => gB (decide ((0 : Int) ≤ i49) && decide (i49 ≤ i49) && decide (i49 * (8 : Nat) ≤ (2 ^ 44 : Int)) && decide (i49 ≤ (2 ^ 44 : Int)) && true) (bO (aIdx 1 t40 i30) fun t50 => bO (putV t50 [.is (Int.toNat i49) (List.replicate (Int.toNat i49) (.int .i64 0))] s26.2) fun t51 => gB (ctlW.same []) (some (.inl ([.int .i64 i27, .int .i64 i28, nthA s26.1 2, .int .i64 i29, .int .i64 (IntKind.wrap .i64 (i30 + 1))], t51))))))) else some (.inr (0, [.int .i64 i27, .int .i64 i28, nthA s26.1 2, .int .i64 i29], s26.2))) s) :
    W (bO (ctlW.loop step ([.int .i64 fi, .int .i64 w, .hs q 0 N 29, .int .i64 (i : Int), .int .i64 0], T)) f) := by
  have hs' := funext hs
  subst hs'
  have hid : i < ds.length := by omega
  have hix : aIdx 29 (.hs q 0 N 29) (i : Int) = some (.ptr q (i * 29)) := by
    simp only [aIdx, Int.toNat_natCast]
    rw [if_pos ⟨by omega, by omega, trivial⟩, Nat.zero_add]
  have g27 : (flat ds)[i * 29 + 27]? = some ds[i].b := by rw [flat_get hpd hid (by omega)]; exact M.g27 (hpd _ (List.getElem_mem hid))
  rcases hdb i hid with hb | ⟨qb, n, hb⟩
  · have hq : T.blk q = some (flat ds) := by obtain ⟨ids', h1, _⟩ := h.st; exact h1
    have hmb : ms[i].b = .nils := by
      obtain ⟨ids', h1, h2, h3⟩ := h.st
      obtain ⟨idx, f1, _⟩ := zL_upd h3 i hid hi'
      obtain ⟨i1, i2, _, _, _, h4⟩ := f1.own
      rcases h4 with ⟨_, h5, _⟩ | ⟨id, n', es, cs, cs', ids', e1, _⟩
      · rw [h5]; exact hb
      · rw [hb] at e1; cases e1
    have l27 : aLen Try.prog 27 .nils = some (.int .i64 0) := by kernel_rfl
    have n0 : ¬ ((0 : Int) < 0) := by omega
    rw [hb] at g27
    rw [bloop]
    simp only [bO_s, gB_t, asBool_b, asInt_i, asAgg_a, asTup_a, asStr_s, asCons_c, nthA_0, nthA_s, aggCells_a, addV_p, seeV_p, seeV_i, same_nil, tr_same, eql4, neq4, decide_true, decide_false, Bool.false_eq_true, if_false, if_true, Bool.not_true, Bool.not_false, Bool.and_true, Bool.true_and, Bool.and_self, List.getElem?_cons_zero, List.getElem?_cons_succ, Nat.zero_add, Nat.add_zero, beq_self_eq_true, bne_self_eq_false, Int.reduceBNe, Int.reduceBEq, Int.reduceLT, Int.reduceGT, Int.reduceLE, Int.reduceGE, Nat.reduceAdd, Nat.reduceMul, Nat.reduceLeDiff, hix, hq, g27, l27, n0]
    refine hW T ms ⟨h.st, h.len, h.good, h.byt, fun j h1 h2 => ?_⟩
    by_cases hj : j = i
    · subst hj
      exact ⟨hk, fun r hr => by rw [hmb] at hr; cases hr⟩
    · exact h.zero j h1 (by omega)
  · rw [hb] at g27
    have l27 : aLen Try.prog 27 (.hs qb 0 n 1) = some (.int .i64 (n : Int)) := by kernel_rfl
    refine loop_ex W (fun kk s => ∃ T' ms', s = ([.int .i64 fi, .int .i64 w, .hs q 0 N 29, .int .i64 (i : Int), .int .i64 (kk : Int)], T') ∧ ZS T' q ds ms' N i ∧ ∃ (hi2 : i < ms'.length), ms'[i].kind ≠ 2 ∧ ∀ j (h : j < (cut ms'[i].b).length), j < kk → nz (cut ms'[i].b)[j] = 0)
      (fun x => ∃ T' ms', x = (0, [.int .i64 fi, .int .i64 w, .hs q 0 N 29, .int .i64 (i : Int)], T') ∧ ZS T' q ds ms' N (i + 1)) n
      ⟨T, ms, rfl, h, hi', hk, fun j _ hj => absurd hj (Nat.not_lt_zero _)⟩ ?_ ?_
    · rintro kk s hkk ⟨T', ms', rfl, h', hi2, hk', hz⟩
      obtain ⟨outs, rs, e1, e2, e3, e4, e5, e6⟩ := h'.st.put hid hi2 hb
      have hq : T'.blk q = some (flat ds) := by obtain ⟨ids', h1, _⟩ := h'.st; exact h1
      have hgi := h'.good _ (List.getElem_mem hi2)
      have hcut : cut ms'[i].b = rs := by rw [e1]; rfl
      have hrl : n ≤ 1000 := by have := hgi.b.rl; rw [hcut] at this; omega
      by_cases hlt : kk < n
      · have hlt' : (kk : Int) < (n : Int) := by omega
        have hw : IntKind.wrap .i64 ((kk : Int) + 1) = ((kk + 1 : Nat) : Int) := by rw [wr _ (by omega)]; omega
        have o1 : kk < outs.length := by omega
        have o2 : kk < rs.length := by omega
        obtain ⟨ix, ho⟩ := e5 kk o1 o2
        have hrr : Row 1000 1 rs[kk] := hgi.b.mem _ (by rw [hcut]; exact List.getElem_mem o2)
        have l25 := own1_len ho hrr
        have hr1 := rl_le hrr
        have gk : outs[kk]? = some outs[kk] := List.getElem?_eq_getElem o1
        have ik := aIdx_row (id := qb) hlt
        obtain ⟨c, hc⟩ : ∃ c, c = rl rs[kk] := ⟨_, rfl⟩
        rw [← hc] at l25 hr1
        have c0 : (0 : Int) ≤ (c : Int) := by omega
        have c1 : (c : Int) ≤ (c : Int) := by omega
        have c2 : (c : Int) * ((8 : Nat) : Int) ≤ (2 ^ 44 : Int) := by omega
        have c3 : (c : Int) ≤ (2 ^ 44 : Int) := by omega
        have pt := putV_row (v := .is c (List.replicate c (.int .i64 0))) e2 o1
        have ct : Int.toNat (c : Int) = c := rfl
        refine .inr ⟨hlt, ([.int .i64 fi, .int .i64 w, .hs q 0 N 29, .int .i64 (i : Int), .int .i64 ((kk + 1 : Nat) : Int)], T'.set qb (some (outs.set kk (.is c (List.replicate c (.int .i64 0)))))), ?_, _, _, rfl, ⟨e6 kk _ hlt rfl, by rw [List.length_set]; exact h'.len, fun m hm => ?_, fun m hm => ?_, fun j h1 h2 => ?_⟩, by rw [List.length_set]; exact hi2, ?_⟩
        · simp only [bO_s, gB_t, asBool_b, asInt_i, asAgg_a, asTup_a, asStr_s, asCons_c, nthA_0, nthA_s, aggCells_a, addV_p, seeV_p, seeV_i, same_nil, tr_same, eql4, neq4, decide_true, decide_false, Bool.false_eq_true, if_false, if_true, Bool.not_true, Bool.not_false, Bool.and_true, Bool.true_and, Bool.and_self, List.getElem?_cons_zero, List.getElem?_cons_succ, Nat.zero_add, Nat.add_zero, beq_self_eq_true, bne_self_eq_false, Int.reduceBNe, Int.reduceBEq, Int.reduceLT, Int.reduceGT, Int.reduceLE, Int.reduceGE, Nat.reduceAdd, Nat.reduceMul, Nat.reduceLeDiff, hix, hq, g27, l27, hlt', ik, e2, gk, l25, c0, c1, c2, c3, ct, pt, hw]
        · rcases List.mem_or_eq_of_mem_set hm with hm | rfl
          · exact h'.good m hm
          · refine ⟨hgi.pre, hgi.r, hgi.v, .inr ⟨n, _, rfl, hrl, by rw [List.length_set]; exact e4, fun c' hc' => ?_⟩⟩
            rcases List.mem_or_eq_of_mem_set hc' with hc' | rfl
            · exact hgi.b.mem _ (by rw [hcut]; exact hc')
            · exact rep_row c hr1
        · rcases List.mem_or_eq_of_mem_set hm with hm | rfl
          · exact h'.byt m hm
          · have := h'.byt _ (List.getElem_mem hi2)
            exact ⟨this.k, this.c⟩
        · have hne : i ≠ j := by omega
          simp only [List.getElem_set_ne hne]
          exact h'.zero j (by rw [List.length_set] at h1; exact h1) h2
        · simp only [List.getElem_set_self]
          refine ⟨hk', fun j h1 h2 => ?_⟩
          have h1' : j < (rs.set kk (.is c (List.replicate c (.int .i64 0)))).length := h1
          show nz ((rs.set kk (.is c (List.replicate c (.int .i64 0))))[j]'h1') = 0
          by_cases hj : kk = j
          · subst hj; rw [List.getElem_set_self]; exact rep_nz c
          · rw [List.getElem_set_ne hj]
            have h3 : j < (cut ms'[i].b).length := by rw [hcut]; rw [List.length_set] at h1'; exact h1'
            have := hz j h3 (by omega)
            simp only [hcut] at this
            exact this
      · have hlt' : ¬ (kk : Int) < (n : Int) := by omega
        refine .inl ⟨_, by simp only [bO_s, gB_t, asBool_b, asInt_i, asAgg_a, asTup_a, asStr_s, asCons_c, nthA_0, nthA_s, aggCells_a, addV_p, seeV_p, seeV_i, same_nil, tr_same, eql4, neq4, decide_true, decide_false, Bool.false_eq_true, if_false, if_true, Bool.not_true, Bool.not_false, Bool.and_true, Bool.true_and, Bool.and_self, List.getElem?_cons_zero, List.getElem?_cons_succ, Nat.zero_add, Nat.add_zero, beq_self_eq_true, bne_self_eq_false, Int.reduceBNe, Int.reduceBEq, Int.reduceLT, Int.reduceGT, Int.reduceLE, Int.reduceGE, Nat.reduceAdd, Nat.reduceMul, Nat.reduceLeDiff, hix, hq, g27, l27, hlt'], T', ms', rfl, h'.st, h'.len, h'.good, h'.byt, fun j h1 h2 => ?_⟩
        by_cases hj : j = i
        · subst hj
          refine ⟨hk', fun r hr => ?_⟩
          obtain ⟨j', hj', rfl⟩ := List.getElem_of_mem hr
          exact hz j' hj' (by rw [hcut] at hj'; omega)
        · exact h'.zero j h1 (by omega)
    · rintro x ⟨T', ms', rfl, h'⟩
      exact hW T' ms' h'
end Go.Ab.tNearU
