/- The statement VblockApart: the codes of two blocks are apart. -/
import Derived.Test.YtfkmmiinlipcpaaVF3
set_option maxRecDepth 100000
set_option linter.unusedSimpArgs false
set_option linter.unusedVariables false
set_option linter.unusedSectionVars false
namespace Go.Ab.tV
open Go Go.Proofs

theorem spl_inv {k n n' : Nat} (hk : k ≤ 6) (h : (splN k n).1 = (splN k n').1) : (splN k n).2.2 = (splN k n').2.2 ∧ ((splN k n).2.1 = (splN k n').2.1 → n = n') := by
  obtain ⟨h1, h2, h3, h4⟩ := esc_le hk
  have e0 : ∀ m, m < escN k → 0 < k → m / 2 ^ k < 15 := fun m hm h0 => Nat.div_lt_of_lt_mul (by rw [Nat.mul_comm]; have := h4 h0; omega)
  have d := fun m : Nat => Nat.div_add_mod m (2 ^ k)
  unfold splN at h ⊢
  by_cases a1 : n ≥ escN k
  · by_cases b1 : n' ≥ escN k
    · simp only [if_pos a1, if_pos b1] at h ⊢
      exact ⟨trivial, fun hh => by omega⟩
    · by_cases b2 : k > 0
      · simp only [if_pos a1, if_neg b1, if_pos b2] at h
        have := e0 n' (by omega) b2; omega
      · by_cases b3 : n' ≥ 14
        · simp only [if_pos a1, if_neg b1, if_neg b2, if_pos b3] at h; omega
        · simp only [if_pos a1, if_neg b1, if_neg b2, if_neg b3] at h; omega
  · by_cases b1 : n' ≥ escN k
    · by_cases b2 : k > 0
      · simp only [if_neg a1, if_pos b1, if_pos b2] at h
        have := e0 n (by omega) b2; omega
      · by_cases b3 : n ≥ 14
        · simp only [if_neg a1, if_pos b1, if_neg b2, if_pos b3] at h; omega
        · simp only [if_neg a1, if_pos b1, if_neg b2, if_neg b3] at h; omega
    · by_cases b2 : k > 0
      · simp only [if_neg a1, if_neg b1, if_pos b2] at h ⊢
        refine ⟨trivial, fun hh => ?_⟩
        rw [← d n, ← d n', h, hh]
      · by_cases a3 : n ≥ 14
        · by_cases b3 : n' ≥ 14
          · simp only [if_neg a1, if_neg b1, if_neg b2, if_pos a3, if_pos b3] at h ⊢
            exact ⟨trivial, fun hh => by omega⟩
          · simp only [if_neg a1, if_neg b1, if_neg b2, if_pos a3, if_neg b3] at h; omega
        · by_cases b3 : n' ≥ 14
          · simp only [if_neg a1, if_neg b1, if_neg b2, if_neg a3, if_pos b3] at h; omega
          · simp only [if_neg a1, if_neg b1, if_neg b2, if_neg a3, if_neg b3] at h ⊢
            exact ⟨trivial, fun _ => h⟩
theorem lead_inj {s : ByteArray} {a p q : Nat} (h : Has s a (bitsN (p + 1) 1)) (h2 : Has s a (bitsN (q + 1) 1)) (hpq : p < q) : False := by
  have e1 := h.val
  have e2 := h2.val
  have m1 : 1 % 2 ^ (p + 1) = 1 := Nat.mod_eq_of_lt (Nat.one_lt_two_pow (by omega))
  have m2 : 1 % 2 ^ (q + 1) = 1 := Nat.mod_eq_of_lt (Nat.one_lt_two_pow (by omega))
  rw [m1] at e1
  rw [m2, show q + 1 = (p + 1) + (q - p) by omega, num_add, e1] at e2
  have : 2 ≤ 2 ^ (q - p) := by
    have := Nat.pow_le_pow_right (show 0 < 2 by omega) (show 1 ≤ q - p by omega)
    simpa using this
  omega
theorem lvB_inj {s : ByteArray} {a k n n' : Nat} (hk : k ≤ 6) (hn : n ≤ mstN k) (hn' : n' ≤ mstN k) (h : Has s a (lvB k n)) (h2 : Has s a (lvB k n')) : n = n' := by
  unfold lvB at h h2
  rw [Has.app, bitsN_len] at h h2
  have hp : (splN k n).1 = (splN k n').1 := by
    rcases Nat.lt_trichotomy (splN k n).1 (splN k n').1 with g | g | g
    · exact (lead_inj h.1 h2.1 g).elim
    · exact g
    · exact (lead_inj h2.1 h.1 g).elim
  obtain ⟨i1, i2⟩ := spl_inv hk hp
  obtain ⟨_, _, s1⟩ := spl_le hk hn
  obtain ⟨_, _, s2⟩ := spl_le hk hn'
  have e1 := h.2.val
  have e2 := h2.2.val
  rw [Nat.mod_eq_of_lt s1] at e1
  rw [Nat.mod_eq_of_lt s2, ← i1, ← hp] at e2
  exact i2 (e1.symm.trans e2)
theorem lvs_inj {str : ByteArray} : ∀ (M M' : List Int) (k s a : Nat) (b b' : List Bool), k ≤ 6 → s ≤ 2 → M.length = M'.length → (∀ v ∈ M, v ≠ 0) → (∀ v ∈ M', v ≠ 0) →
    (s = 0 ∨ (∀ v, M.head? = some v → v ≠ 1 ∧ v ≠ -1) ∧ (∀ v, M'.head? = some v → v ≠ 1 ∧ v ≠ -1)) → lvsP k s M = some b → lvsP k s M' = some b' → Has str a b → Has str a b' → M = M' ∧ b = b'
  | [], [], k, s, a, b, b', hk, hs, hl, h0, h0', hf, h, h', hh, hh' => by
    rw [lvsP_nil] at h h'
    exact ⟨rfl, (Option.some.inj h).symm.trans (Option.some.inj h')⟩
  | [], _ :: _, _, _, _, _, _, _, _, hl, _, _, _, _, _, _, _ => by simp at hl
  | _ :: _, [], _, _, _, _, _, _, _, hl, _, _, _, _, _, _, _ => by simp at hl
  | v :: M, v' :: M', k, s, a, b, b', hk, hs, hl, h0, h0', hf, h, h', hh, hh' => by
    simp only [lvsP] at h h'
    cases hc : lvC k s v with
    | none => rw [hc] at h; cases h
    | some c =>
      cases hc' : lvC k s v' with
      | none => rw [hc'] at h'; cases h'
      | some c' =>
        rw [hc] at h
        rw [hc'] at h'
        simp only [Option.map_eq_some_iff] at h h'
        obtain ⟨d, hd, rfl⟩ := h
        obtain ⟨d', hd', rfl⟩ := h'
        rw [Has.app] at hh hh'
        unfold lvC at hc hc'
        split at hc
        · cases hc
        split at hc'
        · cases hc'
        rename_i g g'
        have ec := Option.some.inj hc
        have ec' := Option.some.inj hc'
        have hn : lvN s v = lvN s v' := lvB_inj hk (by omega) (by omega) (by rw [ec]; exact hh.1) (by rw [ec']; exact hh'.1)
        have v0 := h0 v List.mem_cons_self
        have v0' := h0' v' List.mem_cons_self
        have hv : v = v' := by
          unfold lvN at hn
          rcases hf with hf | ⟨hf1, hf2⟩
          · subst hf; split at hn <;> split at hn <;> omega
          · have f1 := hf1 v rfl
            have f2 := hf2 v' rfl
            split at hn <;> split at hn <;> omega
        subst hv
        have hcc : c = c' := ec.symm.trans ec'
        subst hcc
        obtain ⟨r1, r2⟩ := lvs_inj M M' (aftN k v.natAbs) 0 (a + c.length) d d' (aft_le hk _).1 (by omega) (by simpa using hl) (fun w hw => h0 w (List.mem_cons_of_mem _ hw)) (fun w hw => h0' w (List.mem_cons_of_mem _ hw)) (.inl rfl) hd hd' hh.2 hh'.2
        rw [r1, r2]; exact ⟨rfl, rfl⟩
theorem runs_inj {str : ByteArray} : ∀ (M M' : List Nat) (left a : Nat), left ≤ 15 → M.length = M'.length → M.sum ≤ left → M'.sum ≤ left → Has str a (runsP left M) → Has str a (runsP left M') → M = M'
  | [], [], _, _, _, _, _, _, _, _ => rfl
  | [], _ :: _, _, _, _, hl, _, _, _, _ => by simp at hl
  | _ :: _, [], _, _, _, hl, _, _, _, _ => by simp at hl
  | n :: M, n' :: M', left, a, hle, hl, hs, hs', hh, hh' => by
    simp only [List.sum_cons] at hs hs'
    simp only [runsP, Has.app] at hh hh'
    have e1 := (run_good (left := (left : Int)) (run := (n : Int)) ⟨by omega, by omega⟩ ⟨by omega, by omega⟩).2 _ _ hh.1
    have e2 := (run_good (left := (left : Int)) (run := (n' : Int)) ⟨by omega, by omega⟩ ⟨by omega, by omega⟩).2 _ _ hh'.1
    rw [e1] at e2
    simp only [Prod.mk.injEq] at e2
    have hn : n = n' := by omega
    subst hn
    rw [runs_inj M M' (left - n) _ (by omega) (by simpa using hl) (by omega) (by omega) hh.2 hh'.2]
theorem ones_inj {str : ByteArray} : ∀ (X Y : List Int) (a : Nat), X.length = Y.length → (∀ v ∈ X, v = 1 ∨ v = -1) → (∀ v ∈ Y, v = 1 ∨ v = -1) → Has str a (onesB X) → Has str a (onesB Y) → X = Y
  | [], [], _, _, _, _, _, _ => rfl
  | [], _ :: _, _, hl, _, _, _, _ => by simp at hl
  | _ :: _, [], _, hl, _, _, _, _ => by simp at hl
  | v :: X, w :: Y, a, hl, hx, hy, h, h' => by
    have hx0 := hx v List.mem_cons_self
    have hy0 := hy w List.mem_cons_self
    simp only [onesB, List.map_cons] at h h'
    rw [Has.cons] at h h'
    have hvw : v = w := by
      have := h.1.symm.trans h'.1
      rcases hx0 with rfl | rfl <;> rcases hy0 with rfl | rfl <;> first | rfl | (exfalso; revert this; decide)
    rw [hvw, ones_inj X Y (a + 1) (by simpa using hl) (fun u hu => hx u (List.mem_cons_of_mem _ hu)) (fun u hu => hy u (List.mem_cons_of_mem _ hu)) h.2.2 h'.2.2]
theorem rst_empty : ∀ l : List Int, (rst l).1 = [] → rst l = ([], [], l.length)
  | [], _ => rfl
  | v :: l, h => by
    by_cases h0 : v = 0
    · have e : rst (v :: l) = ((rst l).1, (rst l).2.1, (rst l).2.2 + 1) := by simp only [rst, if_pos h0]
      rw [e] at h ⊢
      have := rst_empty l h
      rw [this]; rfl
    · exfalso
      by_cases h1 : (rst l).1 = []
      · have e : rst (v :: l) = ([v], [], 0) := by simp only [rst, if_neg h0, if_pos h1]
        rw [e] at h; simp at h
      · have e : rst (v :: l) = ((rst l).1 ++ [v], (rst l).2.1 ++ [(rst l).2.2], 0) := by simp only [rst, if_neg h0, if_neg h1]
        rw [e] at h; simp at h
theorem rst_inj : ∀ l m : List Int, l.length = m.length → rst l = rst m → l = m
  | [], [], _, _ => rfl
  | [], _ :: _, hl, _ => by simp at hl
  | _ :: _, [], hl, _ => by simp at hl
  | v :: l, w :: m, hl, h => by
    have hl' : l.length = m.length := by simpa using hl
    have fin : rst l = rst m → v = w → v :: l = w :: m := fun h1 h2 => by rw [rst_inj l m hl' h1, h2]
    have c0 : ∀ (v : Int) (l : List Int), v = 0 → rst (v :: l) = ((rst l).1, (rst l).2.1, (rst l).2.2 + 1) := fun v l h0 => by simp only [rst, if_pos h0]
    have c1 : ∀ (v : Int) (l : List Int), v ≠ 0 → (rst l).1 = [] → rst (v :: l) = ([v], [], 0) := fun v l h0 h1 => by simp only [rst, if_neg h0, if_pos h1]
    have c2 : ∀ (v : Int) (l : List Int), v ≠ 0 → (rst l).1 ≠ [] → rst (v :: l) = ((rst l).1 ++ [v], (rst l).2.1 ++ [(rst l).2.2], 0) := fun v l h0 h1 => by simp only [rst, if_neg h0, if_neg h1]
    by_cases h0 : v = 0
    · rw [c0 v l h0] at h
      by_cases g0 : w = 0
      · rw [c0 w m g0] at h
        simp only [Prod.mk.injEq] at h
        exact fin (Prod.ext h.1 (Prod.ext h.2.1 (by omega))) (h0.trans g0.symm)
      · by_cases g1 : (rst m).1 = []
        · rw [c1 w m g0 g1] at h; simp only [Prod.mk.injEq] at h; omega
        · rw [c2 w m g0 g1] at h; simp only [Prod.mk.injEq] at h; omega
    · by_cases h1 : (rst l).1 = []
      · rw [c1 v l h0 h1] at h
        by_cases g0 : w = 0
        · rw [c0 w m g0] at h; simp only [Prod.mk.injEq] at h; omega
        · by_cases g1 : (rst m).1 = []
          · rw [c1 w m g0 g1] at h
            simp only [Prod.mk.injEq, List.cons.injEq, and_true] at h
            exact fin (by rw [rst_empty l h1, rst_empty m g1, hl']) h
          · rw [c2 w m g0 g1] at h
            simp only [Prod.mk.injEq] at h
            have := congrArg List.length h.1
            have hp := List.length_pos_iff.2 g1
            simp only [List.length_cons, List.length_nil, List.length_append] at this; omega
      · rw [c2 v l h0 h1] at h
        have hp := List.length_pos_iff.2 h1
        by_cases g0 : w = 0
        · rw [c0 w m g0] at h; simp only [Prod.mk.injEq] at h; omega
        · by_cases g1 : (rst m).1 = []
          · rw [c1 w m g0 g1] at h
            simp only [Prod.mk.injEq] at h
            have := congrArg List.length h.1
            simp only [List.length_cons, List.length_nil, List.length_append] at this; omega
          · rw [c2 w m g0 g1] at h
            simp only [Prod.mk.injEq] at h
            obtain ⟨a1, a2⟩ := List.append_inj' h.1 rfl
            obtain ⟨b1, b2⟩ := List.append_inj' h.2.1 rfl
            exact fin (Prod.ext a1 (Prod.ext b1 (by simpa using b2))) (by simpa using a2)
theorem blk_inj {C D : List Int} (hC : Blk C) (hD : Blk D) (hl : C.length = D.length) {cls : Int} (hc : 0 ≤ cls ∧ cls ≤ 4) {K Q : List Bool} (hK : blkC cls C = some K) (hQ : blkC cls D = some Q) {s : ByteArray} (h1 : Has s 0 K) (h2 : Has s 0 Q) : C = D := by
  refine rst_inj C D hl ?_
  have tk : Has s 0 (tokP cls C.length (((rst C).1.length : Nat) : Int) ((onesN (rst C).1 : Nat) : Int)).2 := by
    unfold blkC at hK
    split at hK
    · rw [Option.some.inj hK]; exact h1
    · simp only [Option.map_eq_some_iff] at hK
      obtain ⟨b, hb, rfl⟩ := hK
      simp only [Has.app] at h1
      exact h1.1.1.1.1
  have tq : Has s 0 (tokP cls D.length (((rst D).1.length : Nat) : Int) ((onesN (rst D).1 : Nat) : Int)).2 := by
    unfold blkC at hQ
    split at hQ
    · rw [Option.some.inj hQ]; exact h2
    · simp only [Option.map_eq_some_iff] at hQ
      obtain ⟨b, hb, rfl⟩ := hQ
      simp only [Has.app] at h2
      exact h2.1.1.1.1
  have d1 := tok_dec hC hc tk
  have d2 := tok_dec hD hc tq
  rw [← hl, d1] at d2
  simp only [Prod.mk.injEq] at d2
  have hlen : (rst C).1.length = (rst D).1.length := by have := d2.1; omega
  have hone : onesN (rst C).1 = onesN (rst D).1 := by have := d2.2.1; omega
  by_cases h0 : (rst C).1 = []
  · have g0 : (rst D).1 = [] := List.length_eq_zero_iff.1 (by rw [← hlen, h0]; rfl)
    rw [rst_empty C h0, rst_empty D g0, hl]
  have g0 : (rst D).1 ≠ [] := fun g => h0 (List.length_eq_zero_iff.1 (by rw [hlen, g]; rfl))
  have hCt := hC.tot
  have hDt := hD.tot
  unfold blkC at hK hQ
  rw [if_neg h0] at hK
  rw [if_neg g0] at hQ
  simp only [Option.map_eq_some_iff] at hK hQ
  obtain ⟨b, hb, rfl⟩ := hK
  obtain ⟨c, hc', rfl⟩ := hQ
  rw [← hl, ← hlen, ← hone] at h2
  simp only [Has.app] at h1 h2
  have hat : ∀ L : List Int, ∀ v ∈ L.take (onesN L), v = 1 ∨ v = -1 := fun L v hv => by
    obtain ⟨i, hi, he⟩ := List.getElem_of_mem hv
    rw [List.length_take] at hi
    rw [List.getElem_take] at he
    rw [← he]
    exact onesG_at 3 L i (by omega) (by unfold onesN at hi; omega)
  have hat2 := hat (rst D).1
  rw [← hone] at hat2
  have e1 : (rst C).1.take (onesN (rst C).1) = (rst D).1.take (onesN (rst C).1) := ones_inj _ _ _ (by rw [List.length_take, List.length_take, hlen]) (hat _) hat2 h1.1.1.1.2 h2.1.1.1.2
  have hhd : ∀ {L : List Int}, onesN L < 3 → ∀ v, (L.drop (onesN L)).head? = some v → v ≠ 1 ∧ v ≠ -1 := fun {L} h3 v hv => by
    have hlt : onesN L < L.length := by
      by_cases hh : onesN L < L.length
      · exact hh
      · rw [List.drop_eq_nil_of_le (by omega)] at hv; cases hv
    rw [List.drop_eq_getElem_cons hlt] at hv
    have := onesG_stop 3 L hlt h3
    have hv' : L[onesN L] = v := Option.some.inj hv
    have e : L[onesG 3 L]'hlt = v := hv'
    rw [e] at this
    simp only [not_or] at this; exact this
  have hb2 : lvsP (k0N (rst C).1.length (onesN (rst C).1)) (s0N (onesN (rst C).1)) ((rst D).1.drop (onesN (rst C).1)) = some c := by rw [hlen, hone]; exact hc'
  have e2 := lvs_inj ((rst C).1.drop (onesN (rst C).1)) ((rst D).1.drop (onesN (rst C).1)) _ _ _ b c (k0_le _ _) (s0_le _) (by rw [List.length_drop, List.length_drop, hlen]) (fun v hv => (hC.mem (List.mem_of_mem_drop hv)).1) (fun v hv => (hD.mem (List.mem_of_mem_drop hv)).1) (by
      by_cases h3 : onesN (rst C).1 < 3
      · refine .inr ⟨hhd h3, ?_⟩
        rw [hone] at h3 ⊢
        exact hhd h3
      · left; unfold s0N; rw [if_neg h3]) hb hb2 h1.1.1.2 (by rw [e1] at h1; have := h2.1.1.2; simp only [List.length_append, onesB, List.length_map] at this ⊢; rw [e1]; exact this)
  have hL : (rst C).1 = (rst D).1 := by rw [← List.take_append_drop (onesN (rst C).1) (rst C).1, e1, e2.1, List.take_append_drop]
  have hzC := hC.zr
  have hzD := hD.zr
  have hp := List.length_pos_iff.2 h0
  have s1 := hC.len
  have z1 := (zer_good (size := (C.length : Int)) (total := (((rst C).1.length : Nat) : Int)) (z := ((rZ C : Nat) : Int)) ((sizedI_iff _).1 hC.sz) ⟨by omega, by omega⟩ ⟨by omega, by omega⟩).2 _ _ h1.1.2
  have hz2 : Has s (0 + ((tokP cls C.length (((rst C).1.length : Nat) : Int) ((onesN (rst C).1 : Nat) : Int)).2 ++ onesB ((rst C).1.take (onesN (rst C).1)) ++ b).length) (zerP C.length (((rst C).1.length : Nat) : Int) ((rZ D : Nat) : Int)).2 := by
    rw [e1, e2.2]; exact h2.1.2
  have z2 := (zer_good (size := (C.length : Int)) (total := (((rst C).1.length : Nat) : Int)) (z := ((rZ D : Nat) : Int)) ((sizedI_iff _).1 hC.sz) ⟨by omega, by omega⟩ ⟨by omega, by omega⟩).2 _ _ hz2
  rw [z1] at z2
  simp only [Prod.mk.injEq] at z2
  have hZ : rZ C = rZ D := by have := z2.1; omega
  have hr2 : Has s (0 + ((tokP cls C.length (((rst C).1.length : Nat) : Int) ((onesN (rst C).1 : Nat) : Int)).2 ++ onesB ((rst C).1.take (onesN (rst C).1)) ++ b ++ (zerP C.length (((rst C).1.length : Nat) : Int) ((rZ C : Nat) : Int)).2).length) (runsP (rZ C) (rst D).2.1) := by
    rw [e1, e2.2, hZ]; exact h2.2
  have hB := runs_inj (rst C).2.1 (rst D).2.1 (rZ C) _ (by omega) (by rw [(rst_sum C).2, (rst_sum D).2, hlen]) (hzC.2 h0) (by rw [hZ]; exact hzD.2 g0) h1.2 hr2
  refine Prod.ext hL (Prod.ext hB ?_)
  unfold rZ at hZ
  rw [if_neg h0, if_neg g0, hB] at hZ
  omega
theorem slice_str (s : ByteArray) {n : Nat} (h : n ≤ s.size) : aSlice Try.prog 9 (.str s) none (some (.int .i64 (n : Int))) = some (.str (s.extract 0 n)) := by
  have hu : Try.prog.underlying 9 = some .string := by kernel_rfl
  simp [aSlice, hu, aNat, h]
theorem ext_take {x y : List Bool} {n : Nat} (h : (bitStr x).extract 0 n = (bitStr y).extract 0 n) : x.take n = y.take n := by
  have e2 := congrArg (fun b => b.data.toList) h
  simp only [ByteArray.data_extract, Array.toList_extract] at e2
  rw [bitStr_list, bitStr_list, List.extract_eq_take_drop, List.extract_eq_take_drop, List.drop_zero, List.drop_zero, Nat.sub_zero, ← List.map_take, ← List.map_take] at e2
  exact map_inj' bitC_inj e2
theorem pre_apart {C D : List Int} (hC : Blk C) (hD : Blk D) (hl : C.length = D.length) {cls : Int} (hc : 0 ≤ cls ∧ cls ≤ 4) {K Q : List Bool} (hK : blkC cls C = some K) (hQ : blkC cls D = some Q) (hle : K.length ≤ Q.length) (h : K.take K.length = Q.take K.length) : C = D := by
  rw [List.take_length] at h
  obtain ⟨s, hs⟩ := has_some Q
  have hs2 := hs
  rw [← List.take_append_drop K.length Q, ← h, Has.app] at hs2
  exact blk_inj hC hD hl hc hK hQ hs2.1 hs
theorem apart20_law {x : Int} (hx : 0 ≤ x) (c : Int) {a a' : AV} {l m : List Int} (hl : ∀ S d, IL S a l d) (hm : ∀ S d, IL S a' m d) : ∃ S', Cn Bk 10 f_spindlelaw20_VblockApart 0 [.int .u8 x, .int .i64 c, a, a'] S0 = some (.bool true, S') := by
  have hB := Bk_silent
  rw [c_spindlelaw20_VblockApart _ _ _ _ _ _ _ (hB.no _ _ _ _ (kn_no (by decide))), T_spindlelaw20_VblockApart]
  have h1 := (hl S0 0).len
  have h2 := (hm S0 0).len
  have e0 : ∀ S, Cn Bk 9 f_spindlelaw20_known 0 [] S = some (.bool true, S) := fun S => chk_c hB known20_chk _ _
  by_cases g : (l.length : Int) > 20
  · exact ⟨S0, by simp only [zB, decide_true, decide_false, Bool.false_eq_true, if_false, if_true, List.getElem?_cons_zero, List.getElem?_cons_succ, beq_self_eq_true, bne_self_eq_false, Int.reduceBNe, Int.reduceBEq, Int.reduceLT, Int.reduceGT, Int.reduceLE, Int.reduceGE, Nat.reduceAdd, Nat.reduceMul, Nat.reduceLeDiff, h1, g, e0]⟩
  by_cases g2 : (m.length : Int) > 20
  · exact ⟨S0, by simp only [zB, decide_true, decide_false, Bool.false_eq_true, if_false, if_true, List.getElem?_cons_zero, List.getElem?_cons_succ, beq_self_eq_true, bne_self_eq_false, Int.reduceBNe, Int.reduceBEq, Int.reduceLT, Int.reduceGT, Int.reduceLE, Int.reduceGE, Nat.reduceAdd, Nat.reduceMul, Nat.reduceLeDiff, h1, g, h2, g2, e0]⟩
  obtain ⟨S1, e1, f1⟩ := fit20_c hB 7 (S := S0) hx hl
  obtain ⟨S2, e2, f2⟩ := fit20_c hB 7 (S := S1) hx hm
  have e3 := mod20_c hB 8 (S := S2) c 5 (by omega)
  have hc := mod5 c
  obtain ⟨K, hK⟩ : ∃ K, K = modI c 5 := ⟨_, rfl⟩
  rw [← hK] at e3 hc
  have hbC := blkO_blk x l
  have hbD := blkO_blk x m
  have hfC := fits_ok hbC (blkO_abs x l) hc
  have hfD := fits_ok hbD (blkO_abs x m) hc
  have hlen : (blkO x l).length = (blkO x m).length := by rw [blkO_len, blkO_len]
  obtain ⟨C, hC⟩ : ∃ C, C = blkO x l := ⟨_, rfl⟩
  obtain ⟨D, hD⟩ : ∃ D, D = blkO x m := ⟨_, rfl⟩
  rw [← hC] at hbC hfC e1 hlen
  rw [← hD] at hbD hfD e2 hlen
  have hcl := hbC.len
  obtain ⟨S3, e4, f4⟩ := code20_c hB 1 (S := S2) (cls := K) (fun S d => isl_il S C d) (by omega) hfC
  obtain ⟨S4, e5, f5⟩ := code20_c hB 1 (S := S3) (cls := K) (fun S d => isl_il S D d) (by omega) hfD
  have hp1 := putR_some hbC hc hfC
  have hp2 := putR_some hbD hc hfD
  obtain ⟨P, hP⟩ : ∃ P, P = (putR K C).2 := ⟨_, rfl⟩
  obtain ⟨Q, hQ⟩ : ∃ Q, Q = (putR K D).2 := ⟨_, rfl⟩
  rw [← hP] at hp1 e4
  rw [← hQ] at hp2 e5
  have e6 := equalInts_c hB 8 (isl_il S4 C 0) (isl_il S4 D 0) (by omega)
  by_cases hCD : C = D
  · have hPQ : P = Q := by rw [hP, hQ, hCD]
    rw [decide_eq_true hCD] at e6
    rw [← hPQ] at e5
    exact ⟨S4, by simp only [zB, decide_true, decide_false, Bool.false_eq_true, if_false, if_true, List.getElem?_cons_zero, List.getElem?_cons_succ, beq_self_eq_true, bne_self_eq_false, Int.reduceBNe, Int.reduceBEq, Int.reduceLT, Int.reduceGT, Int.reduceLE, Int.reduceGE, Nat.reduceAdd, Nat.reduceMul, Nat.reduceLeDiff, h1, g, h2, g2, e1, e2, e3, e4, e5, e6, strEq_self, e0]⟩
  · rw [decide_eq_false hCD] at e6
    obtain ⟨n, hn, hn1, hn2⟩ : ∃ n : Nat, (if ((bitStr Q).size : Int) < ((bitStr P).size : Int) then ((bitStr Q).size : Int) else ((bitStr P).size : Int)) = (n : Int) ∧ n = min P.length Q.length ∧ n ≤ P.length := by
      rw [bits_len, bits_len]
      exact ⟨min P.length Q.length, by split <;> omega, rfl, by omega⟩
    have s1 := slice_str (bitStr P) (n := n) (by rw [bits_len]; omega)
    have s2 := slice_str (bitStr Q) (n := n) (by rw [bits_len]; omega)
    have hne : strEq ((bitStr P).extract 0 n) ((bitStr Q).extract 0 n) = false := strEq_ne (fun h => by
      have ht := ext_take h
      apply hCD
      by_cases hle : P.length ≤ Q.length
      · have hnP : n = P.length := by omega
        rw [hnP] at ht
        exact pre_apart hbC hbD hlen hc hp1 hp2 hle ht
      · have hnQ : n = Q.length := by omega
        rw [hnQ] at ht
        exact (pre_apart hbD hbC hlen.symm hc hp2 hp1 (by omega) ht.symm).symm)
    exact ⟨S4, by simp only [zB, decide_true, decide_false, Bool.false_eq_true, if_false, if_true, List.getElem?_cons_zero, List.getElem?_cons_succ, beq_self_eq_true, bne_self_eq_false, Int.reduceBNe, Int.reduceBEq, Int.reduceLT, Int.reduceGT, Int.reduceLE, Int.reduceGE, Nat.reduceAdd, Nat.reduceMul, Nat.reduceLeDiff, h1, g, h2, g2, e1, e2, e3, e4, e5, e6, hn, s1, s2, hne, e0]⟩
theorem vblockApart_law (xs : List AV) (h : argsOk Try.prog maxLen 16 Try.f17.params.toList xs) : ∃ (C : CallF) (S' : Heap), NOk Try.prog (fun _ => none) C ∧ C 17 0 xs S0 = some (.bool true, S') := by
  rw [Try.params17] at h
  obtain ⟨a, r, rfl, h1, b, r2, rfl, h2, c, r3, rfl, h3, d, r4, rfl, h4, rfl⟩ := h
  obtain ⟨x, rfl, hx⟩ := arg5 h1
  obtain ⟨n, rfl, _⟩ := arg3 h2
  obtain ⟨l, hl⟩ := arg_ints h3
  obtain ⟨m, hm⟩ := arg_ints h4
  obtain ⟨S', hS⟩ := apart20_law hx.1 n hl hm
  exact ⟨Cn Bk 10, S', Cn_ok 10, hS⟩
end Go.Ab.tV
