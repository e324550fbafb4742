/- The statement KindsParts, whatever the arguments. -/
import Derived.Test.YtomnllhlclpdjaaDoorKP2
import Derived.Test.YtomnllhlclpdjaaDoorKN
import Derived.Test.YtomnllhlclpdjaaDoorKQ0
import Derived.Test.YtomnllhlclpdjaaDoorKQ1
import Derived.Test.YtomnllhlclpdjaaDoorKQ2
import Derived.Test.YtomnllhlclpdjaaDoorKQ3
set_option maxRecDepth 100000
set_option linter.unusedSimpArgs false
set_option linter.unusedVariables false
set_option linter.unusedSectionVars false
namespace Go.Ab.tK
open Go Go.Proofs

theorem cn_B {B : CallF} {f : Nat} {args : List AV} {S : Heap} {r : AV × Heap} (h : B f 0 args S = some r) (k : Nat) : Cn B k f 0 args S = some r := by
  cases k with
  | zero => exact h
  | succ k => show (match B f 0 args S with | some r => some r | none => _) = _; rw [h]
theorem sel_B {fs : List Nat} {C : CallF} {f : Nat} {args : List AV} {v : AV} (h : fs.contains f = true) (hv : isV (locC C f 0 args S0) v = true) (S : Heap) : selC fs C f 0 args S = some (v, S) := by
  unfold selC
  simp only [h, if_true]
  exact locC_any hv S

theorem other_all (a b c d : Nat) (p : Int) : ((List.range 256).all fun k => (Nat.ble 3 k && Nat.ble k 6) || isT (C2 f_spindlelaw12_KindsParts 0 [.int .u8 (Int.ofNat k), subs a b c d, .int .i64 p] S0)) = true := by kernel_rfl
theorem in3 (a b c d : Nat) : isT (C2 f_spindlelaw12_KindsParts 0 [.int .u8 3, subs a b c d, .int .i64 0] S0) = true := by kernel_rfl
theorem in4 (a b c d : Nat) : isT (C2 f_spindlelaw12_KindsParts 0 [.int .u8 4, subs a b c d, .int .i64 0] S0) = true := by kernel_rfl
theorem in41 (a b c d : Nat) : isT (C2 f_spindlelaw12_KindsParts 0 [.int .u8 4, subs a b c d, .int .i64 1] S0) = true := by kernel_rfl
theorem in5 (a b c d : Nat) : isT (C2 f_spindlelaw12_KindsParts 0 [.int .u8 5, subs a b c d, .int .i64 0] S0) = true := by kernel_rfl
theorem in51 (a b c d : Nat) : isT (C2 f_spindlelaw12_KindsParts 0 [.int .u8 5, subs a b c d, .int .i64 1] S0) = true := by kernel_rfl
theorem in6 {a b c d : Nat} (ha : a < 4) (hb : b < 4) (hc : c < 4) (hd : d < 4) {p : Nat} (hp : p < num a b c d) : isT (C2 f_spindlelaw12_KindsParts 0 [.int .u8 6, subs a b c d, iN p] S0) = true := by
  have h : (four fun a => four fun b => four fun c => four fun d => (List.range (num a b c d)).all fun p => isT (C2 f_spindlelaw12_KindsParts 0 [.int .u8 6, subs a b c d, iN p] S0)) = true := by
    exact four_of (four_of kp_00 kp_01 kp_02 kp_03) (four_of kp_10 kp_11 kp_12 kp_13) (four_of kp_20 kp_21 kp_22 kp_23) (four_of kp_30 kp_31 kp_32 kp_33)
  exact List.all_eq_true.1 (four_lt (four_lt (four_lt (four_lt h ha) hb) hc) hd) p (List.mem_range.2 hp)
theorem eqnil_v : isV (locC C1 f_spindlekit_EqualInts 0 [.nils, .nils] S0) (.bool true) = true := by kernel_rfl
theorem np_all : ((List.range 256).all fun k => (match locC C1 f_kinds_Parts 0 [.int .u8 (Int.ofNat k)] S0, locC C1 f_spindleref12_Parts 0 [.int .u8 (Int.ofNat k)] S0 with | some (.int .i64 a, _), some (.int .i64 b, _) => a == b | _, _ => false)) = true := by kernel_rfl
theorem np_of {k : Nat} (hk : k ≤ 255) : ∃ v, isV (locC C1 f_kinds_Parts 0 [.int .u8 (k : Int)] S0) (.int .i64 v) = true ∧ isV (locC C1 f_spindleref12_Parts 0 [.int .u8 (k : Int)] S0) (.int .i64 v) = true := by
  have h := List.all_eq_true.1 np_all k (List.mem_range.2 (by omega))
  split at h
  · rename_i a _ b _ h1 h2
    simp only [beq_iff_eq] at h
    subst h
    exact ⟨a, isV_of h1 (by simp [AV.beq]), isV_of h2 (by simp [AV.beq])⟩
  · cases h
theorem awake_w : isV (locC C1 f_spindlelaw12_awake 0 [] S0) (.bool true) = true := by kernel_rfl
theorem p3 (a b c d : Nat) : isV (locC C1 f_kinds_parts 0 [.int .u8 3, subs a b c d] S0) (.tup [.is 1 [iN 0, iN 0, iN 4, iN 4, iN 0], .int .i64 0]) = true ∧ isV (locC C1 f_spindleref12_All 0 [.int .u8 3, subs a b c d] S0) (.tup [.is 1 [iN 0, isL (bl 0 0 4 4)], .int .i64 0]) = true := ⟨by kernel_rfl, by kernel_rfl⟩
theorem p4 (a b c d : Nat) : isV (locC C1 f_kinds_parts 0 [.int .u8 4, subs a b c d] S0) (.tup [.is 2 [iN 0, iN 0, iN 4, iN 2, iN 0, iN 0, iN 2, iN 4, iN 2, iN 1], .int .i64 0]) = true ∧ isV (locC C1 f_spindleref12_All 0 [.int .u8 4, subs a b c d] S0) (.tup [.is 2 [iN 0, isL (bl 0 0 4 2), iN 1, isL (bl 0 2 4 2)], .int .i64 0]) = true := ⟨by kernel_rfl, by kernel_rfl⟩
theorem p5 (a b c d : Nat) : isV (locC C1 f_kinds_parts 0 [.int .u8 5, subs a b c d] S0) (.tup [.is 2 [iN 0, iN 0, iN 2, iN 4, iN 0, iN 2, iN 0, iN 2, iN 4, iN 1], .int .i64 0]) = true ∧ isV (locC C1 f_spindleref12_All 0 [.int .u8 5, subs a b c d] S0) (.tup [.is 2 [iN 0, isL (bl 0 0 2 4), iN 1, isL (bl 2 0 2 4)], .int .i64 0]) = true := ⟨by kernel_rfl, by kernel_rfl⟩
theorem q_all : (four fun i => four fun s => (match locC C1 f_spindleref12_quarter 0 [iN i, .int .u8 (Int.ofNat s)] S0 with | some (.is n cells, _) => Nat.ble 1 n && Nat.ble n 4 && Nat.beq cells.length (n * 2) && cells.all cell && beqL cells cells | _ => false)) = true := by kernel_rfl
theorem q_of {i s : Nat} (hi : i < 4) (hs : s < 4) : ∃ n cells, 0 < n ∧ n ≤ 4 ∧ cells.length = n * 2 ∧ cells.all cell = true ∧ isV (locC C1 f_spindleref12_quarter 0 [.int .i64 (i : Int), .int .u8 (s : Int)] S0) (.is n cells) = true := by
  have h := four_lt (four_lt q_all hi) hs
  split at h
  · rename_i n cells T h1
    simp only [Bool.and_eq_true] at h
    obtain ⟨⟨⟨⟨e1, e2⟩, e3⟩, e4⟩, e5⟩ := h
    exact ⟨n, cells, Nat.le_of_ble_eq_true e1, Nat.le_of_ble_eq_true e2, Nat.eq_of_beq_eq_true e3, e4, isV_of h1 (by simp [AV.beq, e5])⟩
  · cases h

/-- The tower for parts that are refused, where the lists are known of C. -/
noncomputable def base2 (C : CallF) : CallF := orC (selC [f_kinds_parts, f_spindleref12_All] C) (selC [f_kinds_Parts, f_spindleref12_Parts, f_spindlekit_EqualInts, f_spindlelaw12_awake] C1)
theorem base2_sil (C : CallF) : Sil (base2 C) := by
  intro f args S hf
  unfold base2 orC
  have h : ∀ x : Nat, [f_spindlelaw12_KindsParts, f_kinds_Pieces, f_spindleref12_Pieces, f_kinds_Cover, f_spindleref12_Cover, f_kinds_Part, f_spindleref12_Part, f_kinds_one, f_spindleref12_one].contains x = true → [f_kinds_parts, f_spindleref12_All].contains x = false ∧ [f_kinds_Parts, f_spindleref12_Parts, f_spindlekit_EqualInts, f_spindlelaw12_awake].contains x = false := by
    intro x hx
    simp only [List.contains_eq_mem, List.mem_cons, List.not_mem_nil, or_false, decide_eq_true_eq] at hx
    rcases hx with rfl | rfl | rfl | rfl | rfl | rfl | rfl | rfl | rfl <;> exact ⟨rfl, rfl⟩
  rw [sel_no (h f hf).1, sel_no (h f hf).2]
theorem base2_l {C : CallF} {f : Nat} {args : List AV} {v : AV} (h : [f_kinds_parts, f_spindleref12_All].contains f = true) (hv : isV (locC C f 0 args S0) v = true) (k : Nat) (S : Heap) : Cn (base2 C) k f 0 args S = some (v, S) := by
  refine cn_B ?_ k
  unfold base2 orC
  rw [sel_B h hv]
theorem base2_r {C : CallF} {f : Nat} {args : List AV} {v : AV} (h0 : [f_kinds_parts, f_spindleref12_All].contains f = false) (h : [f_kinds_Parts, f_spindleref12_Parts, f_spindlekit_EqualInts, f_spindlelaw12_awake].contains f = true) (hv : isV (locC C1 f 0 args S0) v = true) (k : Nat) (S : Heap) : Cn (base2 C) k f 0 args S = some (v, S) := by
  refine cn_B ?_ k
  unfold base2 orC
  rw [sel_no h0, sel_B h hv]
theorem base2_ok {C : CallF} (hC : NOk Tryd.prog Gk C) (k : Nat) : NOk Tryd.prog Gk (Cn (base2 C) k) := callN_ok (rngC_ok ctlV_ok) mixed noG An (orC_ok (selC_ok _ hC) (selC_ok _ C1_ok)) k
theorem parts_out {C : CallF} (hC : NOk Tryd.prog Gk C) {kind a b c d : Nat} (hk : kind ≤ 255) {part n e : Int} {pv av : AV} (h1 : isV (locC C f_kinds_parts 0 [.int .u8 (kind : Int), subs a b c d] S0) (.tup [pv, .int .i64 e]) = true) (h2 : isV (locC C f_spindleref12_All 0 [.int .u8 (kind : Int), subs a b c d] S0) (.tup [av, .int .i64 e]) = true) (ho : Out part pv av n e) :
    ∃ (C' : CallF) (S' : Heap), NOk Tryd.prog Gk C' ∧ C' f_spindlelaw12_KindsParts 0 [.int .u8 (kind : Int), subs a b c d, .int .i64 part] S0 = some (.bool true, S') := by
  obtain ⟨v, n1, n2⟩ := np_of hk
  exact ⟨_, S0, base2_ok hC 4, parts_walk (k := 1) (base2_sil C) (fun S => base2_l rfl h1 _ S) (fun S => base2_l rfl h2 _ S) ho (fun S => base2_r rfl rfl n1 _ S) (fun S => base2_r rfl rfl n2 _ S) (fun S => base2_r rfl rfl eqnil_v _ S) (fun S => base2_r rfl rfl awake_w _ S) (fun S => base2_l rfl h1 _ S) (fun S => base2_l rfl h2 _ S)⟩
theorem isV_loc {C : CallF} {f : Nat} {args : List AV} {v : AV} {T : Heap} (ha : noIdL args = true) (hv : noId v = true) (hb : v.beq v = true) (h : C f 0 args S0 = some (v, T)) : isV (locC C f 0 args S0) v = true := by
  unfold locC
  rw [if_pos ha, h]
  simp only [hv, if_true]
  exact hb
theorem parts_law {kind a b c d : Nat} (hk : kind ≤ 255) {part : Int} : ∃ (C' : CallF) (S' : Heap), NOk Tryd.prog Gk C' ∧ C' f_spindlelaw12_KindsParts 0 [.int .u8 (kind : Int), subs a b c d, .int .i64 part] S0 = some (.bool true, S') := by
  have inn : ∀ {args : List AV}, isT (C2 f_spindlelaw12_KindsParts 0 args S0) = true → ∃ (C' : CallF) (S' : Heap), NOk Tryd.prog Gk C' ∧ C' f_spindlelaw12_KindsParts 0 args S0 = some (.bool true, S') := fun h => by
    obtain ⟨S', hS⟩ := isT_of h
    exact ⟨C2, S', C2_ok, hS⟩
  by_cases hr : 3 ≤ kind ∧ kind ≤ 6
  · have : kind = 3 ∨ kind = 4 ∨ kind = 5 ∨ kind = 6 := by omega
    rcases this with rfl | rfl | rfl | rfl
    · by_cases hp : part = 0
      · subst hp; exact inn (in3 a b c d)
      · exact parts_out C1_ok (by omega) (p3 a b c d).1 (p3 a b c d).2 (.inr ⟨1, _, _, rfl, rfl, rfl, rfl, by omega⟩)
    · by_cases hp : part = 0
      · subst hp; exact inn (in4 a b c d)
      · by_cases hp1 : part = 1
        · subst hp1; exact inn (in41 a b c d)
        · exact parts_out C1_ok (by omega) (p4 a b c d).1 (p4 a b c d).2 (.inr ⟨2, _, _, rfl, rfl, rfl, rfl, by omega⟩)
    · by_cases hp : part = 0
      · subst hp; exact inn (in5 a b c d)
      · by_cases hp1 : part = 1
        · subst hp1; exact inn (in51 a b c d)
        · exact parts_out C1_ok (by omega) (p5 a b c d).1 (p5 a b c d).2 (.inr ⟨2, _, _, rfl, rfl, rfl, rfl, by omega⟩)
    · by_cases hs : a < 4 ∧ b < 4 ∧ c < 4 ∧ d < 4
      · obtain ⟨h1, h2, h3, h4⟩ := hs
        by_cases hp : part < 0 ∨ part ≥ (num a b c d : Int)
        · exact parts_out C1_ok (by omega) (four_lt (four_lt (four_lt (four_lt parts_all h1) h2) h3) h4) (four_lt (four_lt (four_lt (four_lt all_all h1) h2) h3) h4) (.inr ⟨_, _, _, rfl, rfl, rfl, rfl, hp⟩)
        · obtain ⟨p, rfl⟩ := Int.eq_ofNat_of_zero_le (show 0 ≤ part by omega)
          exact inn (in6 h1 h2 h3 h4 (by omega))
      · obtain ⟨sf, e0, e1, e2, e3⟩ : ∃ sf : Nat → Int, sf 0 = a ∧ sf 1 = b ∧ sf 2 = c ∧ sf 3 = d := ⟨fun i => if i = 0 then a else if i = 1 then b else if i = 2 then c else d, rfl, rfl, rfl, rfl⟩
        have hpos : ∀ i : Nat, i < 4 → 0 ≤ sf i := fun i hi => by
          match i, hi with
          | 0, _ => omega
          | 1, _ => omega
          | 2, _ => omega
          | 3, _ => omega
        have hbad : ∃ i : Nat, i < 4 ∧ sf i > 3 := by
          by_cases h1 : a < 4
          · by_cases h2 : b < 4
            · by_cases h3 : c < 4
              · exact ⟨3, by omega, by omega⟩
              · exact ⟨2, by omega, by omega⟩
            · exact ⟨1, by omega, by omega⟩
          · exact ⟨0, by omega, by omega⟩
        obtain ⟨T1, t1⟩ := parts_bad (B := selC [f_spindleref12_quarter] C1) (k := 1) (sf := sf) (sel_no rfl) hpos hbad
        obtain ⟨T2, t2⟩ := all_bad (B := selC [f_spindleref12_quarter] C1) (k := 1) (sf := sf) (sel_no rfl) (fun i s hi hs => by
          obtain ⟨n, cells, q1, q2, q3, q4, q5⟩ := q_of hi hs
          exact ⟨n, cells, q1, q2, q3, q4, fun S => sel_yes rfl q5 _ S⟩) hpos hbad
        rw [e0, e1, e2, e3] at t1 t2
        exact parts_out (Cs_ok [f_spindleref12_quarter] 2) (by omega) (isV_loc rfl rfl rfl t1) (isV_loc rfl rfl rfl t2) (.inl ⟨rfl, rfl, rfl, by omega⟩)
  · have h := List.all_eq_true.1 (other_all a b c d part) kind (List.mem_range.2 (by omega))
    have hf : (Nat.ble 3 kind && Nat.ble kind 6) = false := by
      cases hb : (Nat.ble 3 kind && Nat.ble kind 6) with
      | false => rfl
      | true =>
        simp only [Bool.and_eq_true] at hb
        exact absurd ⟨Nat.le_of_ble_eq_true hb.1, Nat.le_of_ble_eq_true hb.2⟩ hr
    rw [hf, Bool.false_or] at h
    exact inn h
theorem kindsParts_law (xs : List AV) (h : argsOk Tryd.prog maxLen 16 Tryd.f4.params.toList xs) : ∃ (C : CallF) (S' : Heap), NOk Tryd.prog Gk C ∧ C 4 0 xs S0 = some (.bool true, S') := by
  rw [Tryd.params4] at h
  obtain ⟨a, r, rfl, h1, b, r2, rfl, h2, c, r3, rfl, h3, rfl⟩ := h
  obtain ⟨kind, rfl, hk⟩ := arg5 h1
  obtain ⟨x, y, z, w, rfl, _⟩ := arg23 h2
  obtain ⟨n, rfl, _⟩ := arg3 h3
  obtain ⟨kind, rfl⟩ := Int.eq_ofNat_of_zero_le hk.1
  exact parts_law (by omega)
end Go.Ab.tK
