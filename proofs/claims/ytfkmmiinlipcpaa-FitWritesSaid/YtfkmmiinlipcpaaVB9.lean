/- What is written is read: the codes of layer 18, as plain lists of bits. -/
import Derived.Test.YtfkmmiinlipcpaaVB8
set_option maxRecDepth 100000
set_option linter.unusedSimpArgs false
set_option linter.unusedVariables false
set_option linter.unusedSectionVars false
namespace Go.Ab.tV
open Go Go.Proofs

theorem rU_has {s : ByteArray} {a n v : Nat} (h : Has s a (bitsN n v)) (hv : v < 2 ^ n) : rU s n a = .ok (v, a + n) := by
  have hl := h.le
  rw [bitsN_len] at hl
  unfold rU
  rw [if_neg (by omega), h.val, Nat.mod_eq_of_lt hv]
theorem bitsN_zero : ∀ n, bitsN n 0 = List.replicate n false
  | 0 => rfl
  | n + 1 => by rw [bitsN, bitsN_zero n, List.replicate_succ]; simp
theorem lead_has {s : ByteArray} : ∀ {z f a : Nat}, z < f → Has s a (List.replicate z false ++ [true]) → lead s f a = .ok z
  | 0, f + 1, a, _, h => by
    simp only [List.replicate_zero, List.nil_append, Has.cons, if_true] at h
    rw [lead_succ, if_neg (by omega), if_pos h.1]
  | z + 1, f + 1, a, hz, h => by
    rw [List.replicate_succ, List.cons_append, Has.cons] at h
    simp only [Bool.false_eq_true, if_false] at h
    rw [lead_succ, if_neg (by omega), if_neg (by omega), lead_has (by omega) h.2.2]
    rfl
theorem ueC_split {v : Nat} (hv : v ≤ 4294967294) : ∃ z, z ≤ 31 ∧ ueC v = List.replicate z false ++ [true] ++ bitsN z (v + 1) ∧ 2 ^ z ≤ v + 1 ∧ v + 1 < 2 ^ (z + 1) ∧ (ueC v).length = 2 * z + 1 := by
  obtain ⟨h1, h2, h3⟩ := L2_spec (x := v + 1) (by omega)
  have h4 := L2_le (v := v + 1) (by omega)
  obtain ⟨z, hz⟩ : ∃ z, L2 (v + 1) = z + 1 := ⟨L2 (v + 1) - 1, by omega⟩
  rw [hz] at h1 h2
  rw [Nat.add_sub_cancel] at h1
  have hq : (v + 1) / 2 ^ z = 1 := by
    rw [Nat.pow_succ] at h2
    exact Nat.div_eq_of_lt_le (by omega) (by omega)
  refine ⟨z, by omega, ?_, h1, h2, by rw [ueC_len]; omega⟩
  unfold ueC
  rw [hz, show 2 * (z + 1) - 1 = z + (z + 1) by omega, bitsN_add, Nat.div_eq_of_lt h2, bitsN_zero, bitsN, hq, List.append_assoc]
  rfl
theorem rUe_has {s : ByteArray} {a v : Nat} (hv : v ≤ 4294967294) (h : Has s a (ueC v)) : rUe s a = .ok (v, a + (ueC v).length) := by
  obtain ⟨z, hz, he, h1, h2, hl⟩ := ueC_split hv
  rw [hl]
  have hle := h.le
  rw [hl] at hle
  rw [he, Has.app] at h
  obtain ⟨ha, hb⟩ := h
  simp only [List.length_append, List.length_replicate, List.length_cons, List.length_nil] at hb
  have hq : (v + 1) / 2 ^ z = 1 := by
    rw [Nat.pow_succ] at h2
    exact Nat.div_eq_of_lt_le (by omega) (by omega)
  have hm := Nat.div_add_mod (v + 1) (2 ^ z)
  rw [hq, Nat.mul_one] at hm
  unfold rUe
  rw [lead_has (by omega) ha]
  simp only
  rw [if_neg (by omega)]
  have hn := hb.val
  rw [show a + (z + (0 + 1)) = a + z + 1 by omega] at hn
  rw [hn]
  have e1 : 2 ^ z + (v + 1) % 2 ^ z - 1 = v := by omega
  have e2 : a + z + 1 + z = a + (2 * z + 1) := by omega
  rw [e1, e2]
theorem rUk_has {s : ByteArray} {a v k : Nat} (hv : v ≤ 4294967294) (h : Has s a (ukC k v)) : rUk s k a = .ok (v, a + (ukC k v).length) := by
  have hd : v / 2 ^ k ≤ v := Nat.div_le_self _ _
  have hle := h.le
  unfold ukC at h hle ⊢
  rw [List.length_append, bitsN_len] at hle ⊢
  rw [Has.app] at h
  unfold rUk
  rw [rUe_has (by omega) h.1]
  simp only
  rw [if_neg (by omega), h.2.val, Nat.mod_mod]
  have := Nat.div_add_mod v (2 ^ k)
  rw [Nat.mul_comm] at this
  rw [this, Nat.add_assoc]
theorem numR_has {s : ByteArray} {a c n : Nat} (hn : n ≤ 61) (h : Has s a (clsC c n)) : numR s c a = .ok (n, a + (clsC c n).length) := by
  unfold clsC at h ⊢
  unfold numR
  by_cases h3 : c = 3
  · rw [if_pos h3] at h ⊢
    rw [if_pos h3, bitsN_len]
    exact rU_has h (by omega)
  · rw [if_neg h3] at h ⊢
    rw [if_neg h3]
    exact rUk_has (by omega) h
theorem tok_fin : ∀ t : Fin 17, ∀ o : Fin 4, o.val ≤ min t.val 3 → bef t.val + min t.val 3 - o.val < bef (t.val + 1) ∧ pairL.getD (bef t.val + min t.val 3 - o.val) (0, 0) = (t.val, o.val) ∧ bef t.val + min t.val 3 - o.val ≤ 61 ∧ o.val ≤ bef t.val + min t.val 3 := by decide
theorem bef_mono : ∀ i j : Fin 18, i.val ≤ j.val → bef i.val ≤ bef j.val := by decide
theorem m3_nat (t : Nat) : m3 (t : Int) = ((min t 3 : Nat) : Int) := by unfold m3; split <;> omega
/-- Of a pair that is in range, what its number is, and back. -/
theorem sym_ok {t o : Nat} (ht : t ≤ 16) (ho : o ≤ min t 3) : ∃ n : Nat, symR t o = ((n : Int), 0) ∧ n ≤ 61 ∧ pairR n = ((t : Int), (o : Int), 0) ∧ ∀ size : Nat, t ≤ size → size ≤ 16 → n < bef (size + 1) := by
  obtain ⟨h1, h2, h3, h4⟩ := tok_fin ⟨t, by omega⟩ ⟨o, by omega⟩ ho
  simp only at h1 h2 h3 h4
  refine ⟨bef t + min t 3 - o, ?_, h3, ?_, fun size hs1 hs2 => ?_⟩
  · unfold symR
    rw [m3_nat, if_neg (by omega)]
    simp only [Int.toNat_natCast, Prod.mk.injEq, and_true]
    omega
  · unfold pairR
    rw [if_neg (by omega)]
    simp only [Int.toNat_natCast, h2]
  · have := bef_mono ⟨t + 1, by omega⟩ ⟨size + 1, by omega⟩ (by simp; omega)
    simp only at this
    omega
/-- A call that is valid. -/
structure Good (x : Cal) : Prop where
  w : x.w = 0 ∨ x.w = 1 ∨ x.w = 2
  b : x.b = 4 ∨ x.b = 15 ∨ x.b = 16
  t0 : x.w = 0 → (0 ≤ x.a ∧ x.a ≤ 4) ∧ (0 ≤ x.c ∧ x.c ≤ x.b) ∧ 0 ≤ x.d ∧ x.d ≤ m3 x.c
  t1 : x.w = 1 → (1 ≤ x.c ∧ x.c ≤ x.b) ∧ 0 ≤ x.d ∧ x.d ≤ x.b - x.c
  t2 : x.w = 2 → (0 ≤ x.a ∧ x.a ≤ 15) ∧ 0 ≤ x.d ∧ x.d ≤ x.a
/-- What a call writes: the error and the bits. -/
def calP (x : Cal) : Int × List Bool := if x.w = 0 then tokP x.a x.b x.c x.d else if x.w = 1 then zerP x.b x.c x.d else runP x.a x.d
theorem calP_len (x : Cal) : (calP x).2.length ≤ 80 := by
  unfold calP
  split
  · exact tokP_len _ _ _ _
  · split
    · exact zerP_len _ _ _
    · exact runP_len _ _
theorem tok_good {x : Cal} (h : Good x) (h0 : x.w = 0) : (tokP x.a x.b x.c x.d).1 = 0 ∧ ∀ s a, Has s a (tokP x.a x.b x.c x.d).2 → tokR s a x.a x.b = (x.c, x.d, 0, a + (tokP x.a x.b x.c x.d).2.length) := by
  obtain ⟨⟨a1, a2⟩, ⟨c1, c2⟩, d1, d2⟩ := h.t0 h0
  have hb := h.b
  obtain ⟨xw, xa, xb, xc, xd⟩ := x
  simp only at *
  obtain ⟨c, rfl⟩ := Int.eq_ofNat_of_zero_le a1
  obtain ⟨sz, rfl⟩ := Int.eq_ofNat_of_zero_le (show 0 ≤ xb by omega)
  obtain ⟨t, rfl⟩ := Int.eq_ofNat_of_zero_le c1
  obtain ⟨o, rfl⟩ := Int.eq_ofNat_of_zero_le d1
  rw [m3_nat] at d2
  obtain ⟨n, e1, e2, e3, e4⟩ := sym_ok (t := t) (o := o) (by omega) (by omega)
  have hs : sizedI (sz : Int) = true := (sizedI_iff _).2 (by omega)
  have hP : tokP c sz t o = (0, clsC c n) := by
    unfold tokP
    rw [if_neg (by simp only [not_or]; exact ⟨by omega, by omega, by simp [hs], by omega⟩), e1, if_neg (by simp)]
    rfl
  rw [hP]
  refine ⟨rfl, fun s a hh => ?_⟩
  have hn := numR_has e2 hh
  unfold tokR
  rw [if_neg (by simp only [not_or]; exact ⟨by omega, by omega, by simp [hs]⟩)]
  simp only [Int.toNat_natCast, hn]
  have := e4 sz (by omega) (by omega)
  rw [if_neg (by omega), e3]
theorem num_pre {s : ByteArray} {a b : Nat} : num s a (b + 1) = 2 * num s a b + sb s (a + b) := rfl
theorem zer_good {size total z : Int} (hb : size = 4 ∨ size = 15 ∨ size = 16) (hc : 1 ≤ total ∧ total ≤ size) (hz : 0 ≤ z ∧ z ≤ size - total) : (zerP size total z).1 = 0 ∧ ∀ s a, Has s a (zerP size total z).2 → zerR s a size total = (z, 0, a + (zerP size total z).2.length) := by
  have hs : sizedI size = true := (sizedI_iff _).2 hb
  obtain ⟨m, hm⟩ := Int.eq_ofNat_of_zero_le (show 0 ≤ size - total by omega)
  obtain ⟨f1, f2, f3, f4, f5, f6⟩ := cut_facts ⟨m, by omega⟩
  simp only at f1 f2 f3 f4 f5 f6
  obtain ⟨y, rfl⟩ := Int.eq_ofNat_of_zero_le hz.1
  have hym : y ≤ m := by omega
  have hb1 : 2 ^ (cutB m + 1) = 2 * 2 ^ cutB m := by rw [Nat.pow_succ]; omega
  unfold zerP
  rw [if_neg (by simp only [not_or]; exact ⟨by simp [hs], by omega, by omega, by omega, by omega⟩), hm]
  simp only [Int.toNat_natCast]
  by_cases hd : y < cutD m
  · rw [if_pos hd]
    refine ⟨rfl, fun s a hh => ?_⟩
    have hl := hh.le
    have hn := hh.val
    simp only [bitsN_len] at hl ⊢
    rw [Nat.mod_eq_of_lt (by omega)] at hn
    unfold zerR
    rw [if_neg (by simp only [not_or]; exact ⟨by simp [hs], by omega, by omega⟩), hm]
    simp only [Int.toNat_natCast]
    rw [if_neg (by omega), hn, if_pos hd]
  · rw [if_neg hd]
    refine ⟨rfl, fun s a hh => ?_⟩
    have hl := hh.le
    have hn := hh.val
    simp only [bitsN_len] at hl ⊢
    rw [Nat.mod_eq_of_lt (by omega)] at hn
    have hp := num_pre (s := s) (a := a) (b := cutB m)
    have h2 := sb_lt s (a + cutB m)
    unfold zerR
    rw [if_neg (by simp only [not_or]; exact ⟨by simp [hs], by omega, by omega⟩), hm]
    simp only [Int.toNat_natCast]
    rw [if_neg (by omega), if_neg (by omega), if_neg (by omega), hn]
    simp only [Prod.mk.injEq, true_and]
    exact ⟨by omega, by omega⟩
theorem runN_has1 {s : ByteArray} : ∀ {r l a : Nat}, r < l → Has s a (List.replicate r false ++ [true]) → runN s l a = some r
  | 0, l + 1, a, _, h => by
    simp only [List.replicate_zero, List.nil_append, Has.cons, if_true] at h
    rw [runN_succ, if_neg (by omega), if_pos h.1]
  | r + 1, l + 1, a, hr, h => by
    rw [List.replicate_succ, List.cons_append, Has.cons] at h
    simp only [Bool.false_eq_true, if_false] at h
    rw [runN_succ, if_neg (by omega), if_neg (by omega), runN_has1 (by omega) h.2.2]
    rfl
theorem runN_has0 {s : ByteArray} : ∀ {l a : Nat}, Has s a (List.replicate l false) → runN s l a = some l
  | 0, a, h => rfl
  | l + 1, a, h => by
    rw [List.replicate_succ, Has.cons] at h
    simp only [Bool.false_eq_true, if_false] at h
    rw [runN_succ, if_neg (by omega), if_neg (by omega), runN_has0 h.2.2]
    rfl
theorem bitsN_one (r : Nat) : bitsN (r + 1) 1 = List.replicate r false ++ [true] := by
  rw [bitsN_add r 1 1, show (1 : Nat) / 2 ^ 1 = 0 from rfl, bitsN_zero]; rfl
theorem run_good {left run : Int} (hl : 0 ≤ left ∧ left ≤ 15) (hr : 0 ≤ run ∧ run ≤ left) : (runP left run).1 = 0 ∧ ∀ s a, Has s a (runP left run).2 → runR s a left = (run, 0, a + (runP left run).2.length) := by
  obtain ⟨l, rfl⟩ := Int.eq_ofNat_of_zero_le hl.1
  obtain ⟨r, rfl⟩ := Int.eq_ofNat_of_zero_le hr.1
  unfold runP
  rw [if_neg (by simp only [not_or]; exact ⟨by omega, by omega, by omega, by omega⟩)]
  simp only [Int.toNat_natCast]
  by_cases h : (r : Int) = l
  · rw [if_pos h]
    have : r = l := by omega
    subst this
    refine ⟨rfl, fun s a hh => ?_⟩
    simp only [bitsN_len]
    simp only [bitsN_zero] at hh
    unfold runR
    rw [if_neg (by simp only [not_or]; exact ⟨by omega, by omega⟩)]
    simp only [Int.toNat_natCast, runN_has0 hh]
    rw [show min (r + 1) r = r by omega]
  · rw [if_neg h]
    refine ⟨rfl, fun s a hh => ?_⟩
    simp only [bitsN_len]
    simp only [bitsN_one] at hh
    unfold runR
    rw [if_neg (by simp only [not_or]; exact ⟨by omega, by omega⟩)]
    simp only [Int.toNat_natCast, runN_has1 (show r < l by omega) hh]
    rw [show min (r + 1) l = r + 1 by omega]
-- and back: what is read from bits are those that are written
theorem zer_back {size total : Int} (hb : size = 4 ∨ size = 15 ∨ size = 16) (hc : 1 ≤ total ∧ total ≤ size) {s : ByteArray} {a : Nat} (ha : a ≤ 8 * s.size) :
    ((zerR s a size total).2.1 = 5 ∧ (zerR s a size total).2.2 = a ∧ 8 * s.size < a + 15) ∨
    ((zerR s a size total).2.1 = 0 ∧ (0 ≤ (zerR s a size total).1 ∧ (zerR s a size total).1 ≤ size - total) ∧ Has s a (zerP size total (zerR s a size total).1).2 ∧ (zerR s a size total).2.2 = a + (zerP size total (zerR s a size total).1).2.length) := by
  have hs : sizedI size = true := (sizedI_iff _).2 hb
  obtain ⟨m, hm⟩ := Int.eq_ofNat_of_zero_le (show 0 ≤ size - total by omega)
  obtain ⟨f1, f2, f3, f4, f5, f6⟩ := cut_facts ⟨m, by omega⟩
  simp only at f1 f2 f3 f4 f5 f6
  have hb1 : 2 ^ (cutB m + 1) = 2 * 2 ^ cutB m := by rw [Nat.pow_succ]; omega
  have hdd : cutD m + (m + 1) = 2 ^ (cutB m + 1) := by unfold cutD; omega
  unfold zerR
  rw [if_neg (by simp only [not_or]; exact ⟨by simp [hs], by omega, by omega⟩), hm]
  simp only [Int.toNat_natCast]
  by_cases h1 : 8 * s.size < a + cutB m
  · rw [if_pos h1]; exact .inl ⟨rfl, rfl, by omega⟩
  rw [if_neg h1]
  have hn := num_lt s a (cutB m)
  by_cases h2 : num s a (cutB m) < cutD m
  · rw [if_pos h2]
    have hym : num s a (cutB m) ≤ m := by omega
    refine .inr ⟨rfl, ⟨by simp, by simp; omega⟩, ?_⟩
    unfold zerP
    rw [if_neg (by simp only [not_or]; exact ⟨by simp [hs], by omega, by omega, by simp, by simp; omega⟩), hm]
    simp only [Int.toNat_natCast]
    rw [if_pos h2]
    exact ⟨bitsN_of (by omega), by simp [bitsN_len]⟩
  · rw [if_neg h2]
    by_cases h3 : 8 * s.size < a + cutB m + 1
    · rw [if_pos h3]; exact .inl ⟨rfl, rfl, by omega⟩
    rw [if_neg h3]
    have hn2 := num_lt s a (cutB m + 1)
    have hp := num_pre (s := s) (a := a) (b := cutB m)
    obtain ⟨y, hy⟩ : ∃ y, num s a (cutB m + 1) = y + cutD m := ⟨num s a (cutB m + 1) - cutD m, by omega⟩
    have hyI : ((num s a (cutB m + 1) : Nat) : Int) - ((cutD m : Nat) : Int) = (y : Int) := by omega
    have hym : y ≤ m := by omega
    have hyd : ¬ y < cutD m := by omega
    refine .inr ⟨rfl, ?_, ?_⟩
    · rw [hyI]; exact ⟨by simp, by simp; omega⟩
    · rw [hyI]
      unfold zerP
      rw [if_neg (by simp only [not_or]; exact ⟨by simp [hs], by omega, by omega, by simp, by simp; omega⟩), hm]
      simp only [Int.toNat_natCast]
      rw [if_neg hyd, ← hy]
      exact ⟨bitsN_of (by omega), by simp only [bitsN_len]; omega⟩
theorem runN_back {s : ByteArray} : ∀ {l a n : Nat}, runN s l a = some n → (n = l ∧ Has s a (List.replicate l false) ∨ n < l ∧ Has s a (List.replicate n false ++ [true])) ∨ (l = 0 ∧ n = 0)
  | 0, a, n, h => by cases h; exact .inr ⟨rfl, rfl⟩
  | l + 1, a, n, h => by
    rw [runN_succ] at h
    split at h
    · cases h
    · rename_i h1
      split at h
      · rename_i h2
        cases h
        refine .inl (.inr ⟨by omega, ?_⟩)
        simp only [List.replicate_zero, List.nil_append, Has.cons, if_true]
        exact ⟨h2, by omega, Has.nil (by omega)⟩
      · rename_i h2
        have h0 : sb s a = 0 := by have := sb_lt s a; omega
        cases hr : runN s l (a + 1) with
        | none => rw [hr] at h; cases h
        | some m =>
          rw [hr] at h
          simp only [Option.map, Option.some.injEq] at h
          subst h
          rcases runN_back hr with (⟨rfl, hh⟩ | ⟨hlt, hh⟩) | ⟨rfl, rfl⟩
          · refine .inl (.inl ⟨rfl, ?_⟩)
            rw [List.replicate_succ, Has.cons]
            exact ⟨by simpa using h0, by omega, hh⟩
          · refine .inl (.inr ⟨by omega, ?_⟩)
            rw [List.replicate_succ, List.cons_append, Has.cons]
            exact ⟨by simpa using h0, by omega, hh⟩
          · refine .inl (.inl ⟨rfl, ?_⟩)
            rw [List.replicate_succ, Has.cons]
            exact ⟨by simpa using h0, by omega, Has.nil (by omega)⟩
theorem runN_none {s : ByteArray} : ∀ {l a : Nat}, a ≤ 8 * s.size → runN s l a = none → 8 * s.size < a + l
  | 0, a, _, h => by cases h
  | l + 1, a, ha, h => by
    rw [runN_succ] at h
    split at h
    · omega
    · split at h
      · cases h
      · have : runN s l (a + 1) = none := by
          cases hr : runN s l (a + 1) with
          | none => rfl
          | some m => rw [hr] at h; cases h
        have := runN_none (by omega) this
        omega
theorem run_back {left : Int} (hl : 0 ≤ left ∧ left ≤ 15) {s : ByteArray} {a : Nat} (ha : a ≤ 8 * s.size) :
    ((runR s a left).2.1 = 5 ∧ (runR s a left).2.2 = a ∧ 8 * s.size < a + 15) ∨
    ((runR s a left).2.1 = 0 ∧ (0 ≤ (runR s a left).1 ∧ (runR s a left).1 ≤ left) ∧ Has s a (runP left (runR s a left).1).2 ∧ (runR s a left).2.2 = a + (runP left (runR s a left).1).2.length) := by
  obtain ⟨l, rfl⟩ := Int.eq_ofNat_of_zero_le hl.1
  unfold runR
  rw [if_neg (by simp only [not_or]; exact ⟨by omega, by omega⟩)]
  simp only [Int.toNat_natCast]
  cases hr : runN s l a with
  | none => exact .inl ⟨rfl, rfl, by have := runN_none ha hr; omega⟩
  | some n =>
    obtain ⟨n1, n2⟩ := runN_ok ha hr
    refine .inr ⟨rfl, ⟨by simp, by simp; omega⟩, ?_⟩
    unfold runP
    rw [if_neg (by simp only [not_or]; exact ⟨by omega, by omega, by simp, by simp; omega⟩)]
    simp only [Int.toNat_natCast]
    rcases runN_back hr with (⟨rfl, hh⟩ | ⟨hlt, hh⟩) | ⟨rfl, rfl⟩
    · rw [if_pos rfl, bitsN_zero]
      exact ⟨hh, by simp⟩
    · rw [if_neg (by omega), bitsN_one]
      exact ⟨hh, by simp; omega⟩
    · rw [if_pos rfl]
      exact ⟨Has.nil ha, by simp [bitsN]⟩
end Go.Ab.tV
