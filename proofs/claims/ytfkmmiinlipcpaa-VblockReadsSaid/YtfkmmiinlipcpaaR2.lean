/- Part 2 of what the statement needs; no condition beyond what each theorem says. -/
import Derived.Test.YtfkmmiinlipcpaaR1
set_option maxRecDepth 100000
set_option linter.unusedSimpArgs false
set_option linter.unusedVariables false
set_option linter.unusedSectionVars false
namespace Go.Ab.tV
open Go Go.Proofs
theorem onR_good {s : ByteArray} : ∀ (n a : Nat) (L : List Int) (a' : Nat), a ≤ 8 * s.size → onR s n a = .ok (L, a') → L.length = n ∧ (∀ v ∈ L, v ≠ 0 ∧ v.natAbs ≤ 3000) ∧ a' ≤ 8 * s.size
  | 0, a, L, a', ha, h => by
    rw [onR] at h
    injection h with h
    obtain ⟨h1, h2⟩ := Prod.mk.inj h
    subst h1; subst h2; simp [ha]
  | n + 1, a, L, a', ha, h => by
    rw [onR] at h
    by_cases h0 : 8 * s.size ≤ a
    · rw [if_pos h0] at h; cases h
    · rw [if_neg h0] at h
      cases hr : onR s n (a + 1) with
      | error e => rw [hr] at h; cases h
      | ok x =>
        obtain ⟨M, b⟩ := x
        rw [hr] at h
        injection h with h
        obtain ⟨h1, h2⟩ := Prod.mk.inj h
        obtain ⟨i1, i2, i3⟩ := onR_good n (a + 1) M b (by omega) hr
        rw [← h1, ← h2]
        refine ⟨by simp [i1], fun v hv => ?_, i3⟩
        rcases List.mem_cons.1 hv with hv | hv
        · rw [hv]; split <;> exact ⟨by decide, by decide⟩
        · exact i2 v hv
theorem aftN_le {K v : Nat} (h : K ≤ 6) : aftN K v ≤ 6 := (aft_le h v).1
theorem lvsR_good {s : ByteArray} : ∀ (n a K sk : Nat) (L : List Int) (a' : Nat), K ≤ 6 → sk ≤ 2 → a ≤ 8 * s.size → lvsR s n a K sk = .ok (L, a') → L.length = n ∧ (∀ v ∈ L, v ≠ 0 ∧ v.natAbs ≤ 3000) ∧ a' ≤ 8 * s.size
  | 0, a, K, sk, L, a', hK, hs, ha, h => by
    rw [lvsR] at h
    injection h with h
    obtain ⟨h1, h2⟩ := Prod.mk.inj h
    subst h1; subst h2; simp [ha]
  | n + 1, a, K, sk, L, a', hK, hs, ha, h => by
    rw [lvsR] at h
    cases hl : lvR s a K sk with
    | error e => rw [hl] at h; cases h
    | ok x =>
      obtain ⟨v, b⟩ := x
      rw [hl] at h
      simp only at h
      obtain ⟨v1, v2, v3⟩ := lvR_good hK hs ha hl
      cases hr : lvsR s n b (aftN K v.natAbs) 0 with
      | error e => rw [hr] at h; cases h
      | ok x =>
        obtain ⟨M, c⟩ := x
        rw [hr] at h
        injection h with h
        obtain ⟨h1, h2⟩ := Prod.mk.inj h
        obtain ⟨i1, i2, i3⟩ := lvsR_good n b _ 0 M c (aftN_le hK) (by omega) v3 hr
        rw [← h1, ← h2]
        refine ⟨by simp [i1], fun w hw => ?_, i3⟩
        rcases List.mem_cons.1 hw with hw | hw
        · rw [hw]; exact ⟨v1, v2⟩
        · exact i2 w hw
theorem levR_good {s : ByteArray} {a t o : Nat} {L : List Int} {a' : Nat} (hto : o ≤ t) (ha : a ≤ 8 * s.size) (h : levR s a t o = .ok (L, a')) : L.length = t ∧ (∀ v ∈ L, v ≠ 0 ∧ v.natAbs ≤ 3000) ∧ a' ≤ 8 * s.size := by
  unfold levR at h
  cases h1 : onR s o a with
  | error e => rw [h1] at h; cases h
  | ok x =>
    obtain ⟨M, b⟩ := x
    rw [h1] at h
    simp only at h
    obtain ⟨m1, m2, m3⟩ := onR_good o a M b ha h1
    cases h2 : lvsR s (t - o) b (k0N t o) (s0N o) with
    | error e => rw [h2] at h; cases h
    | ok y =>
      obtain ⟨M2, c⟩ := y
      rw [h2] at h
      injection h with h
      obtain ⟨e1, e2⟩ := Prod.mk.inj h
      obtain ⟨n1, n2, n3⟩ := lvsR_good (t - o) b _ _ M2 c (by unfold k0N; split <;> omega) (by unfold s0N; split <;> omega) m3 h2
      rw [← e1, ← e2]
      refine ⟨by simp [m1, n1]; omega, fun v hv => ?_, n3⟩
      rcases List.mem_append.1 hv with hv | hv
      · exact m2 v hv
      · exact n2 v hv
theorem onR_err {s : ByteArray} : ∀ (n a : Nat) (e : Int), onR s n a = .error e → e ≠ 0
  | 0, a, e, h => by rw [onR] at h; cases h
  | n + 1, a, e, h => by
    rw [onR] at h
    by_cases h0 : 8 * s.size ≤ a
    · rw [if_pos h0] at h
      have : (5 : Int) = e := by injection h
      omega
    · rw [if_neg h0] at h
      cases hr : onR s n (a + 1) with
      | error e' =>
        rw [hr] at h
        have : e' = e := by injection h
        subst this; exact onR_err n (a + 1) e' hr
      | ok x => rw [hr] at h; cases h
theorem lvsR_err {s : ByteArray} : ∀ (n a K sk : Nat) (e : Int), lvsR s n a K sk = .error e → e ≠ 0
  | 0, a, K, sk, e, h => by rw [lvsR] at h; cases h
  | n + 1, a, K, sk, e, h => by
    rw [lvsR] at h
    cases hl : lvR s a K sk with
    | error e' =>
      rw [hl] at h
      have : e' = e := by injection h
      subst this; exact lvR_err hl
    | ok x =>
      obtain ⟨v, b⟩ := x
      rw [hl] at h
      simp only at h
      cases hr : lvsR s n b (aftN K v.natAbs) 0 with
      | error e' =>
        rw [hr] at h
        have : e' = e := by injection h
        subst this; exact lvsR_err n b _ 0 e' hr
      | ok x => rw [hr] at h; cases h
theorem levR_err {s : ByteArray} {a t o : Nat} {e : Int} (h : levR s a t o = .error e) : e ≠ 0 := by
  unfold levR at h
  cases h1 : onR s o a with
  | error e' =>
    rw [h1] at h
    have : e' = e := by injection h
    subst this; exact onR_err o a e' h1
  | ok x =>
    obtain ⟨M, b⟩ := x
    rw [h1] at h
    simp only at h
    cases h2 : lvsR s (t - o) b (k0N t o) (s0N o) with
    | error e' =>
      rw [h2] at h
      have : e' = e := by injection h
      subst this; exact lvsR_err _ _ _ _ e' h2
    | ok y => rw [h2] at h; cases h
theorem zerR_pos {s : ByteArray} {a : Nat} {size total : Int} (ha : a ≤ 8 * s.size) : a ≤ (zerR s a size total).2.2 ∧ (zerR s a size total).2.2 ≤ 8 * s.size := by
  unfold zerR
  split
  · exact ⟨Nat.le_refl _, ha⟩
  · split
    · exact ⟨Nat.le_refl _, ha⟩
    · split
      · exact ⟨by simp only; omega, by simp only; omega⟩
      · split
        · exact ⟨Nat.le_refl _, ha⟩
        · exact ⟨by simp only; omega, by simp only; omega⟩
theorem lvR_mono {s : ByteArray} {a K sk : Nat} {v : Int} {a' : Nat} (h : lvR s a K sk = .ok (v, a')) : a ≤ a' := by
  unfold lvR at h
  split at h
  · cases h
  · split at h
    · cases h
    · have hv := congrArg (fun x => match x with | .ok (v, a') => a' | .error _ => 0) h
      simp only at hv
      omega
theorem onR_mono {s : ByteArray} : ∀ (n a : Nat) (L : List Int) (a' : Nat), onR s n a = .ok (L, a') → a ≤ a'
  | 0, a, L, a', h => by
    rw [onR] at h
    injection h with h
    have := (Prod.mk.inj h).2
    omega
  | n + 1, a, L, a', h => by
    rw [onR] at h
    by_cases h0 : 8 * s.size ≤ a
    · rw [if_pos h0] at h; cases h
    · rw [if_neg h0] at h
      cases hr : onR s n (a + 1) with
      | error e => rw [hr] at h; cases h
      | ok x =>
        obtain ⟨M, b⟩ := x
        rw [hr] at h
        injection h with h
        have := (Prod.mk.inj h).2
        have := onR_mono n (a + 1) M b hr
        omega
theorem lvsR_mono {s : ByteArray} : ∀ (n a K sk : Nat) (L : List Int) (a' : Nat), lvsR s n a K sk = .ok (L, a') → a ≤ a'
  | 0, a, K, sk, L, a', h => by
    rw [lvsR] at h
    injection h with h
    have := (Prod.mk.inj h).2
    omega
  | n + 1, a, K, sk, L, a', h => by
    rw [lvsR] at h
    cases hl : lvR s a K sk with
    | error e => rw [hl] at h; cases h
    | ok x =>
      obtain ⟨v, b⟩ := x
      rw [hl] at h
      simp only at h
      have := lvR_mono hl
      cases hr : lvsR s n b (aftN K v.natAbs) 0 with
      | error e => rw [hr] at h; cases h
      | ok x =>
        obtain ⟨M, c⟩ := x
        rw [hr] at h
        injection h with h
        have := (Prod.mk.inj h).2
        have := lvsR_mono n b _ 0 M c hr
        omega
theorem levR_mono {s : ByteArray} {a t o : Nat} {L : List Int} {a' : Nat} (h : levR s a t o = .ok (L, a')) : a ≤ a' := by
  unfold levR at h
  cases h1 : onR s o a with
  | error e => rw [h1] at h; cases h
  | ok x =>
    obtain ⟨M, b⟩ := x
    rw [h1] at h
    simp only at h
    have := onR_mono o a M b h1
    cases h2 : lvsR s (t - o) b (k0N t o) (s0N o) with
    | error e => rw [h2] at h; cases h
    | ok y =>
      obtain ⟨M2, c⟩ := y
      rw [h2] at h
      injection h with h
      have := (Prod.mk.inj h).2
      have := lvsR_mono _ _ _ _ M2 c h2
      omega
/-- What the runs that were read go on with. -/
def preM (X : List Nat) : Except Int (List Nat × Nat) → Except Int (List Nat × Nat)
  | .ok (L, a') => .ok (X ++ L, a')
  | .error e => .error e
theorem preM_nil (r : Except Int (List Nat × Nat)) : preM [] r = r := by cases r <;> rfl
theorem preM_app (X Y : List Nat) (r : Except Int (List Nat × Nat)) : preM X (preM Y r) = preM (X ++ Y) r := by cases r <;> simp [preM]
theorem runsR_0 (s : ByteArray) (n a : Nat) : runsR s (n + 1) 0 a = preM [0] (runsR s n 0 a) := by
  rw [runsR, if_pos rfl]
  cases runsR s n 0 a <;> rfl
theorem runsR_s {s : ByteArray} {n left a : Nat} (h0 : left ≠ 0) (h1 : (runR s a left).2.1 = 0) : runsR s (n + 1) left a = preM [(runR s a left).1.toNat] (runsR s n (left - (runR s a left).1.toNat) (runR s a left).2.2) := by
  rw [runsR, if_neg h0, if_neg (by simp [h1])]
  cases runsR s n (left - (runR s a left).1.toNat) (runR s a left).2.2 <;> rfl
theorem runsR_e {s : ByteArray} {n left a : Nat} (h0 : left ≠ 0) (h1 : (runR s a left).2.1 ≠ 0) : runsR s (n + 1) left a = .error (runR s a left).2.1 := by
  rw [runsR, if_neg h0, if_pos h1]
theorem runsR_err {s : ByteArray} : ∀ (n left a : Nat) (e : Int), runsR s n left a = .error e → e ≠ 0
  | 0, left, a, e, h => by rw [runsR] at h; cases h
  | n + 1, left, a, e, h => by
    by_cases h0 : left = 0
    · subst h0
      rw [runsR_0] at h
      cases hr : runsR s n 0 a with
      | error e' =>
        rw [hr] at h
        have : e' = e := by injection h
        subst this; exact runsR_err n 0 a e' hr
      | ok x => rw [hr] at h; cases h
    · by_cases h1 : (runR s a left).2.1 ≠ 0
      · rw [runsR_e h0 h1] at h
        have : (runR s a left).2.1 = e := by injection h
        rw [← this]; exact h1
      · rw [runsR_s h0 (by simpa using h1)] at h
        cases hr : runsR s n (left - (runR s a left).1.toNat) (runR s a left).2.2 with
        | error e' =>
          rw [hr] at h
          have : e' = e := by injection h
          subst this; exact runsR_err n _ _ e' hr
        | ok x => rw [hr] at h; cases h
theorem readR_err {s : ByteArray} {a : Nat} {cls size e : Int} (h : readR s a cls size = .error e) : e ≠ 0 := by
  unfold readR at h
  split at h
  · have : (3 : Int) = e := by injection h
    omega
  · split at h
    · rename_i h1
      have : (tokR s a cls size).2.2.1 = e := by injection h
      rw [← this]; exact h1
    · split at h
      · cases h
      · split at h
        · rename_i e' he
          have : e' = e := by injection h
          rw [← this]; exact levR_err he
        · split at h
          · rename_i L a1 _ h1
            have : (zerR s a1 size (tokR s a cls size).1).2.1 = e := by injection h
            rw [← this]; exact h1
          · split at h
            · rename_i e' he
              have : e' = e := by injection h
              rw [← this]; exact runsR_err _ _ _ _ he
            · cases h
/-- The block of the levels and the runs. -/
def finR (L : List Int) (Z n : Nat) : Except Int (List Nat × Nat) → Except Int (List Int × Nat)
  | .error e => .error e
  | .ok (M, a3) => .ok (fill L M (Z + L.length - 1) (List.replicate n 0), a3)
/-- Of what was read there is a block. -/
theorem read_blk {n : Nat} (hn : sizedI (n : Int) = true) {L : List Int} {M : List Nat} {Z : Nat} (hL0 : L ≠ []) (hL : ∀ v ∈ L, v ≠ 0 ∧ v.natAbs ≤ 3000) (hM : M.length = L.length - 1) (hZ : M.sum ≤ Z) (hsz : L.length + Z ≤ n) :
    ∃ l, l = fill L M (Z + L.length - 1) (List.replicate n 0) ∧ Blk l ∧ l.length = n ∧ (rst l).1 = L ∧ (rst l).2.1 = M ∧ rZ l = Z := by
  obtain ⟨l, q1, q2, q3⟩ := rst_has L.length L M (Z - M.sum) n rfl hL0 (fun v hv => (hL v hv).1) hM (by omega)
  have e1 : (rst l).1 = L := by rw [q2]
  have e2 : (rst l).2.1 = M := by rw [q2]
  have e3 : (rst l).2.2 = Z - M.sum := by rw [q2]
  have hf := fill_rst l (by rw [e1]; exact hL0)
  have hp := List.length_pos_iff.2 hL0
  rw [e1, e2, e3, q1, show Z - M.sum + (L.length - 1) + M.sum = Z + L.length - 1 by omega] at hf
  refine ⟨l, hf.symm, ⟨by rw [q1]; exact hn, ?_⟩, q1, e1, e2, ?_⟩
  · unfold rngd
    rw [List.all_eq_true]
    intro v hv
    rcases q3 v hv with h | h
    · rw [h]; decide
    · have := (hL v h).2
      simp only [Bool.and_eq_true, decide_eq_true_eq]; omega
  · unfold rZ
    rw [if_neg (by rw [e1]; exact hL0), e2, e3]; omega
section
variable {B : CallF} (hB : Silent B) (k : Nat) {S : Heap} {p : Nat} {s : ByteArray} {a : Nat}
include hB
theorem readBig_c (hr : Rdr S p s a) {cls size : Int} (hc : ¬ (cls < 0 ∨ cls > 4)) (hsz' : sizedI size = true) (te0 : (tokR s a cls size).2.2.1 = 0) (t0 : (tokR s a cls size).1 ≠ 0) :
    BOut S p s a (readR s a cls size) (Cn B (k + 10) f_vblock_Read 0 [.ptr p 0, .int .i64 cls, .int .i64 size] S) := by
  rw [c_vblock_Read _ _ _ _ _ _ (hB.no _ _ _ _ (kn_no (by decide))), T_vblock_Read]
  have hplt := hr.lt
  have hca : cell (.ptr p 0) = true := rfl
  have n2 : ∀ n : Nat, n + 1 + 1 = n + 2 := fun _ => rfl
  have on : (openD S).next = S.next := rfl
  obtain ⟨U, hU⟩ : ∃ U, U = (((openD S).alloc [.ptr p 0]).alloc [.nils]).alloc [.int .i64 0] := ⟨_, rfl⟩
  have un : U.next = S.next + 3 := by rw [hU]; rfl
  have ub : ∀ j, j < S.next → U.blk j = S.blk j := fun j hj => by
    rw [hU, alloc_other _ _ (by show j ≠ S.next + 1 + 1; omega), alloc_other _ _ (by show j ≠ S.next + 1; omega), alloc_other _ _ (by show j ≠ S.next; omega)]; rfl
  have u0 : U.blk S.next = some [.ptr p 0] := by
    rw [hU, alloc_other _ _ (by show S.next ≠ S.next + 1 + 1; omega), alloc_other _ _ (by show S.next ≠ S.next + 1; omega)]; exact alloc_blk (openD S) _
  have u1 : U.blk (S.next + 1) = some [.nils] := by
    rw [hU, alloc_other _ _ (by show S.next + 1 ≠ S.next + 1 + 1; omega)]; exact alloc_blk ((openD S).alloc _) _
  have u2 : U.blk (S.next + 2) = some [.int .i64 0] := by rw [hU]; exact alloc_blk (((openD S).alloc _).alloc _) _
  have ux : U.cx = (S.cx.1, []) := by rw [hU]; rfl
  have hRU : Rdr U p s a := ⟨(ub p hplt).trans hr.blk, by omega, hr.sz, hr.le⟩
  have c1 : ¬ cls < 0 := by omega
  have c2 : ¬ cls > 4 := by omega
  have e1 := vsized_c hB (k + 8) (S := U) size
  rw [hsz'] at e1
  obtain ⟨V, e2, rV, fV⟩ := rcopy_c hB (k + 8) hRU
  have vn := fV.1
  obtain ⟨x, hx⟩ : ∃ x, x = U.next := ⟨_, rfl⟩
  rw [← hx] at e2 rV
  have hxlt := rV.lt
  obtain ⟨bc, hbc⟩ : ∃ bc, bc = V.next := ⟨_, rfl⟩
  obtain ⟨V1, hV1⟩ : ∃ V1, V1 = V.alloc [.nilp] := ⟨_, rfl⟩
  have v1b : V1.blk bc = some [.nilp] := by rw [hV1, hbc]; exact alloc_blk _ _
  have e3 := put1_0' (x := .ptr x 0) v1b
  obtain ⟨W, hW⟩ : ∃ W, W = V1.set bc (some [.ptr x 0]) := ⟨_, rfl⟩
  rw [← hW] at e3
  have wk : ∀ j, j < bc → W.blk j = V.blk j := fun j hj => by rw [hW, set_other _ _ (by omega), hV1, alloc_other _ _ (by omega)]
  have hcx2 : cell (.ptr x 0) = true := rfl
  obtain ⟨P, hP⟩ : ∃ P, P = pushD W f_vblock_Read_1 [.ptr (S.next + 2) 0, .ptr (S.next + 1) 0, .ptr S.next 0, .ptr bc 0] := ⟨_, rfl⟩
  have pk : ∀ j, P.blk j = W.blk j := fun j => by rw [hP]; rfl
  have hRS : RS S p x bc s a P a .nils := by
    refine ⟨?_, ?_, ?_, ?_, ⟨?_, ?_, rV.sz, rV.le⟩, fun j hj => ?_, ?_, ?_, ⟨by omega, by omega⟩⟩
    · rw [pk, wk _ (by omega)]; exact (fV.get (by omega) (by simp)).trans u0
    · rw [pk, wk _ (by omega)]; exact (fV.get (by omega) (by simp)).trans u1
    · rw [pk, wk _ (by omega)]; exact (fV.get (by omega) (by simp)).trans u2
    · rw [pk, hW, set_blk]
    · rw [pk, wk _ (by omega)]; exact rV.blk
    · rw [hP, hW, hV1]; show x < V.next + 1; omega
    · rw [pk, wk _ (by omega)]; exact (fV.get (by omega) (by simp)).trans (ub j hj)
    · rw [hP, hW, hV1]; show bc < V.next + 1; omega
    · have wx : W.cx = (S.cx.1, []) := by rw [hW, hV1]; exact fV.2.1.trans ux
      rw [hP]; unfold pushD; rw [wx]
  obtain ⟨P1, e4, r4, f4⟩ := token_c hB k hRS.rx cls size
  have hRS1 := hRS.fr f4 r4
  have hg : ¬ (cls < 0 ∨ cls > 4 ∨ sizedI size = false) := by rw [hsz']; simp; omega
  obtain ⟨t, o, t1, t2, t3, t4, t5⟩ := tokR_in te0
  obtain ⟨n, hn⟩ := Int.eq_ofNat_of_zero_le (show 0 ≤ size by rcases (sizedI_iff size).1 hsz' with h | h | h <;> omega)
  have hn16 : n ≤ 16 ∧ 4 ≤ n := by rcases (sizedI_iff size).1 hsz' with h | h | h <;> omega
  have htn : t ≤ n := by omega
  have ht0 : t ≠ 0 := fun h => t0 (by rw [t1, h]; rfl)
  have hrr : readR s a cls size = match levR s (tokR s a cls size).2.2.2 t o with
    | .error e => .error e
    | .ok (L, a1) => if (zerR s a1 size (t : Int)).2.1 ≠ 0 then .error (zerR s a1 size (t : Int)).2.1 else
      match runsR s (t - 1) (zerR s a1 size (t : Int)).1.toNat (zerR s a1 size (t : Int)).2.2 with
      | .error e => .error e
      | .ok (M, a3) => .ok (fill L M ((zerR s a1 size (t : Int)).1.toNat + L.length - 1) (List.replicate size.toNat 0), a3) := by
    unfold readR
    rw [if_neg hg, if_neg (by simp [te0]), if_neg t0, t1, t2]
    rfl
  rw [hrr]
  rw [te0, t1, t2] at e4
  have tle := tokR_mono s a cls size
  obtain ⟨a1, ha1⟩ : ∃ a1, a1 = (tokR s a cls size).2.2.2 := ⟨_, rfl⟩
  rw [← ha1] at hRS1 tle ⊢
  obtain ⟨e5, hRS2⟩ := hRS1.sete
  obtain ⟨P2, hP2⟩ : ∃ P2, P2 = P1.set (S.next + 2) (some [.int .i64 0]) := ⟨_, rfl⟩
  rw [← hP2] at e5 hRS2
  have z0 : ((0 : Int) != 0) = false := rfl
  have c3 : (((t : Nat) : Int) == 0) = false := by simp; exact ht0
  have ffe : ∀ (e : Int) (T : Heap), fz 40 (.tup [.nils, .int .i64 e]) T = some (.tup [.nils, .int .i64 e], T) := fun e T => rfl
  have e6 := levelsF_c hB (k + 4) hRS2.rx (total := t) (ones := o) (by omega) (by omega) (by omega)
  cases hL : levR s a1 t o with
  | error e =>
    rw [hL] at e6
    obtain ⟨P3, b, e6, r6, f6⟩ := e6
    have hRS3 := hRS2.fr f6 r6
    have hne := levR_err hL
    obtain ⟨T0, T1, T2, T3, S', q0, q1, q2, q3, q4, q5, q6, q7, q8, q9, q10, q11⟩ := read_fail (B := B) (k + 9) (fun _ => none) hr hRS3 e hne
    have ze : (e != 0) = true := by simp [hne]
    have hcx1 := q6.trans hRS3.cx
    have ffz := ffe e T3
    refine ⟨S', ?_, q10, q11⟩
    simp only [zB, decide_true, decide_false, Bool.false_eq_true, if_false, if_true, List.getElem?_cons_zero, List.getElem?_cons_succ, beq_self_eq_true, bne_self_eq_false, Int.reduceBNe, Int.reduceBEq, Int.reduceLT, Int.reduceGT, Int.reduceLE, Int.reduceGE, Nat.reduceAdd, Nat.reduceMul, Nat.reduceLeDiff, hca, on, alloc_next, n2, ← hU, u0, c1, c2, e1, e2, ← hbc, ← hV1, hcx2, List.all_cons, List.all_nil, e3, ← hP, hRS.bc', e4, e5, hRS2.be, hRS2.bc', z0, c3, e6, cell, q0, q1, ze, q2, q3, q4, hcx1, oneD_1, q5, q7, q8, ffz, q9]
  | ok x =>
    obtain ⟨L, a2⟩ := x
    rw [hL] at e6
    obtain ⟨P3, e6, r6, f6⟩ := e6
    obtain ⟨hLl, hLv, ha2⟩ := levR_good (by omega) hRS2.rx.le hL
    have hL0 : L ≠ [] := fun h => by rw [h] at hLl; simp at hLl; omega
    have hRS3 := hRS2.fr f6 r6
    obtain ⟨e7, hRS4⟩ := hRS3.sete
    obtain ⟨P4, hP4⟩ : ∃ P4, P4 = P3.set (S.next + 2) (some [.int .i64 0]) := ⟨_, rfl⟩
    rw [← hP4] at e7 hRS4
    obtain ⟨P5, e8, r8, f8⟩ := zeros_c hB (k + 6) hRS4.rx size (t : Int)
    have hRS5 := hRS4.fr f8 r8
    by_cases hze : (zerR s a2 size (t : Int)).2.1 ≠ 0
    · simp only [if_pos hze]
      obtain ⟨T0, T1, T2, T3, S', q0, q1, q2, q3, q4, q5, q6, q7, q8, q9, q10, q11⟩ := read_fail (B := B) (k + 9) (fun _ => none) hr hRS5 _ hze
      have ze : ((zerR s a2 size (t : Int)).2.1 != 0) = true := by simp [hze]
      have hcx1 := q6.trans hRS5.cx
      have ffz := ffe (zerR s a2 size (t : Int)).2.1 T3
      refine ⟨S', ?_, q10, q11⟩
      simp only [zB, decide_true, decide_false, Bool.false_eq_true, if_false, if_true, List.getElem?_cons_zero, List.getElem?_cons_succ, beq_self_eq_true, bne_self_eq_false, Int.reduceBNe, Int.reduceBEq, Int.reduceLT, Int.reduceGT, Int.reduceLE, Int.reduceGE, Nat.reduceAdd, Nat.reduceMul, Nat.reduceLeDiff, hca, on, alloc_next, n2, ← hU, u0, c1, c2, e1, e2, ← hbc, ← hV1, hcx2, List.all_cons, List.all_nil, e3, ← hP, hRS.bc', e4, e5, hRS2.be, hRS2.bc', z0, c3, e6, isl_cell, e7, hRS4.be, hRS4.bc', e8, q0, q1, ze, q2, q3, q4, hcx1, oneD_1, q5, q7, q8, ffz, q9]
    · simp only [if_neg hze]
      have hze0 : (zerR s a2 size (t : Int)).2.1 = 0 := by simpa using hze
      obtain ⟨Z, hZ, hZl⟩ := zerR_in hze0
      have hzp := zerR_pos (size := size) (total := (t : Int)) ha2
      rw [hZ, hze0] at e8
      rw [hZ]
      obtain ⟨a3, ha3⟩ : ∃ a3, a3 = (zerR s a2 size (t : Int)).2.2 := ⟨_, rfl⟩
      rw [← ha3] at hRS5 hzp ⊢
      simp only [Int.toNat_natCast]
      obtain ⟨e9, hRS6⟩ := hRS5.sete
      obtain ⟨P6, hP6⟩ : ∃ P6, P6 = P5.set (S.next + 2) (some [.int .i64 0]) := ⟨_, rfl⟩
      rw [← hP6] at e9 hRS6
      have w1 : IntKind.wrap .i64 ((t : Int) - 1) = ((t - 1 : Nat) : Int) := by rw [wr _ (by omega)]; omega
      simp only [zB, decide_true, decide_false, Bool.false_eq_true, if_false, if_true, List.getElem?_cons_zero, List.getElem?_cons_succ, beq_self_eq_true, bne_self_eq_false, Int.reduceBNe, Int.reduceBEq, Int.reduceLT, Int.reduceGT, Int.reduceLE, Int.reduceGE, Nat.reduceAdd, Nat.reduceMul, Nat.reduceLeDiff, hca, on, alloc_next, n2, ← hU, u0, c1, c2, e1, e2, ← hbc, ← hV1, hcx2, List.all_cons, List.all_nil, e3, ← hP, hRS.bc', e4, e5, hRS2.be, hRS2.bc', z0, c3, e6, isl_cell, e7, hRS4.be, hRS4.bc', e8, e9, hRS6.be, w1]
      obtain ⟨RR, hRR⟩ : ∃ RR, RR = runsR s (t - 1) Z a3 := ⟨_, rfl⟩
      rw [← hRR]
      change BOut S p s a (finR L Z size.toNat RR) _
      refine loop_meas (BOut S p s a (finR L Z size.toNat RR)) (fun m st => ∃ (i left : Nat) (T : Heap) (q pos : Nat) (X : List Nat), i + m = t - 1 ∧ X.length = i ∧ st = ([.int .i64 size, .ptr (S.next + 1) 0, .ptr (S.next + 2) 0, .ptr bc 0, .agg [isl L, .int .i64 (Z : Int), hv (natI X) q], .int .i64 (left : Int), .int .i64 ((t - 1 : Nat) : Int), .int .i64 (i : Int)], T) ∧
          RS S p x bc s a T pos .nils ∧ HR T (natI X) q ∧ (natI X ≠ [] → bc < q) ∧ X.sum + left = Z ∧ a ≤ pos ∧ RR = preM X (runsR s m left pos)) (t - 1)
        ⟨0, Z, P6, 0, a3, [], by omega, rfl, rfl, hRS6, fun h => absurd rfl h, fun h => absurd rfl h, by simp, by have := levR_mono hL; omega, by rw [preM_nil]; exact hRR⟩ ?_
      rintro m st ⟨i, left, T, q, pos, X, him, hXl, rfl, hRT, hHT, hqT, hsm, hap, hRX⟩
      have hnx := hRT.nx
      have hox := hRT.ox
      have hZ16 : Z ≤ 16 := by omega
      have htl : (natI X).length ≤ 16 := by rw [natI_len]; omega
      cases m with
      | succ m =>
        have c4 : (i : Int) < ((t - 1 : Nat) : Int) := by omega
        have w2 : IntKind.wrap .i64 ((i : Int) + 1) = ((i + 1 : Nat) : Int) := by rw [wr _ (by omega)]; omega
        by_cases hl0 : left = 0
        · subst hl0
          have c5 : ¬ (((0 : Nat) : Int) > 0) := by omega
          obtain ⟨T1, e10, hH1, n1, x1, o1⟩ := appI (0 : Int) hHT (by omega)
          have hnt : natI X ++ [(0 : Int)] = natI (X ++ [0]) := by rw [natI_app]; rfl
          rw [hnt] at e10 hH1
          have hk : ∀ j, j ≤ bc → T1.blk j = T.blk j := fun j hj => o1 j (by omega) (by
            by_cases hn : natI X = []
            · exact .inr hn
            · exact .inl (by have := hqT hn; omega))
          have w3 : IntKind.wrap .i64 (((0 : Nat) : Int) - 0) = ((0 : Nat) : Int) := by rw [wr _ (by omega)]; rfl
          exact .inr ⟨m, ([.int .i64 size, .ptr (S.next + 1) 0, .ptr (S.next + 2) 0, .ptr bc 0, .agg [isl L, .int .i64 (Z : Int), hv (natI (X ++ [0])) T.next], .int .i64 ((0 : Nat) : Int), .int .i64 ((t - 1 : Nat) : Int), .int .i64 ((i + 1 : Nat) : Int)], T1), by omega, by simp only [zB, decide_true, decide_false, Bool.false_eq_true, if_false, if_true, List.getElem?_cons_zero, List.getElem?_cons_succ, beq_self_eq_true, bne_self_eq_false, Int.reduceBNe, Int.reduceBEq, Int.reduceLT, Int.reduceGT, Int.reduceLE, Int.reduceGE, Nat.reduceAdd, Nat.reduceMul, Nat.reduceLeDiff, c4, c5, e10, hv_cell, List.all_cons, List.all_nil, List.length_cons, List.length_nil, set3_2, w3, w2], i + 1, 0, T1, T.next, pos, X ++ [0], by omega, by simp [hXl], rfl,
            hRT.gen x1 (by omega) (fun j hj _ => hk j hj) ⟨(hk x (by omega)).trans hRT.rx.blk, by have := hRT.rx.lt; omega, hRT.rx.sz, hRT.rx.le⟩, hH1, fun _ => hnx, by simp; omega, hap, by rw [hRX, runsR_0, preM_app]⟩
        · have c5 : (left : Int) > 0 := by omega
          obtain ⟨T0, e10, r10, f10⟩ := run_c hB (k + 5) hRT.rx (left : Int)
          have hRT0 := hRT.fr f10 r10
          by_cases hre : (runR s pos (left : Int)).2.1 ≠ 0
          · rw [runsR_e hl0 hre] at hRX
            obtain ⟨U0, U1, U2, U3, S', q0, q1, q2, q3, q4, q5, q6, q7, q8, q9, q10, q11⟩ := read_fail (B := B) (k + 9) (fun _ => none) hr hRT0 _ hre
            have ze : ((runR s pos (left : Int)).2.1 != 0) = true := by simp [hre]
            have hcx1 := q6.trans hRT0.cx
            have ffz := ffe (runR s pos (left : Int)).2.1 U3
            rw [hRX]
            simp only [preM, finR]
            refine .inl ⟨(1, [.ptr (S.next + 1) 0, .ptr (S.next + 2) 0], U2), by simp only [zB, decide_true, decide_false, Bool.false_eq_true, if_false, if_true, List.getElem?_cons_zero, List.getElem?_cons_succ, beq_self_eq_true, bne_self_eq_false, Int.reduceBNe, Int.reduceBEq, Int.reduceLT, Int.reduceGT, Int.reduceLE, Int.reduceGE, Nat.reduceAdd, Nat.reduceMul, Nat.reduceLeDiff, c4, c5, hRT.bc', e10, q0, q1, ze, q2, q3, q4], ⟨S', ?_, q10, q11⟩⟩
            simp only [zB, decide_true, decide_false, Bool.false_eq_true, if_false, if_true, List.getElem?_cons_zero, List.getElem?_cons_succ, beq_self_eq_true, bne_self_eq_false, Int.reduceBNe, Int.reduceBEq, Int.reduceLT, Int.reduceGT, Int.reduceLE, Int.reduceGE, Nat.reduceAdd, Nat.reduceMul, Nat.reduceLeDiff, sel_1, hcx1, oneD_1, q5, q7, q8, ffz, q9]
          · have hre0 : (runR s pos (left : Int)).2.1 = 0 := by simpa using hre
            obtain ⟨r, hr1, hr2⟩ := runR_in hRT.rx.le hre0
            rw [runsR_s hl0 hre0, hr1, Int.toNat_natCast] at hRX
            rw [hr1, hre0] at e10
            obtain ⟨pos2, hpos2⟩ : ∃ pos2, pos2 = (runR s pos (left : Int)).2.2 := ⟨_, rfl⟩
            rw [← hpos2] at hRT0 hRX
            have hpm : pos ≤ pos2 := by
              rw [hpos2]; unfold runR
              split
              · exact Nat.le_refl _
              · split
                · exact Nat.le_refl _
                · simp only; omega
            obtain ⟨e11, hRT1⟩ := hRT0.sete
            obtain ⟨T1, hT1⟩ : ∃ T1, T1 = T0.set (S.next + 2) (some [.int .i64 0]) := ⟨_, rfl⟩
            rw [← hT1] at e11 hRT1
            have t1n : T1.next = T0.next := by rw [hT1]; rfl
            have t0n := f10.1
            have hH0 : HR T1 (natI X) q := fun hn => by
              have hq := hqT hn
              refine ⟨?_, by have := (hHT hn).2; omega⟩
              rw [hT1, set_other _ _ (by omega)]
              exact (f10.get (hHT hn).2 (by simp; omega)).trans (hHT hn).1
            obtain ⟨T2, e12, hH2, n2', x2, o2⟩ := appI (r : Int) hH0 (by omega)
            have hnt : natI X ++ [(r : Int)] = natI (X ++ [r]) := by rw [natI_app]; rfl
            rw [hnt] at e12 hH2
            have hnx1 := hRT1.nx
            have hk : ∀ j, j ≤ bc → T2.blk j = T1.blk j := fun j hj => o2 j (by omega) (by
              by_cases hn : natI X = []
              · exact .inr hn
              · exact .inl (by have := hqT hn; omega))
            have w3 : IntKind.wrap .i64 ((left : Int) - (r : Int)) = ((left - r : Nat) : Int) := by rw [wr _ (by omega)]; omega
            exact .inr ⟨m, ([.int .i64 size, .ptr (S.next + 1) 0, .ptr (S.next + 2) 0, .ptr bc 0, .agg [isl L, .int .i64 (Z : Int), hv (natI (X ++ [r])) T1.next], .int .i64 ((left - r : Nat) : Int), .int .i64 ((t - 1 : Nat) : Int), .int .i64 ((i + 1 : Nat) : Int)], T2), by omega, by simp only [zB, decide_true, decide_false, Bool.false_eq_true, if_false, if_true, List.getElem?_cons_zero, List.getElem?_cons_succ, beq_self_eq_true, bne_self_eq_false, Int.reduceBNe, Int.reduceBEq, Int.reduceLT, Int.reduceGT, Int.reduceLE, Int.reduceGE, Nat.reduceAdd, Nat.reduceMul, Nat.reduceLeDiff, c4, c5, hRT.bc', e10, e11, hRT1.be, z0, e12, hv_cell, List.all_cons, List.all_nil, List.length_cons, List.length_nil, set3_2, w3, w2], i + 1, left - r, T2, T1.next, pos2, X ++ [r], by omega, by simp [hXl], rfl,
              hRT1.gen x2 (by omega) (fun j hj _ => hk j hj) ⟨(hk x (by omega)).trans hRT1.rx.blk, by have := hRT1.rx.lt; omega, hRT1.rx.sz, hRT1.rx.le⟩, hH2, fun _ => hnx1, by simp; omega, by omega, by rw [hRX, preM_app]⟩
      | zero =>
        have hi : i = t - 1 := by omega
        subst hi
        have c4 : ¬ (((t - 1 : Nat) : Int) < ((t - 1 : Nat) : Int)) := by omega
        rw [runsR] at hRX
        simp only [preM, List.append_nil] at hRX
        rw [hRX]
        simp only [finR]
        refine .inl ⟨(0, [.int .i64 size, .ptr (S.next + 1) 0, .ptr (S.next + 2) 0, .agg [isl L, .int .i64 (Z : Int), hv (natI X) q]], T), by simp only [zB, decide_true, decide_false, Bool.false_eq_true, if_false, if_true, List.getElem?_cons_zero, List.getElem?_cons_succ, beq_self_eq_true, bne_self_eq_false, Int.reduceBNe, Int.reduceBEq, Int.reduceLT, Int.reduceGT, Int.reduceLE, Int.reduceGE, Nat.reduceAdd, Nat.reduceMul, Nat.reduceLeDiff, c4], ?_⟩
        rw [hn, Int.toNat_natCast]
        obtain ⟨l, l0, l1, l2, l3, l4, l5⟩ := read_blk (n := n) (by rw [← hn]; exact hsz') hL0 hLv (M := X) (Z := Z) (by omega) (by omega) (by omega)
        rw [← l0]
        have hil : IL T (hv (natI X) q) (natI (rst l).2.1) q := by rw [l4]; exact hv_il hHT
        obtain ⟨T1, e10, f10⟩ := block_c hB (k + 7) l1 hil
        rw [l2, l3, l5] at e10
        have hRT1 := hRT.fr0 f10
        obtain ⟨e11, hRT2⟩ := hRT1.setb (isl l)
        obtain ⟨T2, hT2⟩ : ∃ T2, T2 = T1.set (S.next + 1) (some [isl l]) := ⟨_, rfl⟩
        rw [← hT2] at e11 hRT2
        obtain ⟨e12, hRT3⟩ := hRT2.sete
        obtain ⟨T3, hT3⟩ : ∃ T3, T3 = T2.set (S.next + 2) (some [.int .i64 0]) := ⟨_, rfl⟩
        rw [← hT3] at e12 hRT3
        obtain ⟨d, hd⟩ := Nat.le.dest hap
        rw [← hd] at hRT3
        obtain ⟨T', S', q1, q2, q3, q4, q5, q6⟩ := read_end hB (k + 6) (fun _ => none) hr hRT3
        rw [hd] at q5
        have hx3 := hRT3.cx
        have ffz : ∀ T : Heap, fz 40 (.tup [isl l, .int .i64 0]) T = some (.tup [isl l, .int .i64 0], T) := fun T => fz_tup (fzM_c (fz_isl 38 l T) (fzM_c (fz_int 38 _ 0 _) rfl))
        refine ⟨S', ?_, q5, q6⟩
        simp only [zB, decide_true, decide_false, Bool.false_eq_true, if_false, if_true, List.getElem?_cons_zero, List.getElem?_cons_succ, beq_self_eq_true, bne_self_eq_false, Int.reduceBNe, Int.reduceBEq, Int.reduceLT, Int.reduceGT, Int.reduceLE, Int.reduceGE, Nat.reduceAdd, Nat.reduceMul, Nat.reduceLeDiff, sel_0, List.length_cons, List.length_nil, take3, e10, isl_cell, List.all_cons, List.all_nil, e11, e12, hx3, oneD_1, q1, q2, q3, ffz, q4]
theorem readNot_c (hr : Rdr S p s a) {cls size : Int} (hg : cls < 0 ∨ cls > 4 ∨ sizedI size = false) :
    BOut S p s a (readR s a cls size) (Cn B (k + 10) f_vblock_Read 0 [.ptr p 0, .int .i64 cls, .int .i64 size] S) := by
  have hrr : readR s a cls size = .error 3 := by unfold readR; rw [if_pos hg]
  rw [hrr]
  rw [c_vblock_Read _ _ _ _ _ _ (hB.no _ _ _ _ (kn_no (by decide))), T_vblock_Read]
  have hplt := hr.lt
  have hca : cell (.ptr p 0) = true := rfl
  have n2 : ∀ n : Nat, n + 1 + 1 = n + 2 := fun _ => rfl
  have on : (openD S).next = S.next := rfl
  obtain ⟨U, hU⟩ : ∃ U, U = (((openD S).alloc [.ptr p 0]).alloc [.nils]).alloc [.int .i64 0] := ⟨_, rfl⟩
  have un : U.next = S.next + 3 := by rw [hU]; rfl
  have ub : ∀ j, j < S.next → U.blk j = S.blk j := fun j hj => by
    rw [hU, alloc_other _ _ (by show j ≠ S.next + 1 + 1; omega), alloc_other _ _ (by show j ≠ S.next + 1; omega), alloc_other _ _ (by show j ≠ S.next; omega)]; rfl
  have u0 : U.blk S.next = some [.ptr p 0] := by
    rw [hU, alloc_other _ _ (by show S.next ≠ S.next + 1 + 1; omega), alloc_other _ _ (by show S.next ≠ S.next + 1; omega)]; exact alloc_blk (openD S) _
  have u1 : U.blk (S.next + 1) = some [.nils] := by
    rw [hU, alloc_other _ _ (by show S.next + 1 ≠ S.next + 1 + 1; omega)]; exact alloc_blk ((openD S).alloc _) _
  have u2 : U.blk (S.next + 2) = some [.int .i64 0] := by rw [hU]; exact alloc_blk (((openD S).alloc _).alloc _) _
  have ux : U.cx = (S.cx.1, []) := by rw [hU]; rfl
  have e1 := vsized_c hB (k + 8) (S := U) size
  have q0 := put1_0' (x := .nils) u1
  obtain ⟨V, hV⟩ : ∃ V, V = U.set (S.next + 1) (some [.nils]) := ⟨_, rfl⟩
  rw [← hV] at q0
  have v2 : V.blk (S.next + 2) = some [.int .i64 0] := by rw [hV, set_other _ _ (by omega)]; exact u2
  have q1 := put1_0' (x := .int .i64 3) v2
  obtain ⟨W, hW⟩ : ∃ W, W = V.set (S.next + 2) (some [.int .i64 3]) := ⟨_, rfl⟩
  rw [← hW] at q1
  have w1 : W.blk (S.next + 1) = some [.nils] := by rw [hW, set_other _ _ (by omega), hV, set_blk]
  have w2 : W.blk (S.next + 2) = some [.int .i64 3] := by rw [hW, set_blk]
  have wx : W.cx = (S.cx.1, []) := by rw [hW, hV]; exact ux
  have wb : ∀ j, j < S.next → W.blk j = S.blk j := fun j hj => by rw [hW, set_other _ _ (by omega), hV, set_other _ _ (by omega)]; exact ub j hj
  have wn : W.next = S.next + 3 := by rw [hW, hV]; exact un
  have ffz : fz 40 (.tup [.nils, .int .i64 3]) W = some (.tup [.nils, .int .i64 3], W) := rfl
  refine ⟨tidy S W, ?_, ⟨(wb p hplt).trans hr.blk, by show p < W.next; omega, hr.sz, hr.le⟩, ⟨by show S.next ≤ W.next; omega, rfl, fun j hj _ => wb j hj⟩⟩
  by_cases c1 : cls < 0
  · simp only [zB, decide_true, decide_false, Bool.false_eq_true, if_false, if_true, List.getElem?_cons_zero, List.getElem?_cons_succ, beq_self_eq_true, bne_self_eq_false, Int.reduceBNe, Int.reduceBEq, Int.reduceLT, Int.reduceGT, Int.reduceLE, Int.reduceGE, Nat.reduceAdd, Nat.reduceMul, Nat.reduceLeDiff, hca, on, alloc_next, n2, ← hU, u0, c1, e1, q0, q1, wx, oneD_0, w1, w2, ffz]
  · by_cases c2 : cls > 4
    · simp only [zB, decide_true, decide_false, Bool.false_eq_true, if_false, if_true, List.getElem?_cons_zero, List.getElem?_cons_succ, beq_self_eq_true, bne_self_eq_false, Int.reduceBNe, Int.reduceBEq, Int.reduceLT, Int.reduceGT, Int.reduceLE, Int.reduceGE, Nat.reduceAdd, Nat.reduceMul, Nat.reduceLeDiff, hca, on, alloc_next, n2, ← hU, u0, c1, c2, e1, q0, q1, wx, oneD_0, w1, w2, ffz]
    · have c3 : sizedI size = false := by
        rcases hg with h | h | h
        · exact absurd h c1
        · exact absurd h c2
        · exact h
      simp only [zB, decide_true, decide_false, Bool.false_eq_true, if_false, if_true, List.getElem?_cons_zero, List.getElem?_cons_succ, beq_self_eq_true, bne_self_eq_false, Int.reduceBNe, Int.reduceBEq, Int.reduceLT, Int.reduceGT, Int.reduceLE, Int.reduceGE, Nat.reduceAdd, Nat.reduceMul, Nat.reduceLeDiff, hca, on, alloc_next, n2, ← hU, u0, c1, c2, e1, c3, q0, q1, wx, oneD_0, w1, w2, ffz]
theorem vreadF_c (hr : Rdr S p s a) (cls size : Int) :
    BOut S p s a (readR s a cls size) (Cn B (k + 10) f_vblock_Read 0 [.ptr p 0, .int .i64 cls, .int .i64 size] S) := by
  by_cases hg : cls < 0 ∨ cls > 4 ∨ sizedI size = false
  · exact readNot_c hB k hr hg
  · have hc : ¬ (cls < 0 ∨ cls > 4) := fun h => hg (by rcases h with h | h <;> simp [h])
    have hs : sizedI size = true := by
      cases h : sizedI size with
      | true => rfl
      | false => exact absurd (.inr (.inr h)) hg
    by_cases te : (tokR s a cls size).2.2.1 ≠ 0
    · exact readTok_c hB k hr hc hs (.inl te)
    · have te0 : (tokR s a cls size).2.2.1 = 0 := by simpa using te
      by_cases t0 : (tokR s a cls size).1 = 0
      · exact readTok_c hB k hr hc hs (.inr t0)
      · exact readBig_c hB k hr hc hs te0 t0
end
section
variable {B : CallF} (hB : Silent B) (k : Nat) {S : Heap} {c K left sk : Nat}
include hB
theorem lreadF1_c {p : Nat} {s : ByteArray} {a : Nat} (h : Cod1 S c K (left + 1) sk) (hr : Rdr S p s a) (hcp : c ≠ p) (hK : K ≤ 6) (hl : left ≤ 1000) (hs : sk ≤ 2) :
    ∃ S', Cn B (k + 4) f_spindleref19_Coder_Read 0 [.ptr c 0, .ptr p 0] S = some (encL (lvR s a K sk), S') ∧ Rdr S' p s (posL a (lvR s a K sk)) ∧ (match lvR s a K sk with | .ok (v, _) => Cod1 S' c (aftN K v.natAbs) left 0 | .error _ => Cod1 S' c K (left + 1) sk) ∧ Fr S S' [p, c] := by
  rw [c_spindleref19_Coder_Read _ _ _ _ _ (hB.no _ _ _ _ (kn_no (by decide))), T_spindleref19_Coder_Read]
  have hsz := hr.sz
  have hclt := h.lt
  have hplt := hr.lt
  have cn0 : (((left + 1 : Nat) : Int) == 0) = false := by simp; omega
  simp only [zB, decide_true, decide_false, Bool.false_eq_true, if_false, if_true, List.getElem?_cons_zero, List.getElem?_cons_succ, beq_self_eq_true, bne_self_eq_false, Int.reduceBNe, Int.reduceBEq, Int.reduceLT, Int.reduceGT, Int.reduceLE, Int.reduceGE, Nat.reduceAdd, Nat.reduceMul, Nat.reduceLeDiff, h.blk, cn0, hr.blk]
  have fail : ∀ (T : Heap) (b : Nat) (e : Int), Rdr T p s b → Fr S T [p] → lvR s a K sk = .error e → ∃ S', some (AV.tup [.int .i64 0, .int .i64 e], T.set p (some [.str s, .int .i64 (a : Int)])) = some (encL (lvR s a K sk), S') ∧ Rdr S' p s (posL a (lvR s a K sk)) ∧ (match lvR s a K sk with | .ok (v, _) => Cod1 S' c (aftN K v.natAbs) left 0 | .error _ => Cod1 S' c K (left + 1) sk) ∧ Fr S S' [p, c] := by
    intro T b e hT hF he
    rw [he]
    have hF2 : Fr S (T.set p (some [.str s, .int .i64 (a : Int)])) [p] := hF.set (.inl (by simp)) _
    exact ⟨_, rfl, hT.set hr.le, h.fr hF2 (by simp; exact hcp), hF2.weak (fun j hj => .inl (by simp at hj ⊢; simp [hj]))⟩
  refine loop_meas (fun o => ∃ S', o = some (encL (lvR s a K sk), S') ∧ Rdr S' p s (posL a (lvR s a K sk)) ∧ (match lvR s a K sk with | .ok (v, _) => Cod1 S' c (aftN K v.natAbs) left 0 | .error _ => Cod1 S' c K (left + 1) sk) ∧ Fr S S' [p, c])
    (fun m st => ∃ (i : Nat) (T : Heap), i + m = 15 ∧ st = ([.ptr c 0, .ptr p 0, .int .i64 (a : Int), .int .i64 (i : Int)], T) ∧ Rdr T p s (a + i) ∧ Fr S T [p] ∧ lead s 16 a = (lead s (m + 1) (a + i)).map (· + i)) 15
    ⟨0, S, by omega, rfl, hr, Fr.refl _ _, by cases lead s 16 a <;> rfl⟩ ?_
  rintro m st ⟨i, T, him, rfl, hR, hF, hld⟩
  rw [lead_succ s m (a + i)] at hld
  have z00 : ((0 : Int) != 0) = false := rfl
  have z5 : ((5 : Int) != 0) = true := rfl
  by_cases hsh : 8 * s.size ≤ a + i
  · rw [if_pos hsh] at hld
    have e4 := bit1_short hB k hR (by have := hR.le; omega)
    have hlv : lvR s a K sk = .error 5 := by unfold lvR; rw [hld]; rfl
    have e5 := hR.put (a : Int)
    refine .inl ⟨(1, [.int .i64 0, .int .i64 5], T.set p (some [.str s, .int .i64 (a : Int)])), by simp only [zB, decide_true, decide_false, Bool.false_eq_true, if_false, if_true, List.getElem?_cons_zero, List.getElem?_cons_succ, beq_self_eq_true, bne_self_eq_false, Int.reduceBNe, Int.reduceBEq, Int.reduceLT, Int.reduceGT, Int.reduceLE, Int.reduceGE, Nat.reduceAdd, Nat.reduceMul, Nat.reduceLeDiff, e4, z5, e5], ?_⟩
    simp only [zB, decide_true, decide_false, Bool.false_eq_true, if_false, if_true, List.getElem?_cons_zero, List.getElem?_cons_succ, beq_self_eq_true, bne_self_eq_false, Int.reduceBNe, Int.reduceBEq, Int.reduceLT, Int.reduceGT, Int.reduceLE, Int.reduceGE, Nat.reduceAdd, Nat.reduceMul, Nat.reduceLeDiff, sel_1']
    exact fail T _ 5 hR hF hlv
  rw [if_neg hsh] at hld
  obtain ⟨T1, e4, hR1, f1⟩ := bit1_ok hB k hR (by omega)
  have hF1 : Fr S T1 [p] := hF.trans f1 (fun j hj => .inl hj)
  by_cases hbit : sb s (a + i) = 1
  · rw [if_pos hbit] at hld
    have hld' : lead s 16 a = .ok i := by rw [hld]; simp [Except.map]
    rw [hbit] at e4
    have z1 : (((1 : Nat) : Int) == 1) = true := rfl
    refine .inl ⟨(0, [.ptr c 0, .ptr p 0, .int .i64 (a : Int), .int .i64 (i : Int)], T1), by simp only [zB, decide_true, decide_false, Bool.false_eq_true, if_false, if_true, List.getElem?_cons_zero, List.getElem?_cons_succ, beq_self_eq_true, bne_self_eq_false, Int.reduceBNe, Int.reduceBEq, Int.reduceLT, Int.reduceGT, Int.reduceLE, Int.reduceGE, Nat.reduceAdd, Nat.reduceMul, Nat.reduceLeDiff, e4, z00, z1], ?_⟩
    have hC1 := h.fr hF1 (by simp; exact hcp)
    have hi15 : i ≤ 15 := by omega
    have hsuf := suf_le (P := i) hK
    have hbase := base_le hK hi15
    have hes := esc_le hK
    have esh := shlN i K (by omega) (by
      have h1 : i * 2 ^ K ≤ 15 * 64 := Nat.mul_le_mul hi15 hes.2.2.1
      omega)
    obtain ⟨b0, hb0⟩ : ∃ b0, b0 = i * 2 ^ K := ⟨_, rfl⟩
    rw [← hb0] at esh
    obtain ⟨w, hw⟩ : ∃ w, w = sufN K i := ⟨_, rfl⟩
    obtain ⟨z1', hz1⟩ : ∃ z1', z1' = if i = 14 ∧ K = 0 then 4 else K := ⟨_, rfl⟩
    have h51 : (if ((i : Int) == 14) = true then some ([AV.ptr c 0, .ptr p 0, .int .i64 (a : Int), .int .i64 (i : Int), .int .i64 (K : Int), .int .i64 (b0 : Int), .bool ((K : Int) == 0)], T1) else some ([AV.ptr c 0, .ptr p 0, .int .i64 (a : Int), .int .i64 (i : Int), .int .i64 (K : Int), .int .i64 (b0 : Int), .bool false], T1)) = some ([AV.ptr c 0, .ptr p 0, .int .i64 (a : Int), .int .i64 (i : Int), .int .i64 (K : Int), .int .i64 (b0 : Int), .bool (decide (i = 14 ∧ K = 0))], T1) := by
      by_cases g : i = 14
      · rw [if_pos (by simp; omega)]
        by_cases g2 : K = 0
        · simp [g, g2]
        · simp [g, g2]
      · rw [if_neg (by simp; omega)]; simp [g]
    have h62 : (if decide (i = 14 ∧ K = 0) = true then some ([AV.ptr c 0, .ptr p 0, .int .i64 (a : Int), .int .i64 (i : Int), .int .i64 4, .int .i64 (b0 : Int)], T1) else some ([AV.ptr c 0, .ptr p 0, .int .i64 (a : Int), .int .i64 (i : Int), .int .i64 (K : Int), .int .i64 (b0 : Int)], T1)) = some ([AV.ptr c 0, .ptr p 0, .int .i64 (a : Int), .int .i64 (i : Int), .int .i64 (z1' : Int), .int .i64 (b0 : Int)], T1) := by
      by_cases g : i = 14 ∧ K = 0
      · rw [if_pos (by simpa using g), hz1, if_pos g]; rfl
      · rw [if_neg (by simpa using g), hz1, if_neg g]
    obtain ⟨b12, hb12⟩ : ∃ b12, b12 = if K = 0 then 30 else b0 := ⟨_, rfl⟩
    have h73 : (if ((K : Int) == 0) = true then some ([AV.ptr c 0, .ptr p 0, .int .i64 (a : Int), .int .i64 12, .int .i64 30], T1) else some ([AV.ptr c 0, .ptr p 0, .int .i64 (a : Int), .int .i64 12, .int .i64 (b0 : Int)], T1)) = some ([AV.ptr c 0, .ptr p 0, .int .i64 (a : Int), .int .i64 12, .int .i64 (b12 : Int)], T1) := by
      by_cases g2 : K = 0
      · rw [if_pos (by simp; omega), hb12, if_pos g2]; rfl
      · rw [if_neg (by simp; omega), hb12, if_neg g2]
    have hA : i ≠ 15 → z1' = w ∧ b0 = baseN K i := by
      intro g
      rw [hz1, hw, hb0]
      unfold sufN baseN
      rw [if_neg g, if_neg g]
      by_cases g2 : K > 0
      · rw [if_neg (fun hh => by omega), if_pos g2, if_pos g2]; exact ⟨rfl, rfl⟩
      · have g3 : K = 0 := by omega
        subst g3
        by_cases g4 : i = 14 <;> simp [g4]
    have hB15 : i = 15 → w = 12 ∧ b12 = baseN K i := by
      intro g
      rw [hw, hb12, hb0]
      unfold sufN baseN
      rw [if_pos g, if_pos g]
      refine ⟨rfl, ?_⟩
      by_cases g2 : K = 0
      · subst g2; rfl
      · rw [if_neg g2, g, hes.2.2.2 (by omega)]
    have h67 : (if ((i : Int) == 15) = true then some ([AV.ptr c 0, .ptr p 0, .int .i64 (a : Int), .int .i64 12, .int .i64 (b12 : Int)], T1) else some ([AV.ptr c 0, .ptr p 0, .int .i64 (a : Int), .int .i64 (z1' : Int), .int .i64 (b0 : Int)], T1)) = some ([AV.ptr c 0, .ptr p 0, .int .i64 (a : Int), .int .i64 (w : Int), .int .i64 (baseN K i : Int)], T1) := by
      by_cases g : i = 15
      · obtain ⟨q1, q2⟩ := hB15 g
        rw [if_pos (by simp; omega), q1, q2]; rfl
      · obtain ⟨q1, q2⟩ := hA g
        rw [if_neg (by simp; omega), q1, q2]
    have hwu : IntKind.wrap .u64 (K : Int) = (K : Int) := wu6 (by omega)
    rw [← hw] at hsuf
    by_cases hU : 8 * s.size < a + i + 1 + w
    · have hlv : lvR s a K sk = .error 5 := by unfold lvR; rw [hld']; simp only [← hw]; rw [if_pos hU]
      have e6 := u1_short hB (k + 1) hR1 w (by omega) (by omega)
      have e7 := hR1.put (a : Int)
      simp only [zB, decide_true, decide_false, Bool.false_eq_true, if_false, if_true, List.getElem?_cons_zero, List.getElem?_cons_succ, beq_self_eq_true, bne_self_eq_false, Int.reduceBNe, Int.reduceBEq, Int.reduceLT, Int.reduceGT, Int.reduceLE, Int.reduceGE, Nat.reduceAdd, Nat.reduceMul, Nat.reduceLeDiff, sel_0', hC1.blk, hwu, aShl, esh, h51, h62, h73, h67, e6, z5, e7]
      exact fail T1 _ 5 hR1 hF1 hlv
    · obtain ⟨N, hN⟩ : ∃ N, N = baseN K i + num s (a + i + 1) w := ⟨_, rfl⟩
      have hlv : lvR s a K sk = .ok (lvlI (N + sk), a + i + 1 + w) := by unfold lvR; rw [hld']; simp only [← hw]; rw [if_neg hU, hN]
      rw [hlv]
      obtain ⟨T2, e6, hR2, f2⟩ := u1_ok hB (k + 1) hR1 w (by omega) (by omega)
      have hFl := num_lt s (a + i + 1) w
      obtain ⟨F, hFn⟩ : ∃ F, F = num s (a + i + 1) w := ⟨_, rfl⟩
      rw [← hFn] at hFl hN
      have e6' : Cn B (k + 1 + 2) f_spindleref01_Reader_U 0 [.ptr p 0, .int .i64 (w : Int)] T1 = some (.tup [.int .u64 (F : Int), .int .i64 0], T2) := by rw [e6, hFn]
      have hFb : F < 4096 := by
        have : 2 ^ w ≤ 2 ^ 12 := Nat.pow_le_pow_right (by omega) hsuf
        omega
      have hC2 : Cod1 T2 c K (left + 1) sk := hC1.fr f2 (by simp; exact hcp)
      have w1 : IntKind.wrap .i64 (F : Int) = (F : Int) := wr _ (by omega)
      have w2 : IntKind.wrap .i64 ((baseN K i : Int) + (F : Int)) = (N : Int) := by rw [wr _ (by omega)]; omega
      have w3 : IntKind.wrap .i64 ((N : Int) + (sk : Int)) = ((N + sk : Nat) : Int) := by rw [wr _ (by omega)]; omega
      have hab := lvlI_abs (N + sk)
      obtain ⟨T4, e8, hC4, fT4, n4'⟩ := after1_c hB (k + 2) hC2 hK hl (lvlI (N + sk)) (by omega)
      have w5 : IntKind.wrap .i64 (Int.tdiv ((N + sk : Nat) : Int) 2) = (((N + sk) / 2 : Nat) : Int) := by rw [tdiv2, wr _ (by omega)]
      have w6 : IntKind.wrap .i64 ((((N + sk) / 2 : Nat) : Int) + 1) = (((N + sk) / 2 + 1 : Nat) : Int) := by rw [wr _ (by omega)]; omega
      have hfin : Rdr T4 p s (a + i + 1 + w) ∧ Cod1 T4 c (aftN K (lvlI (N + sk)).natAbs) left 0 ∧ Fr S T4 [p, c] := by
        refine ⟨?_, hC4, ((hF1.weak (l' := [p, c]) (fun j hj => .inl (by simp at hj ⊢; simp [hj]))).trans f2 (fun j hj => .inl (by simp at hj ⊢; simp [hj]))).trans fT4 (fun j hj => .inl (by simp at hj ⊢; simp [hj]))⟩
        have := hR2.fr fT4 (by simp; exact Ne.symm hcp)
        exact this
      refine ⟨T4, ?_, hfin⟩
      unfold lvlI at e8
      by_cases hodd : (N + sk) % 2 = 1
      · rw [if_pos hodd] at e8
        have c2 : (Int.tmod ((N + sk : Nat) : Int) 2 == 1) = true := by rw [tmod2, hodd]; rfl
        have w7 : IntKind.wrap .i64 (0 - (((N + sk) / 2 + 1 : Nat) : Int)) = -(((N + sk) / 2 + 1 : Nat) : Int) := by rw [wr _ (by omega)]; omega
        simp only [encL, lvlI, if_pos hodd]
        simp only [zB, decide_true, decide_false, Bool.false_eq_true, if_false, if_true, List.getElem?_cons_zero, List.getElem?_cons_succ, beq_self_eq_true, bne_self_eq_false, Int.reduceBNe, Int.reduceBEq, Int.reduceLT, Int.reduceGT, Int.reduceLE, Int.reduceGE, Nat.reduceAdd, Nat.reduceMul, Nat.reduceLeDiff, sel_0', hC1.blk, hwu, aShl, esh, h51, h62, h73, h67, e6', z00, w1, w2, hC2.blk, w3, c2, w5, w6, w7, e8]
      · rw [if_neg hodd] at e8
        have c2 : (Int.tmod ((N + sk : Nat) : Int) 2 == 1) = false := by rw [tmod2]; simp; omega
        simp only [encL, lvlI, if_neg hodd]
        simp only [zB, decide_true, decide_false, Bool.false_eq_true, if_false, if_true, List.getElem?_cons_zero, List.getElem?_cons_succ, beq_self_eq_true, bne_self_eq_false, Int.reduceBNe, Int.reduceBEq, Int.reduceLT, Int.reduceGT, Int.reduceLE, Int.reduceGE, Nat.reduceAdd, Nat.reduceMul, Nat.reduceLeDiff, sel_0', hC1.blk, hwu, aShl, esh, h51, h62, h73, h67, e6', z00, w1, w2, hC2.blk, w3, c2, w5, w6, e8]
  · rw [if_neg hbit] at hld
    have hb0 : sb s (a + i) = 0 := by have := sb_lt s (a + i); omega
    rw [hb0] at e4
    have w1 : IntKind.wrap .i64 ((i : Int) + 1) = ((i + 1 : Nat) : Int) := by rw [wr _ (by omega)]; omega
    have z1 : (((0 : Nat) : Int) == 1) = false := rfl
    cases m with
    | zero =>
      have hlv : lvR s a K sk = .error 4 := by unfold lvR; rw [hld]; rfl
      have c1 : (((i + 1 : Nat) : Int) == 16) = true := by simp; omega
      have e5 := hR1.put (a : Int)
      refine .inl ⟨(1, [.int .i64 0, .int .i64 4], T1.set p (some [.str s, .int .i64 (a : Int)])), by simp only [zB, decide_true, decide_false, Bool.false_eq_true, if_false, if_true, List.getElem?_cons_zero, List.getElem?_cons_succ, beq_self_eq_true, bne_self_eq_false, Int.reduceBNe, Int.reduceBEq, Int.reduceLT, Int.reduceGT, Int.reduceLE, Int.reduceGE, Nat.reduceAdd, Nat.reduceMul, Nat.reduceLeDiff, e4, z00, z1, w1, c1, e5], ?_⟩
      simp only [zB, decide_true, decide_false, Bool.false_eq_true, if_false, if_true, List.getElem?_cons_zero, List.getElem?_cons_succ, beq_self_eq_true, bne_self_eq_false, Int.reduceBNe, Int.reduceBEq, Int.reduceLT, Int.reduceGT, Int.reduceLE, Int.reduceGE, Nat.reduceAdd, Nat.reduceMul, Nat.reduceLeDiff, sel_1']
      exact fail T1 _ 4 hR1 hF1 hlv
    | succ m =>
      have c1 : (((i + 1 : Nat) : Int) == 16) = false := by simp; omega
      refine .inr ⟨m, ([.ptr c 0, .ptr p 0, .int .i64 (a : Int), .int .i64 ((i + 1 : Nat) : Int)], T1), by omega, by simp only [zB, decide_true, decide_false, Bool.false_eq_true, if_false, if_true, List.getElem?_cons_zero, List.getElem?_cons_succ, beq_self_eq_true, bne_self_eq_false, Int.reduceBNe, Int.reduceBEq, Int.reduceLT, Int.reduceGT, Int.reduceLE, Int.reduceGE, Nat.reduceAdd, Nat.reduceMul, Nat.reduceLeDiff, e4, z00, z1, w1, c1], i + 1, T1, by omega, rfl, hR1, hF1, ?_⟩
      rw [hld, map_map']; rfl
end
theorem app_fr {S T T' : Heap} {ids : List Nat} {X : List Int} {q : Nat} (f : Fr S T ids) (hq : X ≠ [] → S.next ≤ q) (hn : T'.next = T.next + 1) (hx : T'.cx = T.cx) (ho : ∀ j, j ≠ T.next → (j ≠ q ∨ X = []) → T'.blk j = T.blk j) : Fr S T' ids := by
  have := f.1
  refine ⟨by omega, hx.trans f.2.1, fun j hj hi => (ho j (by omega) ?_).trans (f.2.2 j hj hi)⟩
  by_cases h : X = []
  · exact .inr h
  · exact .inl (by have := hq h; omega)
/-- The ones, then the others: what is read in two parts. -/
theorem levR_two {s : ByteArray} {a t o : Nat} {L : List Int} {b : Nat} (h : onR s o a = .ok (L, b)) : levR s a t o = preL L (lvsR s (t - o) b (k0N t o) (s0N o)) := by
  unfold levR
  rw [h]
  simp only
  cases lvsR s (t - o) b (k0N t o) (s0N o) <;> rfl
section
variable {B : CallF} (hB : Silent B) (k : Nat) {S : Heap} {p : Nat} {s : ByteArray} {a : Nat}
include hB
/-- The runs, and the block. -/
theorem rtail_c (G : Nat → Option (List AV)) {n t : Nat} (hn : sizedI (n : Int) = true) (ht : 1 ≤ t) {L : List Int} {q : Nat} {T : Heap} {b : Nat} (hR : Rdr T p s b) (hF : Fr S T [p]) (hp : p < S.next) (hL : HR T L q) (hq : S.next ≤ q) (hLl : L.length = t) (hLv : ∀ v ∈ L, v ≠ 0 ∧ v.natAbs ≤ 3000) {rr : Except Int (List Int × Nat)}
    (hrr : rr = if (zerR s b (n : Int) (t : Int)).2.1 ≠ 0 then .error (zerR s b (n : Int) (t : Int)).2.1 else
      match runsR s (t - 1) (zerR s b (n : Int) (t : Int)).1.toNat (zerR s b (n : Int) (t : Int)).2.2 with
      | .error e => .error e
      | .ok (M, a3) => .ok (fill L M ((zerR s b (n : Int) (t : Int)).1.toNat + L.length - 1) (List.replicate n 0), a3)) :
    LOut S p s rr (bO (Cn B (k + 7) f_spindleref18_Zeros 0 [.ptr p 0, .int .i64 (n : Int), .int .i64 (t : Int)] T) fun t63 => asTup t63.1 fun l64 => asCons l64 fun a65 l66 => asInt .i64 a65 fun i67 => asCons l66 fun a68 l69 => asInt .i64 a68 fun i70 => if (i70 : Int) != 0 then bO (fz 40 (.tup [.nils, .int .i64 i70]) t63.2) fun q71 => some (ctlV.tr S q71.1 q71.2) else gB (decide (2 ≤ List.length (aggCells (nthA [.ptr p 0, .int .i64 (n : Int), .int .i64 (t : Int), .agg [hv L q, .int .i64 0, .nils]] 3)))) (bO (ctlV.loop (fun s72 => asInt .i64 (nthA s72.1 1) fun i73 => asInt .i64 (nthA s72.1 2) fun i74 => asInt .i64 (nthA s72.1 4) fun i75 => asInt .i64 (nthA s72.1 5) fun i76 => if decide (((IntKind.wrap .i64 (i76 + 1)) : Int) < i74) then bO (Cn B (k + 7) f_spindleref18_Run 0 [nthA s72.1 0, .int .i64 i75] s72.2) fun t77 => asTup t77.1 fun l78 => asCons l78 fun a79 l80 => asInt .i64 a79 fun i81 => asCons l80 fun a82 l83 => asInt .i64 a82 fun i84 => if (i84 : Int) != 0 then some (.inr (1, [.nils, .int .i64 i84], t77.2)) else bO ((aggCells (nthA s72.1 3))[2]?) fun t85 => bO (aAppend 1 8 t85 (.is 1 [.int .i64 i81]) t77.2) fun t86 => gB (cell t86.1) (gB (List.all [t86.1] cell) (gB (decide (3 ≤ List.length (aggCells (nthA s72.1 3)))) (some (.inl ([nthA s72.1 0, .int .i64 i73, .int .i64 i74, .agg (setCells (aggCells (nthA s72.1 3)) 2 [t86.1]), .int .i64 (IntKind.wrap .i64 (i75 - i81)), .int .i64 (IntKind.wrap .i64 (i76 + 1))], t86.2))))) else some (.inr (0, [.int .i64 i73, .agg (aggCells (nthA s72.1 3))], s72.2))) ([nthA [.ptr p 0, .int .i64 (n : Int), .int .i64 (t : Int), .agg [hv L q, .int .i64 0, .nils]] 0, .int .i64 (n : Int), .int .i64 (t : Int), .agg (setCells (aggCells (nthA [.ptr p 0, .int .i64 (n : Int), .int .i64 (t : Int), .agg [hv L q, .int .i64 0, .nils]] 3)) 1 [.int .i64 i67]), .int .i64 i67, .int .i64 0], t63.2)) fun r87 => sel [(fun v88 S89 => asInt .i64 (nthA v88 0) fun i90 => gB (decide (3 ≤ List.length (aggCells (nthA v88 1)))) (bO (Cn B (k + 7) f_spindleref17_Block 0 [.int .i64 i90, .agg (List.take 3 (List.drop 0 (aggCells (nthA v88 1))))] S89) fun t91 => asTup t91.1 fun l92 => asCons l92 fun a93 l94 => asCons l94 fun a95 l96 => asInt .i64 a95 fun i97 => bO (fz 40 (.tup [a93, .int .i64 i97]) t91.2) fun q98 => some (ctlV.tr S q98.1 q98.2))), (fun v99 S100 => asInt .i64 (nthA v99 1) fun i101 => bO (fz 40 (.tup [nthA v99 0, .int .i64 i101]) S100) fun q102 => some (ctlV.tr S q102.1 q102.2))] r87.1 r87.2.1 r87.2.2)) := by
  have hn16 : n ≤ 16 ∧ 4 ≤ n := by rcases (sizedI_iff (n : Int)).1 hn with h | h | h <;> omega
  have hL0 : L ≠ [] := fun h => by rw [h] at hLl; simp at hLl; omega
  have z0 : ((0 : Int) != 0) = false := rfl
  obtain ⟨T1, e1, r1, f1⟩ := zeros1_c hB (k + 4) hR (n : Int) (t : Int)
  have hF1 : Fr S T1 [p] := hF.trans f1 (fun j hj => .inl hj)
  by_cases hze : (zerR s b (n : Int) (t : Int)).2.1 ≠ 0
  · rw [hrr, if_pos hze]
    have ze : ((zerR s b (n : Int) (t : Int)).2.1 != 0) = true := by simp [hze]
    exact ⟨T1, _, by simp only [zB, decide_true, decide_false, Bool.false_eq_true, if_false, if_true, List.getElem?_cons_zero, List.getElem?_cons_succ, beq_self_eq_true, bne_self_eq_false, Int.reduceBNe, Int.reduceBEq, Int.reduceLT, Int.reduceGT, Int.reduceLE, Int.reduceGE, Nat.reduceAdd, Nat.reduceMul, Nat.reduceLeDiff, e1, ze, fz_nt], r1, hF1⟩
  · rw [if_neg hze] at hrr
    have hze0 : (zerR s b (n : Int) (t : Int)).2.1 = 0 := by simpa using hze
    obtain ⟨Z, hZ, hZl⟩ := zerR_in hze0
    rw [hZ, hze0] at e1
    rw [hZ] at hrr
    simp only [Int.toNat_natCast] at hrr
    obtain ⟨a3, ha3⟩ : ∃ a3, a3 = (zerR s b (n : Int) (t : Int)).2.2 := ⟨_, rfl⟩
    rw [← ha3] at r1 hrr
    obtain ⟨RR, hRR⟩ : ∃ RR, RR = runsR s (t - 1) Z a3 := ⟨_, rfl⟩
    rw [← hRR] at hrr
    simp only [zB, decide_true, decide_false, Bool.false_eq_true, if_false, if_true, List.getElem?_cons_zero, List.getElem?_cons_succ, beq_self_eq_true, bne_self_eq_false, Int.reduceBNe, Int.reduceBEq, Int.reduceLT, Int.reduceGT, Int.reduceLE, Int.reduceGE, Nat.reduceAdd, Nat.reduceMul, Nat.reduceLeDiff, e1, z0, set3_1, List.length_cons, List.length_nil]
    have hL1 : HR T1 L q := hL.fr f1 (fun _ => by simp; omega)
    refine loop_meas (LOut S p s rr) (fun m st => ∃ (i left : Nat) (U : Heap) (d pos : Nat) (X : List Nat), i + m = t - 1 ∧ X.length = i ∧ st = ([.ptr p 0, .int .i64 (n : Int), .int .i64 (t : Int), .agg [hv L q, .int .i64 (Z : Int), hv (natI X) d], .int .i64 (left : Int), .int .i64 (i : Int)], U) ∧
        Rdr U p s pos ∧ Fr S U [p] ∧ HR U L q ∧ HR U (natI X) d ∧ (natI X ≠ [] → S.next ≤ d ∧ d ≠ q) ∧ X.sum + left = Z ∧ RR = preM X (runsR s m left pos)) (t - 1)
      ⟨0, Z, T1, 0, a3, [], by omega, rfl, rfl, r1, hF1, hL1, fun h => absurd rfl h, fun h => absurd rfl h, by simp, by rw [preM_nil]; exact hRR⟩ ?_
    rintro m st ⟨i, left, U, d, pos, X, him, hXl, rfl, hRU, hFU, hLU, hHX, hdX, hsm, hRX⟩
    have w1 : IntKind.wrap .i64 ((i : Int) + 1) = ((i + 1 : Nat) : Int) := by rw [wr _ (by omega)]; omega
    have hfn := hFU.1
    cases m with
    | succ m =>
      have c1 : ((i + 1 : Nat) : Int) < (t : Int) := by omega
      obtain ⟨U1, e2, r2, f2⟩ := run1_c hB (k + 3) hRU (left : Int)
      have hFU1 : Fr S U1 [p] := hFU.trans f2 (fun j hj => .inl hj)
      by_cases hl0 : left = 0
      · subst hl0
        have hrun : runR s pos ((0 : Nat) : Int) = (0, 0, pos) := by
          unfold runR
          rw [if_neg (by omega)]
          show (((0 : Nat) : Int), (0 : Int), pos + min (0 + 1) 0) = _
          simp
        rw [hrun] at e2 r2
        rw [runsR_0] at hRX
        have hHX1 := hHX.fr f2 (fun h => by have := (hdX h).1; simp; omega)
        have hLU1 := hLU.fr f2 (fun _ => by simp; omega)
        obtain ⟨U2, e3, hH2, n2, x2, o2⟩ := appI (0 : Int) hHX1 (by rw [natI_len]; omega)
        have hnt : natI X ++ [(0 : Int)] = natI (X ++ [0]) := by rw [natI_app]; rfl
        rw [hnt] at e3 hH2
        have hqU := hLU1 hL0
        have w3 : IntKind.wrap .i64 (((0 : Nat) : Int) - 0) = ((0 : Nat) : Int) := by rw [wr _ (by omega)]; rfl
        have k1 : ∀ j, j < U1.next → (j ≠ d ∨ natI X = []) → U2.blk j = U1.blk j := fun j hj h => o2 j (by omega) h
        have nd : ∀ j, j < S.next ∨ j = q → (j ≠ d ∨ natI X = []) := fun j hj => by
          by_cases hn : natI X = []
          · exact .inr hn
          · have := hdX hn; rcases hj with h | h
            · exact .inl (by omega)
            · exact .inl (by omega)
        have f2n := f2.1
        exact .inr ⟨m, ([.ptr p 0, .int .i64 (n : Int), .int .i64 (t : Int), .agg [hv L q, .int .i64 (Z : Int), hv (natI (X ++ [0])) U1.next], .int .i64 ((0 : Nat) : Int), .int .i64 ((i + 1 : Nat) : Int)], U2), by omega, by simp only [zB, decide_true, decide_false, Bool.false_eq_true, if_false, if_true, List.getElem?_cons_zero, List.getElem?_cons_succ, beq_self_eq_true, bne_self_eq_false, Int.reduceBNe, Int.reduceBEq, Int.reduceLT, Int.reduceGT, Int.reduceLE, Int.reduceGE, Nat.reduceAdd, Nat.reduceMul, Nat.reduceLeDiff, w1, c1, e2, z0, e3, hv_cell, List.all_cons, List.all_nil, List.length_cons, List.length_nil, set3_2, w3], i + 1, 0, U2, U1.next, pos, X ++ [0], by omega, by simp [hXl], rfl,
          ⟨(k1 p (by omega) (nd p (.inl hp))).trans r2.blk, by omega, r2.sz, r2.le⟩, app_fr hFU1 (fun h => (hdX h).1) n2 x2 o2, fun h => ⟨(k1 q hqU.2 (nd q (.inr rfl))).trans hqU.1, by omega⟩, hH2, fun _ => ⟨by omega, by have := hqU.2; omega⟩, by simp; omega, by rw [hRX, preM_app]⟩
      · by_cases hre : (runR s pos (left : Int)).2.1 ≠ 0
        · rw [runsR_e hl0 hre] at hRX
          rw [hRX] at hrr
          have ze : ((runR s pos (left : Int)).2.1 != 0) = true := by simp [hre]
          refine .inl ⟨(1, [.nils, .int .i64 (runR s pos (left : Int)).2.1], U1), by simp only [zB, decide_true, decide_false, Bool.false_eq_true, if_false, if_true, List.getElem?_cons_zero, List.getElem?_cons_succ, beq_self_eq_true, bne_self_eq_false, Int.reduceBNe, Int.reduceBEq, Int.reduceLT, Int.reduceGT, Int.reduceLE, Int.reduceGE, Nat.reduceAdd, Nat.reduceMul, Nat.reduceLeDiff, w1, c1, e2, ze], ?_⟩
          rw [hrr]
          exact ⟨U1, _, by simp only [zB, decide_true, decide_false, Bool.false_eq_true, if_false, if_true, List.getElem?_cons_zero, List.getElem?_cons_succ, beq_self_eq_true, bne_self_eq_false, Int.reduceBNe, Int.reduceBEq, Int.reduceLT, Int.reduceGT, Int.reduceLE, Int.reduceGE, Nat.reduceAdd, Nat.reduceMul, Nat.reduceLeDiff, sel_1, fz_nt], r2, hFU1⟩
        · have hre0 : (runR s pos (left : Int)).2.1 = 0 := by simpa using hre
          obtain ⟨r, hr1, hr2⟩ := runR_in hRU.le hre0
          rw [runsR_s hl0 hre0, hr1, Int.toNat_natCast] at hRX
          rw [hr1, hre0] at e2
          obtain ⟨pos2, hpos2⟩ : ∃ pos2, pos2 = (runR s pos (left : Int)).2.2 := ⟨_, rfl⟩
          rw [← hpos2] at r2 hRX
          have hHX1 := hHX.fr f2 (fun h => by have := (hdX h).1; simp; omega)
          have hLU1 := hLU.fr f2 (fun _ => by simp; omega)
          obtain ⟨U2, e3, hH2, n2, x2, o2⟩ := appI (r : Int) hHX1 (by rw [natI_len]; omega)
          have hnt : natI X ++ [(r : Int)] = natI (X ++ [r]) := by rw [natI_app]; rfl
          rw [hnt] at e3 hH2
          have hqU := hLU1 hL0
          have w3 : IntKind.wrap .i64 ((left : Int) - (r : Int)) = ((left - r : Nat) : Int) := by rw [wr _ (by omega)]; omega
          have k1 : ∀ j, j < U1.next → (j ≠ d ∨ natI X = []) → U2.blk j = U1.blk j := fun j hj h => o2 j (by omega) h
          have nd : ∀ j, j < S.next ∨ j = q → (j ≠ d ∨ natI X = []) := fun j hj => by
            by_cases hn : natI X = []
            · exact .inr hn
            · have := hdX hn; rcases hj with h | h
              · exact .inl (by omega)
              · exact .inl (by omega)
          have f2n := f2.1
          exact .inr ⟨m, ([.ptr p 0, .int .i64 (n : Int), .int .i64 (t : Int), .agg [hv L q, .int .i64 (Z : Int), hv (natI (X ++ [r])) U1.next], .int .i64 ((left - r : Nat) : Int), .int .i64 ((i + 1 : Nat) : Int)], U2), by omega, by simp only [zB, decide_true, decide_false, Bool.false_eq_true, if_false, if_true, List.getElem?_cons_zero, List.getElem?_cons_succ, beq_self_eq_true, bne_self_eq_false, Int.reduceBNe, Int.reduceBEq, Int.reduceLT, Int.reduceGT, Int.reduceLE, Int.reduceGE, Nat.reduceAdd, Nat.reduceMul, Nat.reduceLeDiff, w1, c1, e2, z0, e3, hv_cell, List.all_cons, List.all_nil, List.length_cons, List.length_nil, set3_2, w3], i + 1, left - r, U2, U1.next, pos2, X ++ [r], by omega, by simp [hXl], rfl,
            ⟨(k1 p (by omega) (nd p (.inl hp))).trans r2.blk, by omega, r2.sz, r2.le⟩, app_fr hFU1 (fun h => (hdX h).1) n2 x2 o2, fun h => ⟨(k1 q hqU.2 (nd q (.inr rfl))).trans hqU.1, by omega⟩, hH2, fun _ => ⟨by omega, by have := hqU.2; omega⟩, by simp; omega, by rw [hRX, preM_app]⟩
    | zero =>
      have hi : i = t - 1 := by omega
      have c1 : ¬ (((i + 1 : Nat) : Int) < (t : Int)) := by omega
      rw [runsR] at hRX
      simp only [preM, List.append_nil] at hRX
      rw [hRX] at hrr
      simp only at hrr
      obtain ⟨l, l0, l1, l2, l3, l4, l5⟩ := read_blk (n := n) hn hL0 hLv (M := X) (Z := Z) (by omega) (by omega) (by omega)
      rw [← l0] at hrr
      have hil : IL U (hv (natI X) d) (natI (rst l).2.1) d := by rw [l4]; exact hv_il hHX
      have hilL : IL U (hv L q) (rst l).1 q := by rw [l3]; exact hv_il hLU
      obtain ⟨U1, e2, f2⟩ := block1_c hB (k + 5) l1 hilL hil
      rw [l2, l5] at e2
      refine .inl ⟨(0, [.int .i64 (n : Int), .agg [hv L q, .int .i64 (Z : Int), hv (natI X) d]], U), by simp only [zB, decide_true, decide_false, Bool.false_eq_true, if_false, if_true, List.getElem?_cons_zero, List.getElem?_cons_succ, beq_self_eq_true, bne_self_eq_false, Int.reduceBNe, Int.reduceBEq, Int.reduceLT, Int.reduceGT, Int.reduceLE, Int.reduceGE, Nat.reduceAdd, Nat.reduceMul, Nat.reduceLeDiff, w1, c1], ?_⟩
      rw [hrr]
      have ffz : ∀ T : Heap, fz 40 (.tup [isl l, .int .i64 0]) T = some (.tup [isl l, .int .i64 0], T) := fun T => fz_tup (fzM_c (fz_isl 38 l T) (fzM_c (fz_int 38 _ 0 _) rfl))
      exact ⟨U1, by simp only [zB, decide_true, decide_false, Bool.false_eq_true, if_false, if_true, List.getElem?_cons_zero, List.getElem?_cons_succ, beq_self_eq_true, bne_self_eq_false, Int.reduceBNe, Int.reduceBEq, Int.reduceLT, Int.reduceGT, Int.reduceLE, Int.reduceGE, Nat.reduceAdd, Nat.reduceMul, Nat.reduceLeDiff, sel_0, List.length_cons, List.length_nil, take3, e2, ffz], hRU.fr f2 (by simp), hFU.trans f2 (fun j hj => by simp at hj)⟩
end
section
variable {B : CallF} (hB : Silent B) (k : Nat) {S : Heap} {p : Nat} {s : ByteArray} {a : Nat}
include hB
theorem rread_c (hr : Rdr S p s a) (cls size : Int) : LOut S p s (readR s a cls size) (Cn B (k + 8) f_spindleref20_read 0 [.ptr p 0, .int .i64 cls, .int .i64 size] S) := by
  rw [c_spindleref20_read _ _ _ _ _ _ (hB.no _ _ _ _ (kn_no (by decide))), T_spindleref20_read]
  have hplt := hr.lt
  have z0 : ((0 : Int) != 0) = false := rfl
  obtain ⟨P1, e1, r1, f1⟩ := token1_c hB k hr cls size
  by_cases te : (tokR s a cls size).2.2.1 ≠ 0
  · have hrr : readR s a cls size = .error (tokR s a cls size).2.2.1 := by
      unfold readR
      by_cases hg : cls < 0 ∨ cls > 4 ∨ sizedI size = false
      · rw [if_pos hg]
        unfold tokR
        rw [if_pos hg]
      · rw [if_neg hg, if_pos te]
    rw [hrr]
    have ze : ((tokR s a cls size).2.2.1 != 0) = true := by simp [te]
    exact ⟨P1, _, by simp only [zB, decide_true, decide_false, Bool.false_eq_true, if_false, if_true, List.getElem?_cons_zero, List.getElem?_cons_succ, beq_self_eq_true, bne_self_eq_false, Int.reduceBNe, Int.reduceBEq, Int.reduceLT, Int.reduceGT, Int.reduceLE, Int.reduceGE, Nat.reduceAdd, Nat.reduceMul, Nat.reduceLeDiff, e1, ze, fz_nt], r1, f1⟩
  have te0 : (tokR s a cls size).2.2.1 = 0 := by simpa using te
  have hg : ¬ (cls < 0 ∨ cls > 4 ∨ sizedI size = false) := fun hg => by
    have : (tokR s a cls size).2.2.1 = 3 := by unfold tokR; rw [if_pos hg]
    omega
  have hsz : sizedI size = true := by
    cases h : sizedI size with
    | true => rfl
    | false => exact absurd (.inr (.inr h)) hg
  obtain ⟨n, hn⟩ := Int.eq_ofNat_of_zero_le (show 0 ≤ size by rcases (sizedI_iff size).1 hsz with h | h | h <;> omega)
  have hn16 : n ≤ 16 ∧ 4 ≤ n := by rcases (sizedI_iff size).1 hsz with h | h | h <;> omega
  subst hn
  by_cases t0 : (tokR s a cls n).1 = 0
  · have hrr : readR s a cls n = .ok (List.replicate n 0, (tokR s a cls n).2.2.2) := by unfold readR; rw [if_neg hg, if_neg te, if_pos t0]; rfl
    rw [hrr]
    rw [te0] at e1
    have c3 : ((tokR s a cls n).1 == 0) = true := by rw [t0]; rfl
    obtain ⟨l, hl⟩ : ∃ l, l = List.replicate n (0 : Int) := ⟨_, rfl⟩
    rw [← hl]
    have hll : l.length = n := by rw [hl, List.length_replicate]
    have hlne : l ≠ [] := fun h => by rw [h] at hll; simp at hll; omega
    have his : isl l = .is n (List.replicate n (.int .i64 0)) := by rw [isl_is2 hlne, hll, ints_rep2, hl]
    obtain ⟨k1, k2, k3, k4⟩ := mk12 (n := n) (by omega)
    have ffz : ∀ T : Heap, fz 40 (.tup [isl l, .int .i64 0]) T = some (.tup [isl l, .int .i64 0], T) := fun T => fz_tup (fzM_c (fz_isl 38 l T) (fzM_c (fz_int 38 _ 0 _) rfl))
    rw [his] at ffz
    exact ⟨P1, by simp only [zB, decide_true, decide_false, Bool.false_eq_true, if_false, if_true, List.getElem?_cons_zero, List.getElem?_cons_succ, beq_self_eq_true, bne_self_eq_false, Int.reduceBNe, Int.reduceBEq, Int.reduceLT, Int.reduceGT, Int.reduceLE, Int.reduceGE, Nat.reduceAdd, Nat.reduceMul, Nat.reduceLeDiff, e1, z0, c3, k1, k2, k3, k4, Int.toNat_natCast, ffz, his], r1, f1⟩
  obtain ⟨t, o, t1, t2, t3, t4, t5⟩ := tokR_in te0
  have htn : t ≤ n := by omega
  have ht0 : t ≠ 0 := fun h => t0 (by rw [t1, h]; rfl)
  have hrr : readR s a cls n = match levR s (tokR s a cls n).2.2.2 t o with
    | .error e => .error e
    | .ok (L, a1) => if (zerR s a1 n (t : Int)).2.1 ≠ 0 then .error (zerR s a1 n (t : Int)).2.1 else
      match runsR s (t - 1) (zerR s a1 n (t : Int)).1.toNat (zerR s a1 n (t : Int)).2.2 with
      | .error e => .error e
      | .ok (M, a3) => .ok (fill L M ((zerR s a1 n (t : Int)).1.toNat + L.length - 1) (List.replicate n 0), a3) := by
    unfold readR
    rw [if_neg hg, if_neg (by simp [te0]), if_neg t0, t1, t2]
    rfl
  rw [hrr]
  rw [te0, t1, t2] at e1
  obtain ⟨a1, ha1⟩ : ∃ a1, a1 = (tokR s a cls n).2.2.2 := ⟨_, rfl⟩
  rw [← ha1] at r1 ⊢
  have c3 : (((t : Nat) : Int) == 0) = false := by simp; exact ht0
  simp only [zB, decide_true, decide_false, Bool.false_eq_true, if_false, if_true, List.getElem?_cons_zero, List.getElem?_cons_succ, beq_self_eq_true, bne_self_eq_false, Int.reduceBNe, Int.reduceBEq, Int.reduceLT, Int.reduceGT, Int.reduceLE, Int.reduceGE, Nat.reduceAdd, Nat.reduceMul, Nat.reduceLeDiff, e1, z0, c3]
  obtain ⟨rr, hrr2⟩ : ∃ rr, rr = (match levR s a1 t o with
    | .error e => .error e
    | .ok (L, a1) => if (zerR s a1 n (t : Int)).2.1 ≠ 0 then .error (zerR s a1 n (t : Int)).2.1 else
      match runsR s (t - 1) (zerR s a1 n (t : Int)).1.toNat (zerR s a1 n (t : Int)).2.2 with
      | .error e => .error e
      | .ok (M, a3) => .ok (fill L M ((zerR s a1 n (t : Int)).1.toNat + L.length - 1) (List.replicate n 0), a3) : Except Int (List Int × Nat)) := ⟨_, rfl⟩
  rw [← hrr2]
  -- the ones
  refine loop_meas (LOut S p s rr) (fun m st => ∃ (i : Nat) (X : List Int) (T : Heap) (q : Nat), i + m = o ∧ X.length = i ∧ st = ([.ptr p 0, .int .i64 (n : Int), .int .i64 (t : Int), .int .i64 (o : Int), .agg [hv X q, .int .i64 0, .nils], .int .i64 (i : Int)], T) ∧
      Rdr T p s (a1 + i) ∧ HR T X q ∧ (X ≠ [] → S.next ≤ q) ∧ Fr S T [p] ∧ (∀ v ∈ X, v ≠ 0 ∧ v.natAbs ≤ 3000) ∧ onR s o a1 = preL X (onR s m (a1 + i))) o
    ⟨0, [], P1, 0, by omega, rfl, rfl, r1, fun h => absurd rfl h, fun h => absurd rfl h, f1, fun v hvm => by simp at hvm, (preL_nil _).symm⟩ ?_
  rintro m st ⟨i, X, T, q, him, hXl, rfl, hR, hX, hq, hF, hXv, hon⟩
  have hfn := hF.1
  cases m with
  | succ m =>
    have c1 : (i : Int) < (o : Int) := by omega
    by_cases hsh : 8 * s.size ≤ a1 + i
    · have e2 := bit1_short hB (k + 4) hR (by have := hR.le; omega)
      rw [onR, if_pos hsh] at hon
      simp only [preL] at hon
      have hre : rr = .error 5 := by rw [hrr2]; unfold levR; rw [hon]
      have z5 : ((5 : Int) != 0) = true := rfl
      refine .inl ⟨(1, [.nils, .int .i64 5], T), by simp only [zB, decide_true, decide_false, Bool.false_eq_true, if_false, if_true, List.getElem?_cons_zero, List.getElem?_cons_succ, beq_self_eq_true, bne_self_eq_false, Int.reduceBNe, Int.reduceBEq, Int.reduceLT, Int.reduceGT, Int.reduceLE, Int.reduceGE, Nat.reduceAdd, Nat.reduceMul, Nat.reduceLeDiff, c1, e2, z5], ?_⟩
      rw [hre]
      exact ⟨T, _, by simp only [zB, decide_true, decide_false, Bool.false_eq_true, if_false, if_true, List.getElem?_cons_zero, List.getElem?_cons_succ, beq_self_eq_true, bne_self_eq_false, Int.reduceBNe, Int.reduceBEq, Int.reduceLT, Int.reduceGT, Int.reduceLE, Int.reduceGE, Nat.reduceAdd, Nat.reduceMul, Nat.reduceLeDiff, sel_1, fz_nt], hR, hF⟩
    · obtain ⟨T1, e2, hR1, f2⟩ := bit1_ok hB (k + 4) hR (by omega)
      rw [onR_succ s m _ hsh, preL_app] at hon
      have hF1 : Fr S T1 [p] := hF.trans f2 (fun j hj => .inl hj)
      have hX1 := hX.fr f2 (fun h => by have := hq h; simp; omega)
      have hb := bit3 (sb s (a1 + i)) (sb_lt _ _)
      obtain ⟨v, hve⟩ : ∃ v : Int, v = if sb s (a1 + i) = 1 then -1 else 1 := ⟨_, rfl⟩
      rw [← hve] at hb hon
      obtain ⟨T2, e3, hX2, n2, x2, o2⟩ := appI v hX1 (by omega)
      have f2n := f2.1
      have w1 : IntKind.wrap .i64 ((i : Int) + 1) = ((i + 1 : Nat) : Int) := by rw [wr _ (by omega)]; omega
      have pd : p ≠ q ∨ X = [] := by
        by_cases h : X = []
        · exact .inr h
        · exact .inl (by have := hq h; omega)
      have hb2 : IntKind.wrap .i64 (1 - IntKind.wrap .i64 (2 * IntKind.wrap .i64 ((sb s (a1 + i) : Nat) : Int))) = v := hb
      exact .inr ⟨m, ([.ptr p 0, .int .i64 (n : Int), .int .i64 (t : Int), .int .i64 (o : Int), .agg [hv (X ++ [v]) T1.next, .int .i64 0, .nils], .int .i64 ((i + 1 : Nat) : Int)], T2), by omega, by simp only [zB, decide_true, decide_false, Bool.false_eq_true, if_false, if_true, List.getElem?_cons_zero, List.getElem?_cons_succ, beq_self_eq_true, bne_self_eq_false, Int.reduceBNe, Int.reduceBEq, Int.reduceLT, Int.reduceGT, Int.reduceLE, Int.reduceGE, Nat.reduceAdd, Nat.reduceMul, Nat.reduceLeDiff, c1, e2, z0, hb2, e3, hv_cell, List.all_cons, List.all_nil, List.length_cons, List.length_nil, set3_0, w1], i + 1, X ++ [v], T2, T1.next, by omega, by simp [hXl], rfl,
        ⟨(o2 p (by omega) pd).trans hR1.blk, by have := hR1.lt; omega, hR1.sz, hR1.le⟩, hX2, fun _ => by omega, app_fr hF1 hq n2 x2 o2, fun w hw => by
          rcases List.mem_append.1 hw with h | h
          · exact hXv w h
          · have : w = v := by simpa using h
            rw [this, hve]; split <;> exact ⟨by decide, by decide⟩, hon⟩
  | zero =>
    have hi : i = o := by omega
    subst hi
    have c1 : ¬ ((i : Int) < (i : Int)) := by omega
    rw [onR] at hon
    simp only [preL, List.append_nil] at hon
    refine .inl ⟨(0, [.ptr p 0, .int .i64 (n : Int), .int .i64 (t : Int), .int .i64 (i : Int), .agg [hv X q, .int .i64 0, .nils]], T), by simp only [zB, decide_true, decide_false, Bool.false_eq_true, if_false, if_true, List.getElem?_cons_zero, List.getElem?_cons_succ, beq_self_eq_true, bne_self_eq_false, Int.reduceBNe, Int.reduceBEq, Int.reduceLT, Int.reduceGT, Int.reduceLE, Int.reduceGE, Nat.reduceAdd, Nat.reduceMul, Nat.reduceLeDiff, c1], ?_⟩
    rw [levR_two hon] at hrr2
    -- the others
    obtain ⟨U, e2, hC, fU⟩ := new1_c hB (k + 5) (S := T) (total := t) (ones := i) (by omega) (by omega)
    obtain ⟨c, hc⟩ : ∃ c, c = T.next := ⟨_, rfl⟩
    rw [← hc] at e2 hC
    have hR1 := hR.fr fU (by simp)
    have hX1 := hX.fr fU (fun _ => by simp)
    have hF1 : Fr S U [p] := hF.trans fU (fun j hj => by simp at hj)
    simp only [zB, decide_true, decide_false, Bool.false_eq_true, if_false, if_true, List.getElem?_cons_zero, List.getElem?_cons_succ, beq_self_eq_true, bne_self_eq_false, Int.reduceBNe, Int.reduceBEq, Int.reduceLT, Int.reduceGT, Int.reduceLE, Int.reduceGE, Nat.reduceAdd, Nat.reduceMul, Nat.reduceLeDiff, sel_0, e2]
    refine loop_meas (LOut S p s rr) (fun m st => ∃ (j K sk pos : Nat) (Y : List Int) (V : Heap) (d : Nat), j + m = t ∧ i ≤ j ∧ Y.length = j ∧ st = ([.ptr p 0, .int .i64 (n : Int), .int .i64 (t : Int), .agg [hv Y d, .int .i64 0, .nils], .ptr c 0, .int .i64 (j : Int)], V) ∧
        Rdr V p s pos ∧ Cod1 V c K m sk ∧ K ≤ 6 ∧ sk ≤ 2 ∧ HR V Y d ∧ (Y ≠ [] → S.next ≤ d ∧ d ≠ c) ∧ Fr S V [p] ∧ (∀ v ∈ Y, v ≠ 0 ∧ v.natAbs ≤ 3000) ∧ preL X (lvsR s (t - i) (a1 + i) (k0N t i) (s0N i)) = preL Y (lvsR s m pos K sk)) (t - i)
      ⟨i, k0N t i, s0N i, a1 + i, X, U, q, by omega, Nat.le_refl _, hXl, rfl, hR1, hC, by unfold k0N; split <;> omega, by unfold s0N; split <;> omega, hX1, fun h => ⟨hq h, by have := (hX h).2; omega⟩, hF1, hXv, rfl⟩ ?_
    rintro m st ⟨j, K, sk, pos, Y, V, d, hjm, hij, hYl, rfl, hRV, hCV, hK, hsk, hYV, hd, hFV, hYv, hlv⟩
    have hcp : c ≠ p := by omega
    have hVn := hFV.1
    have hcn : S.next ≤ c := by omega
    cases m with
    | succ m =>
      have c2 : (j : Int) < (t : Int) := by omega
      obtain ⟨V1, e3, r3, g3, f3⟩ := lreadF1_c hB (k + 3) hCV hRV hcp hK (by omega) hsk
      have hFV1 : Fr S V1 [p] := hFV.trans f3 (fun x hx => by
        rcases List.mem_cons.1 hx with h | h
        · exact .inl (by simp [h])
        · have : x = c := by simpa using h
          exact .inr (by omega))
      cases hl : lvR s pos K sk with
      | error e =>
        rw [hl] at e3 r3
        have hne := lvR_err hl
        have ze : (e != 0) = true := by simp [hne]
        simp only [encL, posL] at e3 r3
        have hre : rr = .error e := by
          rw [hrr2, hlv, lvsR, hl]; rfl
        refine .inl ⟨(1, [.nils, .int .i64 e], V1), by simp only [zB, decide_true, decide_false, Bool.false_eq_true, if_false, if_true, List.getElem?_cons_zero, List.getElem?_cons_succ, beq_self_eq_true, bne_self_eq_false, Int.reduceBNe, Int.reduceBEq, Int.reduceLT, Int.reduceGT, Int.reduceLE, Int.reduceGE, Nat.reduceAdd, Nat.reduceMul, Nat.reduceLeDiff, c2, e3, ze], ?_⟩
        rw [hre]
        exact ⟨V1, _, by simp only [zB, decide_true, decide_false, Bool.false_eq_true, if_false, if_true, List.getElem?_cons_zero, List.getElem?_cons_succ, beq_self_eq_true, bne_self_eq_false, Int.reduceBNe, Int.reduceBEq, Int.reduceLT, Int.reduceGT, Int.reduceLE, Int.reduceGE, Nat.reduceAdd, Nat.reduceMul, Nat.reduceLeDiff, sel_1, fz_nt], r3, hFV1⟩
      | ok x =>
        obtain ⟨v, pos2⟩ := x
        rw [hl] at e3 r3 g3
        simp only [encL, posL] at e3 r3 g3
        rw [lvsR_succ s m _ _ _ hl, preL_app] at hlv
        have hgood := lvR_good hK hsk hRV.le hl
        have hYV1 := hYV.fr f3 (fun h => by have := hd h; simp; omega)
        obtain ⟨V2, e4, hY2, n2, x2, o2⟩ := appI v hYV1 (by omega)
        have f3n := f3.1
        have w1 : IntKind.wrap .i64 ((j : Int) + 1) = ((j + 1 : Nat) : Int) := by rw [wr _ (by omega)]; omega
        have nd : ∀ x, x = p ∨ x = c → x ≠ d ∨ Y = [] := fun x hx => by
          by_cases h : Y = []
          · exact .inr h
          · have := hd h
            rcases hx with h | h
            · exact .inl (by omega)
            · exact .inl (by omega)
        have hclt := g3.lt
        exact .inr ⟨m, ([.ptr p 0, .int .i64 (n : Int), .int .i64 (t : Int), .agg [hv (Y ++ [v]) V1.next, .int .i64 0, .nils], .ptr c 0, .int .i64 ((j + 1 : Nat) : Int)], V2), by omega, by simp only [zB, decide_true, decide_false, Bool.false_eq_true, if_false, if_true, List.getElem?_cons_zero, List.getElem?_cons_succ, beq_self_eq_true, bne_self_eq_false, Int.reduceBNe, Int.reduceBEq, Int.reduceLT, Int.reduceGT, Int.reduceLE, Int.reduceGE, Nat.reduceAdd, Nat.reduceMul, Nat.reduceLeDiff, c2, e3, z0, e4, hv_cell, List.all_cons, List.all_nil, List.length_cons, List.length_nil, set3_0, w1], j + 1, _, 0, pos2, Y ++ [v], V2, V1.next, by omega, by omega, by simp [hYl], rfl,
          ⟨(o2 p (by omega) (nd p (.inl rfl))).trans r3.blk, by have := r3.lt; omega, r3.sz, r3.le⟩, ⟨(o2 c (by omega) (nd c (.inr rfl))).trans g3.blk, by omega⟩, aftN_le hK, by omega, hY2, fun _ => ⟨by omega, by omega⟩, app_fr hFV1 (fun h => (hd h).1) n2 x2 o2, fun w hw => by
            rcases List.mem_append.1 hw with h | h
            · exact hYv w h
            · have : w = v := by simpa using h
              rw [this]; exact ⟨hgood.1, hgood.2.1⟩, hlv⟩
    | zero =>
      have hj : j = t := by omega
      subst hj
      have c2 : ¬ ((j : Int) < (j : Int)) := by omega
      rw [lvsR] at hlv
      simp only [preL, List.append_nil] at hlv
      have hY0 : Y ≠ [] := fun h => by rw [h] at hYl; simp at hYl; omega
      refine .inl ⟨(0, [.ptr p 0, .int .i64 (n : Int), .int .i64 (j : Int), .agg [hv Y d, .int .i64 0, .nils]], V), by simp only [zB, decide_true, decide_false, Bool.false_eq_true, if_false, if_true, List.getElem?_cons_zero, List.getElem?_cons_succ, beq_self_eq_true, bne_self_eq_false, Int.reduceBNe, Int.reduceBEq, Int.reduceLT, Int.reduceGT, Int.reduceLE, Int.reduceGE, Nat.reduceAdd, Nat.reduceMul, Nat.reduceLeDiff, c2], ?_⟩
      simp only [preL, hlv] at hrr2
      have := rtail_c hB k (fun _ => none) hsz (by omega) hRV hFV hplt hYV (hd hY0).1 hYl hYv hrr2
      rw [sel_0]
      exact this
theorem rReadF_c (hr : Rdr S p s a) (cls size : Int) : BOut S p s a (readR s a cls size) (Cn B (k + 9) f_spindleref20_Read 0 [.ptr p 0, .int .i64 cls, .int .i64 size] S) := by
  rw [c_spindleref20_Read _ _ _ _ _ _ (hB.no _ _ _ _ (kn_no (by decide))), T_spindleref20_Read]
  have e := rread_c hB k hr cls size
  have z0 : ((0 : Int) != 0) = false := rfl
  cases hrr : readR s a cls size with
  | error x =>
    rw [hrr] at e
    obtain ⟨T, b, e, r, f⟩ := e
    have hx := readR_err hrr
    have ze : (x != 0) = true := by simp [hx]
    have hp := r.put (a : Int)
    refine ⟨T.set p (some [.str s, .int .i64 (a : Int)]), ?_, r.set hr.le, f.set (.inl (by simp)) _⟩
    simp only [zB, decide_true, decide_false, Bool.false_eq_true, if_false, if_true, List.getElem?_cons_zero, List.getElem?_cons_succ, beq_self_eq_true, bne_self_eq_false, Int.reduceBNe, Int.reduceBEq, Int.reduceLT, Int.reduceGT, Int.reduceLE, Int.reduceGE, Nat.reduceAdd, Nat.reduceMul, Nat.reduceLeDiff, hr.blk, e, ze, hp, fz_nt]
  | ok x =>
    obtain ⟨l, a'⟩ := x
    rw [hrr] at e
    obtain ⟨T, e, r, f⟩ := e
    have ffz : ∀ T : Heap, fz 40 (.tup [isl l, .int .i64 0]) T = some (.tup [isl l, .int .i64 0], T) := fun T => fz_tup (fzM_c (fz_isl 38 l T) (fzM_c (fz_int 38 _ 0 _) rfl))
    exact ⟨T, by simp only [zB, decide_true, decide_false, Bool.false_eq_true, if_false, if_true, List.getElem?_cons_zero, List.getElem?_cons_succ, beq_self_eq_true, bne_self_eq_false, Int.reduceBNe, Int.reduceBEq, Int.reduceLT, Int.reduceGT, Int.reduceLE, Int.reduceGE, Nat.reduceAdd, Nat.reduceMul, Nat.reduceLeDiff, hr.blk, e, z0, ffz], r, f⟩
end
section
variable {B : CallF} (hB : Silent B) (k : Nat) {S : Heap}
include hB
theorem equalInts_c {a b : AV} {l m : List Int} {d d2 : Nat} (h : IL S a l d) (h2 : IL S b m d2) (hl : l.length ≤ 1000000000) : Cn B (k + 1) f_spindlekit_EqualInts 0 [a, b] S = some (.bool (decide (l = m)), S) := by
  rw [c_spindlekit_EqualInts _ _ _ _ _ (hB.no _ _ _ _ (kn_no (by decide))), T_spindlekit_EqualInts]
  by_cases hlen : l.length = m.length
  · have c1 : ((l.length : Int) != (m.length : Int)) = false := by simp [hlen]
    simp only [zB, decide_true, decide_false, Bool.false_eq_true, if_false, if_true, List.getElem?_cons_zero, List.getElem?_cons_succ, beq_self_eq_true, bne_self_eq_false, Int.reduceBNe, Int.reduceBEq, Int.reduceLT, Int.reduceGT, Int.reduceLE, Int.reduceGE, Nat.reduceAdd, Nat.reduceMul, Nat.reduceLeDiff, h.len, h2.len, c1]
    refine loop_meas (fun o => o = some (AV.bool (decide (l = m)), S)) (fun n st => ∃ i : Nat, i + n = l.length ∧ st = ([a, b, .int .i64 (i : Int)], S) ∧ l.take i = m.take i) l.length ⟨0, by omega, rfl, rfl⟩ ?_
    rintro n st ⟨i, hin, rfl, ht⟩
    cases n with
    | zero =>
      have c2 : ¬ ((i : Int) < (l.length : Int)) := by omega
      rw [List.take_of_length_le (by omega), List.take_of_length_le (by omega)] at ht
      refine .inl ⟨(0, [], S), by simp only [zB, decide_true, decide_false, Bool.false_eq_true, if_false, if_true, List.getElem?_cons_zero, List.getElem?_cons_succ, beq_self_eq_true, bne_self_eq_false, Int.reduceBNe, Int.reduceBEq, Int.reduceLT, Int.reduceGT, Int.reduceLE, Int.reduceGE, Nat.reduceAdd, Nat.reduceMul, Nat.reduceLeDiff, h.len, c2], ?_⟩
      rw [decide_eq_true ht]
      simp only [zB, decide_true, decide_false, Bool.false_eq_true, if_false, if_true, List.getElem?_cons_zero, List.getElem?_cons_succ, beq_self_eq_true, bne_self_eq_false, Int.reduceBNe, Int.reduceBEq, Int.reduceLT, Int.reduceGT, Int.reduceLE, Int.reduceGE, Nat.reduceAdd, Nat.reduceMul, Nat.reduceLeDiff, sel_0]
    | succ n =>
      have hi : i < l.length := by omega
      have hi2 : i < m.length := by omega
      have c2 : (i : Int) < (l.length : Int) := by omega
      obtain ⟨t, cs, o, x1, x2, x3⟩ := h.at hi
      obtain ⟨t', cs', o', y1, y2, y3⟩ := h2.at hi2
      by_cases he : l[i] = m[i]
      · have c3 : (l[i] != m[i]) = false := by simp [he]
        have w1 : IntKind.wrap .i64 ((i : Int) + 1) = ((i + 1 : Nat) : Int) := by rw [wr _ (by omega)]; omega
        refine .inr ⟨n, ([a, b, .int .i64 ((i + 1 : Nat) : Int)], S), by omega, by simp only [zB, decide_true, decide_false, Bool.false_eq_true, if_false, if_true, List.getElem?_cons_zero, List.getElem?_cons_succ, beq_self_eq_true, bne_self_eq_false, Int.reduceBNe, Int.reduceBEq, Int.reduceLT, Int.reduceGT, Int.reduceLE, Int.reduceGE, Nat.reduceAdd, Nat.reduceMul, Nat.reduceLeDiff, h.len, c2, x1, x2, x3, y1, y2, y3, c3, w1], i + 1, by omega, rfl, ?_⟩
        rw [List.take_add_one, List.take_add_one, ht, List.getElem?_eq_getElem hi, List.getElem?_eq_getElem hi2, he]
      · have c3 : (l[i] != m[i]) = true := by simp [he]
        have hne : ¬ l = m := fun hh => he (by simp [hh])
        refine .inl ⟨(1, [.bool false], S), by simp only [zB, decide_true, decide_false, Bool.false_eq_true, if_false, if_true, List.getElem?_cons_zero, List.getElem?_cons_succ, beq_self_eq_true, bne_self_eq_false, Int.reduceBNe, Int.reduceBEq, Int.reduceLT, Int.reduceGT, Int.reduceLE, Int.reduceGE, Nat.reduceAdd, Nat.reduceMul, Nat.reduceLeDiff, h.len, c2, x1, x2, x3, y1, y2, y3, c3], ?_⟩
        rw [decide_eq_false hne]
        simp only [zB, decide_true, decide_false, Bool.false_eq_true, if_false, if_true, List.getElem?_cons_zero, List.getElem?_cons_succ, beq_self_eq_true, bne_self_eq_false, Int.reduceBNe, Int.reduceBEq, Int.reduceLT, Int.reduceGT, Int.reduceLE, Int.reduceGE, Nat.reduceAdd, Nat.reduceMul, Nat.reduceLeDiff, sel_1]
  · have c1 : ((l.length : Int) != (m.length : Int)) = true := by simp; omega
    have hne : ¬ l = m := fun hh => hlen (by rw [hh])
    rw [decide_eq_false hne]
    simp only [zB, decide_true, decide_false, Bool.false_eq_true, if_false, if_true, List.getElem?_cons_zero, List.getElem?_cons_succ, beq_self_eq_true, bne_self_eq_false, Int.reduceBNe, Int.reduceBEq, Int.reduceLT, Int.reduceGT, Int.reduceLE, Int.reduceGE, Nat.reduceAdd, Nat.reduceMul, Nat.reduceLeDiff, h.len, h2.len, c1]
end
theorem known20_chk : chk f_spindlelaw20_known [] (.bool true) = true := by kernel_rfl
theorem readR_len {s : ByteArray} {a : Nat} {cls size : Int} {l : List Int} {a' : Nat} (h : readR s a cls size = .ok (l, a')) : l.length ≤ 16 := by
  unfold readR at h
  split at h
  · cases h
  · rename_i hg
    have hsz : sizedI size = true := by
      cases h : sizedI size with
      | true => rfl
      | false => exact absurd (.inr (.inr h)) hg
    have hs16 : size.toNat ≤ 16 := by rcases (sizedI_iff size).1 hsz with h | h | h <;> omega
    have fl : ∀ (L : List Int) (M : List Nat) (pos : Nat) (out : List Int), (fill L M pos out).length = out.length := by
      intro L
      induction L with
      | nil => intro M pos out; rfl
      | cons v L ih => intro M pos out; rw [fill, ih, List.length_set]
    split at h
    · cases h
    · split at h
      · injection h with h
        have := (Prod.mk.inj h).1
        rw [← this, List.length_replicate]; exact hs16
      · split at h
        · cases h
        · split at h
          · cases h
          · split at h
            · cases h
            · injection h with h
              have := (Prod.mk.inj h).1
              rw [← this, fl, List.length_replicate]; exact hs16
theorem reads20_law {s : ByteArray} {sk : Int} (hsk : 0 ≤ sk ∧ sk ≤ 255) (cls size : Int) : ∃ S', Cn Bk 11 f_spindlelaw20_VblockReads 0 [.str s, .int .u8 sk, .int .i64 cls, .int .i64 size] S0 = some (.bool true, S') := by
  have hB := Bk_silent
  rw [c_spindlelaw20_VblockReads _ _ _ _ _ _ _ (hB.no _ _ _ _ (kn_no (by decide))), T_spindlelaw20_VblockReads]
  have e0 : ∀ S, Cn Bk 10 f_spindlelaw20_known 0 [] S = some (.bool true, S) := fun S => chk_c hB known20_chk _ _
  by_cases g : (s.size : Int) > 300
  · exact ⟨S0, by simp only [zB, decide_true, decide_false, Bool.false_eq_true, if_false, if_true, List.getElem?_cons_zero, List.getElem?_cons_succ, beq_self_eq_true, bne_self_eq_false, Int.reduceBNe, Int.reduceBEq, Int.reduceLT, Int.reduceGT, Int.reduceLE, Int.reduceGE, Nat.reduceAdd, Nat.reduceMul, Nat.reduceLeDiff, g, e0]⟩
  have hs0 : s.size ≤ 1099511627776 := by omega
  obtain ⟨S1, e1, r1, f1, n1⟩ := read_c hB 9 (S := S0) s hs0
  obtain ⟨p, hp⟩ : ∃ p, p = S0.next := ⟨_, rfl⟩
  rw [← hp] at e1 r1
  obtain ⟨S2, e2, r2, f2, n2⟩ := read1_c hB 9 (S := S1) s hs0
  obtain ⟨q, hq⟩ : ∃ q, q = S1.next := ⟨_, rfl⟩
  rw [← hq] at e2 r2
  have hpq : p ≠ q := by have := r1.lt; omega
  have r1' := r1.fr f2 (by simp)
  have hw : IntKind.wrap .i64 sk = sk := wr _ (by omega)
  obtain ⟨d, hd⟩ : ∃ d : Nat, Int.tmod sk 8 = (d : Int) := by
    obtain ⟨m, rfl⟩ := Int.eq_ofNat_of_zero_le hsk.1
    exact ⟨m % 8, rfl⟩
  simp only [zB, decide_true, decide_false, Bool.false_eq_true, if_false, if_true, List.getElem?_cons_zero, List.getElem?_cons_succ, beq_self_eq_true, bne_self_eq_false, Int.reduceBNe, Int.reduceBEq, Int.reduceLT, Int.reduceGT, Int.reduceLE, Int.reduceGE, Nat.reduceAdd, Nat.reduceMul, Nat.reduceLeDiff, g, e1, e2]
  refine loop_meas (fun o => ∃ S', o = some (AV.bool true, S')) (fun m st => ∃ (i a : Nat) (T : Heap), i + m = d ∧ st = ([.int .u8 sk, .int .i64 cls, .int .i64 size, .ptr p 0, .ptr q 0, .int .i64 (i : Int)], T) ∧ Rdr T p s a ∧ Rdr T q s a) d ⟨0, 0, S2, by omega, rfl, r1', r2⟩ ?_
  rintro m st ⟨i, a, T, him, rfl, hrp, hrq⟩
  cases m with
  | succ m =>
    have c1 : (i : Int) < (d : Int) := by omega
    have w1 : IntKind.wrap .i64 ((i : Int) + 1) = ((i + 1 : Nat) : Int) := by
      have : d < 8 := by
        obtain ⟨m, rfl⟩ := Int.eq_ofNat_of_zero_le hsk.1
        have : (d : Int) = ((m % 8 : Nat) : Int) := hd.symm
        omega
      rw [wr _ (by omega)]; omega
    by_cases ha : a < 8 * s.size
    · obtain ⟨T1, e3, r3, f3⟩ := bit_ok hB 7 hrp ha
      obtain ⟨T2, e4, r4, f4⟩ := bit1_ok hB 7 (hrq.fr f3 (by simp; omega)) ha
      exact .inr ⟨m, ([.int .u8 sk, .int .i64 cls, .int .i64 size, .ptr p 0, .ptr q 0, .int .i64 ((i + 1 : Nat) : Int)], T2), by omega, by simp only [zB, decide_true, decide_false, Bool.false_eq_true, if_false, if_true, List.getElem?_cons_zero, List.getElem?_cons_succ, beq_self_eq_true, bne_self_eq_false, Int.reduceBNe, Int.reduceBEq, Int.reduceLT, Int.reduceGT, Int.reduceLE, Int.reduceGE, Nat.reduceAdd, Nat.reduceMul, Nat.reduceLeDiff, hw, hd, c1, e3, e4, w1], i + 1, a + 1, T2, by omega, rfl, r3.fr f4 (by simp; omega), r4⟩
    · have ha' : a = 8 * s.size := by have := hrp.le; omega
      have e3 := bit_short hB 7 hrp ha'
      have e4 := bit1_short hB 7 hrq ha'
      exact .inr ⟨m, ([.int .u8 sk, .int .i64 cls, .int .i64 size, .ptr p 0, .ptr q 0, .int .i64 ((i + 1 : Nat) : Int)], T), by omega, by simp only [zB, decide_true, decide_false, Bool.false_eq_true, if_false, if_true, List.getElem?_cons_zero, List.getElem?_cons_succ, beq_self_eq_true, bne_self_eq_false, Int.reduceBNe, Int.reduceBEq, Int.reduceLT, Int.reduceGT, Int.reduceLE, Int.reduceGE, Nat.reduceAdd, Nat.reduceMul, Nat.reduceLeDiff, hw, hd, c1, e3, e4, w1], i + 1, a, T, by omega, rfl, hrp, hrq⟩
  | zero =>
    have c1 : ¬ (i : Int) < (d : Int) := by omega
    refine .inl ⟨(0, [.int .i64 cls, .int .i64 size, .ptr p 0, .ptr q 0], T), by simp only [zB, decide_true, decide_false, Bool.false_eq_true, if_false, if_true, List.getElem?_cons_zero, List.getElem?_cons_succ, beq_self_eq_true, bne_self_eq_false, Int.reduceBNe, Int.reduceBEq, Int.reduceLT, Int.reduceGT, Int.reduceLE, Int.reduceGE, Nat.reduceAdd, Nat.reduceMul, Nat.reduceLeDiff, hw, hd, c1], ?_⟩
    have o1 := vreadF_c hB 0 hrp cls size
    have key : ∀ T1, Fr T T1 [p] → BOut T1 q s a (readR s a cls size) (Cn Bk 10 f_spindleref20_Read 0 [.ptr q 0, .int .i64 cls, .int .i64 size] T1) := fun T1 f => rReadF_c hB 1 (hrq.fr f (by simp; omega)) cls size
    cases hrr : readR s a cls size with
    | error e =>
      rw [hrr] at o1
      obtain ⟨T1, e3, r3, f3⟩ := o1
      have o2 := key T1 f3
      rw [hrr] at o2
      obtain ⟨T2, e4, r4, f4⟩ := o2
      have e5 := equalInts_c hB 9 (S := T2) (a := .nils) (b := .nils) (l := []) (m := []) (d := 0) (d2 := 0) (.inl ⟨rfl, rfl⟩) (.inl ⟨rfl, rfl⟩) (by simp)
      have e6 := pos_c hB 9 (r3.fr f4 (by simp; omega))
      have e7 := pos1_c hB 9 r4
      refine ⟨T2, ?_⟩
      simp only [zB, decide_true, decide_false, Bool.false_eq_true, if_false, if_true, List.getElem?_cons_zero, List.getElem?_cons_succ, beq_self_eq_true, bne_self_eq_false, Int.reduceBNe, Int.reduceBEq, Int.reduceLT, Int.reduceGT, Int.reduceLE, Int.reduceGE, Nat.reduceAdd, Nat.reduceMul, Nat.reduceLeDiff, sel_0, e3, e4, e5, e6, e7, e0]
    | ok x =>
      obtain ⟨l, a'⟩ := x
      have hll := readR_len hrr
      rw [hrr] at o1
      obtain ⟨T1, e3, r3, f3⟩ := o1
      have o2 := key T1 f3
      rw [hrr] at o2
      obtain ⟨T2, e4, r4, f4⟩ := o2
      have e5 := equalInts_c hB 9 (isl_il T2 l 0) (isl_il T2 l 0) (by omega)
      have e6 := pos_c hB 9 (r3.fr f4 (by simp; omega))
      have e7 := pos1_c hB 9 r4
      refine ⟨T2, ?_⟩
      simp only [zB, decide_true, decide_false, Bool.false_eq_true, if_false, if_true, List.getElem?_cons_zero, List.getElem?_cons_succ, beq_self_eq_true, bne_self_eq_false, Int.reduceBNe, Int.reduceBEq, Int.reduceLT, Int.reduceGT, Int.reduceLE, Int.reduceGE, Nat.reduceAdd, Nat.reduceMul, Nat.reduceLeDiff, sel_0, e3, e4, e5, e6, e7, e0]
theorem vblockReads_law (xs : List AV) (h : argsOk Try.prog maxLen 16 Try.f15.params.toList xs) : ∃ (C : CallF) (S' : Heap), NOk Try.prog (fun _ => none) C ∧ C 15 0 xs S0 = some (.bool true, S') := by
  rw [Try.params15] at h
  obtain ⟨a, r, rfl, h1, b, r2, rfl, h2, c, r3, rfl, h3, d, r4, rfl, h4, rfl⟩ := h
  obtain ⟨s, rfl, hs⟩ := arg9 h1
  obtain ⟨sk, rfl, hsk⟩ := arg5 h2
  obtain ⟨cls, rfl, _⟩ := arg3 h3
  obtain ⟨size, rfl, _⟩ := arg3 h4
  obtain ⟨S', hS⟩ := reads20_law (s := s) hsk cls size
  exact ⟨Cn Bk 11, S', Cn_ok 11, hS⟩
end Go.Ab.tV
