/- What is known beforehand, for the statements of layer 16. -/
import Derived.Test.YtbmcdphiolidkaaDoorIJ4
set_option maxRecDepth 100000
set_option linter.unusedSimpArgs false
set_option linter.unusedVariables false
set_option linter.unusedSectionVars false
namespace Go.Ab.tNearU
open Go Go.Proofs

def numN : AV → Option Nat
  | .int .i64 (.ofNat p) => some p
  | _ => none
/-- The numbers of a kind, four bytes and a part that there is. -/
def ofCov : List AV → Option (Nat × Nat × Nat × Nat × Nat × Nat)
  | [.int .u8 (.ofNat k), .agg [.int .u8 (.ofNat a), .int .u8 (.ofNat b), .int .u8 (.ofNat c), .int .u8 (.ofNat d)], .int .i64 (.ofNat p)] => match Nat.blt p (rects k a b c d).length with
    | true => some (k, a, b, c, d, p)
    | false => none
  | _ => none
theorem ofCov_some {xs : List AV} {k a b c d p : Nat} (h : ofCov xs = some (k, a, b, c, d, p)) : xs = [.int .u8 (Int.ofNat k), subs a b c d, iN p] ∧ p < (rects k a b c d).length := by
  unfold ofCov at h
  split at h
  · split at h
    · rename_i hb
      cases h
      rw [Nat.blt_eq] at hb
      exact ⟨rfl, hb⟩
    · cases h
  · cases h
theorem cov_all {a : Nat} (ha : a < 4) : (four fun b => four fun c => four fun d => (List.range (rl6 a b c d).length).all fun p => isV (locC K2 f_kinds_Cover 0 [.int .u8 6, subs a b c d, iN p] S0) (covF 6 a b c d p)) = true := by
  have j : ∀ {p : Nat → Bool}, p 0 = true → p 1 = true → p 2 = true → p 3 = true → four p = true := fun h0 h1 h2 h3 => by simp only [four, h0, h1, h2, h3, Bool.and_self]
  match a, ha with
  | 0, _ => exact j cov_00 cov_01 cov_02 cov_03
  | 1, _ => exact j cov_10 cov_11 cov_12 cov_13
  | 2, _ => exact j cov_20 cov_21 cov_22 cov_23
  | 3, _ => exact j cov_30 cov_31 cov_32 cov_33
theorem cov_is {k a b c d p : Nat} (hp : p < (rects k a b c d).length) : isV (locC K2 f_kinds_Cover 0 [.int .u8 (Int.ofNat k), subs a b c d, iN p] S0) (covF k a b c d p) = true := by
  match k, hp with
  | 3, hp =>
    have : p = 0 := by have : p < 1 := hp; omega
    subst this
    exact cov_3 a b c d
  | 4, hp => exact List.all_eq_true.1 (cov_4 a b c d) p (List.mem_range.2 hp)
  | 5, hp => exact List.all_eq_true.1 (cov_5 a b c d) p (List.mem_range.2 hp)
  | 6, hp =>
    cases hv : (Nat.blt a 4 && Nat.blt b 4 && Nat.blt c 4 && Nat.blt d 4) with
    | true =>
      have hr : rects 6 a b c d = rl6 a b c d := by unfold rects; rw [hv]; rfl
      rw [hr] at hp
      simp only [Bool.and_eq_true, Nat.blt_eq] at hv
      exact List.all_eq_true.1 (four_lt (four_lt (four_lt (cov_all hv.1.1.1) hv.1.1.2) hv.1.2) hv.2) p (List.mem_range.2 hp)
    | false =>
      have hr : rects 6 a b c d = [] := by unfold rects; rw [hv]; rfl
      rw [hr] at hp; cases hp
  | 0, hp => cases hp
  | 1, hp => cases hp
  | 2, hp => cases hp
  | k + 7, hp => cases hp
def fnC : CallF := fun f way args S => match way with
  | 0 => (match Nat.beq f f_kinds_Cover with
    | true => (match ofCov args with | some x => some (covF x.1 x.2.1 x.2.2.1 x.2.2.2.1 x.2.2.2.2.1 x.2.2.2.2.2, S) | none => none)
    | false => none)
  | _ => none
theorem fnC_loc {f way : Nat} {args : List AV} {S : Heap} {r : AV × Heap} (h : fnC f way args S = some r) : f < yldId ∧ locC K2 f way args S = some r := by
  unfold fnC at h
  split at h
  · split at h
    · rename_i hb
      have hb := Nat.eq_of_beq_eq_true hb
      subst hb
      split at h
      · rename_i x hx
        cases h
        obtain ⟨rfl, h1⟩ := ofCov_some (k := x.1) (a := x.2.1) (b := x.2.2.1) (c := x.2.2.2.1) (d := x.2.2.2.2.1) (p := x.2.2.2.2.2) hx
        exact ⟨by decide, locC_any (cov_is h1) S⟩
      · cases h
    · cases h
  · cases h
theorem fnC_ok : NOk Tryd.prog Gk fnC := by
  have h0 := locC_ok noG K2_ok
  refine ⟨fun f way args S r hlt e => h0.ok _ _ _ _ _ hlt (fnC_loc e).2, fun f way args S hf => ?_⟩
  cases e : fnC f way args S with
  | none => rfl
  | some r => have := (fnC_loc e).1; omega
noncomputable def Bp : CallF := orC fnC (orC fnP Bq)
theorem Bp_ok : NOk Tryd.prog Gk Bp := orC_ok fnC_ok (orC_ok fnP_ok Bq_ok)
theorem fnC_no {f way : Nat} {args : List AV} {S : Heap} (h : Nat.beq f f_kinds_Cover = false) : fnC f way args S = none := by
  unfold fnC
  split
  · rw [h]
  · rfl
theorem fnP_no {f way : Nat} {args : List AV} {S : Heap} (h : Nat.beq f f_kinds_parts = false) : fnP f way args S = none := by
  unfold fnP
  split
  · rw [h]
  · rfl
theorem beqN {a b : Nat} (h : a ≠ b) : Nat.beq a b = false := by
  cases h' : Nat.beq a b with
  | false => rfl
  | true => exact absurd (Nat.eq_of_beq_eq_true h') h
theorem Bq_none {f way : Nat} {args : List AV} {S : Heap} (h : selF.contains f = false) : Bq f way args S = none := by
  unfold Bq
  split
  · rw [h]; rfl
  · rfl
theorem Bp_known : KnownP Bp where
  no := fun f way args S h => by
    have h1 : f ≠ f_kinds_Cover := fun he => by subst he; exact absurd h (by decide)
    have h2 : f ≠ f_kinds_parts := fun he => by subst he; exact absurd h (by decide)
    unfold Bp orC
    rw [fnC_no (beqN h1), fnP_no (beqN h2)]
    exact Bq_known.no f way args S h
  yes := fun f args S h => by
    have h1 : f ≠ f_kinds_Cover := fun he => by subst he; exact absurd h (by decide)
    have h2 : f ≠ f_kinds_parts := fun he => by subst he; exact absurd h (by decide)
    unfold Bp orC
    rw [fnC_no (beqN h1), fnP_no (beqN h2)]
    exact Bq_known.yes f args S h
  parts := fun args S => by
    unfold Bp orC
    rw [fnC_no (beqN (by decide))]
    have hq : Bq f_kinds_parts 0 args S = none := Bq_none (by decide)
    unfold fnP
    have hb : Nat.beq f_kinds_parts f_kinds_parts = true := rfl
    simp only [hb, hq]
    cases ofSubs args <;> rfl
  cov := fun {k a b c d p} S hp => by
    unfold Bp orC fnC
    have hb : Nat.beq f_kinds_Cover f_kinds_Cover = true := rfl
    have hbl : Nat.blt p (rects k a b c d).length = true := by rw [Nat.blt_eq]; exact hp
    have ho : ofCov [.int .u8 (Int.ofNat k), subs a b c d, iN p] = some (k, a, b, c, d, p) := by
      show (match Nat.blt p (rects k a b c d).length with | true => some (k, a, b, c, d, p) | false => none) = _
      rw [hbl]
    simp only [hb, ho]
theorem Cp_ok (k : Nat) : NOk Tryd.prog Gk (Cn Bp k) := callN_ok (rngC_ok ctlW_ok) mixed noG An Bp_ok k
end Go.Ab.tNearU
