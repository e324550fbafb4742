/- The class of a block: the program's side. -/
import Derived.Test.YtbmcdphiolidkaaDoorIW6
set_option maxRecDepth 100000
set_option linter.unusedSimpArgs false
set_option linter.unusedVariables false
set_option linter.unusedSectionVars false
namespace Go.Ab.tNearU
open Go Go.Proofs

-- places
def bk (x y : Nat) : Nat := x % 2 + x / 2 * 4 + y % 2 * 2 + y / 2 * 8
/-- The block nearby, and whether it is in the same macroblock. -/
def stp (ch ab : Bool) (k : Nat) : Nat × Bool := match ch, ab with
  | true, true => cond (Nat.blt 1 k) (k - 2, true) (k + 2, false)
  | true, false => cond (Nat.beq (k % 2) 1) (k - 1, true) (k + 1, false)
  | false, true => (bk (k % 2 + k / 4 % 2 * 2) ((k / 2 % 2 + k / 8 * 2 + 3) % 4), Nat.blt 0 (k / 2 % 2 + k / 8 * 2))
  | false, false => (bk ((k % 2 + k / 4 % 2 * 2 + 3) % 4) (k / 2 % 2 + k / 8 * 2), Nat.blt 0 (k % 2 + k / 4 % 2 * 2))
def stpA (ch ab : Bool) (k : Nat) : AV := .tup [.int .i64 (Int.ofNat (stp ch ab k).1), .bool (stp ch ab k).2, .int .i64 0]
theorem noId_stpA (ch ab : Bool) (k : Nat) : noId (stpA ch ab k) = true := rfl
theorem pl_l : ((List.range 16).all fun k => isB (C1 f_place_Left 0 [.int .i64 (Int.ofNat k)] S0) (stpA false false k) && isB (C1 f_spindleref11_Left 0 [.int .i64 (Int.ofNat k)] S0) (stpA false false k)) = true := by kernel_rfl
theorem pl_a : ((List.range 16).all fun k => isB (C1 f_place_Above 0 [.int .i64 (Int.ofNat k)] S0) (stpA false true k) && isB (C1 f_spindleref11_Above 0 [.int .i64 (Int.ofNat k)] S0) (stpA false true k)) = true := by kernel_rfl
theorem pl_cl : ((List.range 4).all fun k => isB (C1 f_place_ChLeft 0 [.int .i64 (Int.ofNat k)] S0) (stpA true false k) && isB (C1 f_place_ChLeft 0 [.int .i64 (Int.ofNat k)] S0) (stpA true false k)) = true := by kernel_rfl
theorem pl_ca : ((List.range 4).all fun k => isB (C1 f_place_ChAbove 0 [.int .i64 (Int.ofNat k)] S0) (stpA true true k) && isB (C1 f_place_ChAbove 0 [.int .i64 (Int.ofNat k)] S0) (stpA true true k)) = true := by kernel_rfl
section
variable {B : CallF} (hB : Known B) (k : Nat)
include hB
theorem place_l {j : Nat} (hj : j < 16) (S : Heap) : Cn B k f_place_Left 0 [.int .i64 (j : Int)] S = some (stpA false false j, S) ∧ Cn B k f_spindleref11_Left 0 [.int .i64 (j : Int)] S = some (stpA false false j, S) := by
  have h := List.all_eq_true.1 pl_l j (List.mem_range.2 hj)
  rw [Bool.and_eq_true] at h
  exact ⟨known_sel hB rfl rfl (noId_stpA _ _ _) (isB_of h.1) k S, known_sel hB rfl rfl (noId_stpA _ _ _) (isB_of h.2) k S⟩
theorem place_a {j : Nat} (hj : j < 16) (S : Heap) : Cn B k f_place_Above 0 [.int .i64 (j : Int)] S = some (stpA false true j, S) ∧ Cn B k f_spindleref11_Above 0 [.int .i64 (j : Int)] S = some (stpA false true j, S) := by
  have h := List.all_eq_true.1 pl_a j (List.mem_range.2 hj)
  rw [Bool.and_eq_true] at h
  exact ⟨known_sel hB rfl rfl (noId_stpA _ _ _) (isB_of h.1) k S, known_sel hB rfl rfl (noId_stpA _ _ _) (isB_of h.2) k S⟩
theorem place_cl {j : Nat} (hj : j < 4) (S : Heap) : Cn B k f_place_ChLeft 0 [.int .i64 (j : Int)] S = some (stpA true false j, S) ∧ Cn B k f_place_ChLeft 0 [.int .i64 (j : Int)] S = some (stpA true false j, S) := by
  have h := List.all_eq_true.1 pl_cl j (List.mem_range.2 hj)
  rw [Bool.and_eq_true] at h
  exact ⟨known_sel hB rfl rfl (noId_stpA _ _ _) (isB_of h.1) k S, known_sel hB rfl rfl (noId_stpA _ _ _) (isB_of h.2) k S⟩
theorem place_ca {j : Nat} (hj : j < 4) (S : Heap) : Cn B k f_place_ChAbove 0 [.int .i64 (j : Int)] S = some (stpA true true j, S) ∧ Cn B k f_place_ChAbove 0 [.int .i64 (j : Int)] S = some (stpA true true j, S) := by
  have h := List.all_eq_true.1 pl_ca j (List.mem_range.2 hj)
  rw [Bool.and_eq_true] at h
  exact ⟨known_sel hB rfl rfl (noId_stpA _ _ _) (isB_of h.1) k S, known_sel hB rfl rfl (noId_stpA _ _ _) (isB_of h.2) k S⟩
end
theorem stp_lt : ∀ ab : Bool, ∀ k, k < 16 → (stp false ab k).1 < 16 := by decide
theorem stp_lt4 : ∀ ab : Bool, ∀ k, k < 4 → (stp true ab k).1 < 4 := by decide

-- one direction
def isCh (c : Cd) : Bool := Nat.beq c.1 4
def dOf (ch : Bool) (c : Cd) (j : Nat) : Cd := match ch with
  | true => (4, c.2.1, j)
  | false => (2, 0, j)
def lookd (m : M) (nb : M × Bool) (ab : Bool) (c : Cd) : Option Nat :=
  match (stp (isCh c) ab c.2.2).2 with
  | true => some (tot m (dOf (isCh c) c (stp (isCh c) ab c.2.2).1))
  | false => match nb.2 with
    | true => some (tot nb.1 (dOf (isCh c) c (stp (isCh c) ab c.2.2).1))
    | false => none
theorem tot_le {m : M} (hg : Good 1000 m) (c : Cd) : tot m c ≤ 1000 := by
  unfold tot
  split
  · omega
  · split
    · omega
    · have hrw := coef_good hg c
      obtain ⟨n, q1, q2, q3, q4⟩ := len25 hrw (by omega)
      have := nz_le hrw n
      unfold nz
      rw [List.take_of_length_le (by omega)] at this
      omega
theorem lookd_le {m : M} {nb : M × Bool} (hg : Good 1000 m) (gn : Good 1000 nb.1) {ab : Bool} {c : Cd} {x : Nat} (h : lookd m nb ab c = some x) : x ≤ 1000 := by
  unfold lookd at h
  split at h
  · cases h; exact tot_le hg _
  · split at h
    · cases h; exact tot_le gn _
    · cases h
theorem putV_1 {S : Heap} {i : Nat} {x y : AV} (h : S.blk i = some [y]) : putV (.ptr i 0) [x] S = some (S.set i (some [x])) := by simp [putV, h, setCells]
def addL (T : Heap) (pt ps t s : Nat) : Option Nat → Heap
  | none => T
  | some x => (T.set pt (some [.int .i64 ((t + 1 : Nat) : Int)])).set ps (some [.int .i64 ((s + x : Nat) : Int)])
/-- A block that is coded somewhere. -/
def CdEx (c : Cd) : Prop := CdOk c ∧ exF c.1 c.2.1 c.2.2 = true
theorem CdEx.ch {c : Cd} (h : CdEx c) (hc : isCh c = true) : c.2.2 < 4 := by
  obtain ⟨a, b, k⟩ := c
  have ha : a = 4 := Nat.eq_of_beq_eq_true hc
  subst ha
  have := h.2
  simp only [exF, Bool.and_eq_true, Nat.blt_eq] at this
  exact this.2
end Go.Ab.tNearU
