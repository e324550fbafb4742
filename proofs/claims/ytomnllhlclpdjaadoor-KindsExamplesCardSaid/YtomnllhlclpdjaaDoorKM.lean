/- The parts of a macroblock whose quarters are divided: both sides' lists, for all 256 ways. Computed by the kernel; no condition. -/
import Derived.Test.YtomnllhlclpdjaaDoorKA
set_option maxRecDepth 100000
set_option linter.unusedSimpArgs false
set_option linter.unusedVariables false
namespace Go.Ab.tK
open Go Go.Proofs

/-- The parts of a quarter: column, row, width, height. -/
def qR : Nat → List (Nat × Nat × Nat × Nat)
  | 0 => [(0, 0, 2, 2)]
  | 1 => [(0, 0, 2, 1), (0, 1, 2, 1)]
  | 2 => [(0, 0, 1, 2), (1, 0, 1, 2)]
  | _ => [(0, 0, 1, 1), (1, 0, 1, 1), (0, 1, 1, 1), (1, 1, 1, 1)]
def iN (n : Nat) : AV := .int .i64 (Int.ofNat n)
def qC (q s : Nat) (l : List AV) : List AV := (qR s).foldr (fun r l => iN (r.1 + 2 * (q % 2)) :: iN (r.2.1 + 2 * (q / 2)) :: iN r.2.2.1 :: iN r.2.2.2 :: iN q :: l) l
def bl (x y w h : Nat) : List AV := (List.range 16).foldr (fun k l => match Nat.ble x (k % 2 + 2 * (k / 4 % 2)) && Nat.blt (k % 2 + 2 * (k / 4 % 2)) (x + w) && Nat.ble y (k / 2 % 2 + 2 * (k / 8)) && Nat.blt (k / 2 % 2 + 2 * (k / 8)) (y + h) with
  | true => iN k :: l
  | false => l) []
def isL (l : List AV) : AV := .is l.length l
def qP (q s : Nat) (l : List AV) : List AV := (qR s).foldr (fun r l => iN q :: isL (bl (r.1 + 2 * (q % 2)) (r.2.1 + 2 * (q / 2)) r.2.2.1 r.2.2.2) :: l) l
def num (a b c d : Nat) : Nat := (qR a).length + (qR b).length + (qR c).length + (qR d).length
def partsV (a b c d : Nat) : AV := .tup [.is (num a b c d) (qC 0 a (qC 1 b (qC 2 c (qC 3 d [])))), .int .i64 0]
def allV (a b c d : Nat) : AV := .tup [.is (num a b c d) (qP 0 a (qP 1 b (qP 2 c (qP 3 d [])))), .int .i64 0]
def subs (a b c d : Nat) : AV := .agg [.int .u8 (Int.ofNat a), .int .u8 (Int.ofNat b), .int .u8 (Int.ofNat c), .int .u8 (Int.ofNat d)]
def four (p : Nat → Bool) : Bool := p 0 && p 1 && p 2 && p 3
theorem four_lt {p : Nat → Bool} (h : four p = true) {a : Nat} (ha : a < 4) : p a = true := by
  simp only [four, Bool.and_eq_true] at h
  match a, ha with
  | 0, _ => exact h.1.1.1
  | 1, _ => exact h.1.1.2
  | 2, _ => exact h.1.2
  | 3, _ => exact h.2
theorem parts_all : (four fun a => four fun b => four fun c => four fun d => isV (locC C1 f_kinds_parts 0 [.int .u8 6, subs a b c d] S0) (partsV a b c d)) = true := by kernel_rfl
theorem all_all : (four fun a => four fun b => four fun c => four fun d => isV (locC C1 f_spindleref12_All 0 [.int .u8 6, subs a b c d] S0) (allV a b c d)) = true := by kernel_rfl
/-- The numbers of a list of four bytes below four. -/
def ofSubs : List AV → Option (Nat × Nat × Nat × Nat)
  | [.int .u8 (.ofNat 6), .agg [.int .u8 (.ofNat a), .int .u8 (.ofNat b), .int .u8 (.ofNat c), .int .u8 (.ofNat d)]] => match Nat.blt a 4 && Nat.blt b 4 && Nat.blt c 4 && Nat.blt d 4 with
    | true => some (a, b, c, d)
    | false => none
  | _ => none
theorem ofSubs_some {xs : List AV} {a b c d : Nat} (h : ofSubs xs = some (a, b, c, d)) : xs = [.int .u8 6, subs a b c d] ∧ a < 4 ∧ b < 4 ∧ c < 4 ∧ d < 4 := by
  unfold ofSubs at h
  split at h
  · split at h
    · rename_i hb
      cases h
      simp only [Bool.and_eq_true, Nat.blt_eq] at hb
      exact ⟨rfl, hb.1.1.1, hb.1.1.2, hb.1.2, hb.2⟩
    · cases h
  · cases h
def fn2 : CallF := fun f way args S => match way with
  | 0 => (match Nat.beq f f_kinds_parts with
    | true => (match ofSubs args with | some x => some (partsV x.1 x.2.1 x.2.2.1 x.2.2.2, S) | none => none)
    | false => (match Nat.beq f f_spindleref12_All with
      | true => (match ofSubs args with | some x => some (allV x.1 x.2.1 x.2.2.1 x.2.2.2, S) | none => none)
      | false => none))
  | _ => none
theorem fn2_loc {f way : Nat} {args : List AV} {S : Heap} {r : AV × Heap} (h : fn2 f way args S = some r) : f < yldId ∧ locC C1 f way args S = some r := by
  unfold fn2 at h
  split at h
  · split at h
    · rename_i hb
      have hb := Nat.eq_of_beq_eq_true hb
      subst hb
      split at h
      · rename_i x hx
        cases h
        obtain ⟨rfl, h1, h2, h3, h4⟩ := ofSubs_some (a := x.1) (b := x.2.1) (c := x.2.2.1) (d := x.2.2.2) hx
        exact ⟨by decide, locC_any (four_lt (four_lt (four_lt (four_lt parts_all h1) h2) h3) h4) S⟩
      · cases h
    · split at h
      · rename_i hb
        have hb := Nat.eq_of_beq_eq_true hb
        subst hb
        split at h
        · rename_i x hx
          cases h
          obtain ⟨rfl, h1, h2, h3, h4⟩ := ofSubs_some (a := x.1) (b := x.2.1) (c := x.2.2.1) (d := x.2.2.2) hx
          exact ⟨by decide, locC_any (four_lt (four_lt (four_lt (four_lt all_all h1) h2) h3) h4) S⟩
        · cases h
      · cases h
  · cases h
theorem fn2_ok : NOk Tryd.prog Gk fn2 := by
  have h0 := locC_ok noG C1_ok
  refine ⟨fun f way args S r hlt e => h0.ok _ _ _ _ _ hlt (fn2_loc e).2, fun f way args S hf => ?_⟩
  cases e : fn2 f way args S with
  | none => rfl
  | some r => have := (fn2_loc e).1; omega
/-- Calls as the kernel computes them, with the lists of parts known. -/
noncomputable def C2 : CallF := tabB (rows (ctlF 300)) (orC fn2 B1) 40
theorem C2_ok : NOk Tryd.prog Gk C2 := tabB_ok (rngC_ok (ctlF_ok 300)) mixed _ (orC_ok fn2_ok B1_ok) 40
theorem Cs2_ok (fs : List Nat) (k : Nat) : NOk Tryd.prog Gk (Cn (selC fs C2) k) := callN_ok (rngC_ok ctlV_ok) mixed noG An (selC_ok fs C2_ok) k
def isT (r : Option (AV × Heap)) : Bool := match r with | some (.bool true, _) => true | _ => false
theorem isT_of {r : Option (AV × Heap)} (h : isT r = true) : ∃ S', r = some (.bool true, S') := by
  unfold isT at h
  split at h
  · exact ⟨_, rfl⟩
  · cases h
end Go.Ab.tK
