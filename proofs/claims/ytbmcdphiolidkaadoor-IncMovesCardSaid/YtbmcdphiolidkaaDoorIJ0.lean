/- The parts of a macroblock: what both sides' lists are, computed by the kernel; no condition. -/
import Derived.Test.YtbmcdphiolidkaaDoorIW0
set_option maxRecDepth 100000
set_option linter.unusedSimpArgs false
set_option linter.unusedVariables false
namespace Go.Ab.tNearU
open Go Go.Proofs

def memo0 : Memo := [(f_place_Block, [([.int .i64 0, .int .i64 0], .tup [.int .i64 0, .int .i64 0]), ([.int .i64 0, .int .i64 1], .tup [.int .i64 2, .int .i64 0]), ([.int .i64 0, .int .i64 2], .tup [.int .i64 8, .int .i64 0]), ([.int .i64 0, .int .i64 3], .tup [.int .i64 10, .int .i64 0]), ([.int .i64 1, .int .i64 0], .tup [.int .i64 1, .int .i64 0]), ([.int .i64 1, .int .i64 1], .tup [.int .i64 3, .int .i64 0]), ([.int .i64 1, .int .i64 2], .tup [.int .i64 9, .int .i64 0]), ([.int .i64 1, .int .i64 3], .tup [.int .i64 11, .int .i64 0]), ([.int .i64 2, .int .i64 0], .tup [.int .i64 4, .int .i64 0]), ([.int .i64 2, .int .i64 1], .tup [.int .i64 6, .int .i64 0]), ([.int .i64 2, .int .i64 2], .tup [.int .i64 12, .int .i64 0]), ([.int .i64 2, .int .i64 3], .tup [.int .i64 14, .int .i64 0]), ([.int .i64 3, .int .i64 0], .tup [.int .i64 5, .int .i64 0]), ([.int .i64 3, .int .i64 1], .tup [.int .i64 7, .int .i64 0]), ([.int .i64 3, .int .i64 2], .tup [.int .i64 13, .int .i64 0]), ([.int .i64 3, .int .i64 3], .tup [.int .i64 15, .int .i64 0])]), (f_spindleref12_within, [([.int .i64 0, .int .i64 0, .int .i64 1, .int .i64 1], .is 1 [.int .i64 0]), ([.int .i64 0, .int .i64 0, .int .i64 1, .int .i64 2], .is 2 [.int .i64 0, .int .i64 2]), ([.int .i64 0, .int .i64 0, .int .i64 2, .int .i64 1], .is 2 [.int .i64 0, .int .i64 1]), ([.int .i64 0, .int .i64 0, .int .i64 2, .int .i64 2], .is 4 [.int .i64 0, .int .i64 1, .int .i64 2, .int .i64 3]), ([.int .i64 0, .int .i64 0, .int .i64 2, .int .i64 4], .is 8 [.int .i64 0, .int .i64 1, .int .i64 2, .int .i64 3, .int .i64 8, .int .i64 9, .int .i64 10, .int .i64 11]), ([.int .i64 0, .int .i64 0, .int .i64 4, .int .i64 2], .is 8 [.int .i64 0, .int .i64 1, .int .i64 2, .int .i64 3, .int .i64 4, .int .i64 5, .int .i64 6, .int .i64 7]), ([.int .i64 0, .int .i64 0, .int .i64 4, .int .i64 4], .is 16 [.int .i64 0, .int .i64 1, .int .i64 2, .int .i64 3, .int .i64 4, .int .i64 5, .int .i64 6, .int .i64 7, .int .i64 8, .int .i64 9, .int .i64 10, .int .i64 11, .int .i64 12, .int .i64 13, .int .i64 14, .int .i64 15]), ([.int .i64 0, .int .i64 1, .int .i64 1, .int .i64 1], .is 1 [.int .i64 2]), ([.int .i64 0, .int .i64 1, .int .i64 2, .int .i64 1], .is 2 [.int .i64 2, .int .i64 3]), ([.int .i64 0, .int .i64 2, .int .i64 1, .int .i64 1], .is 1 [.int .i64 8]), ([.int .i64 0, .int .i64 2, .int .i64 1, .int .i64 2], .is 2 [.int .i64 8, .int .i64 10]), ([.int .i64 0, .int .i64 2, .int .i64 2, .int .i64 1], .is 2 [.int .i64 8, .int .i64 9]), ([.int .i64 0, .int .i64 2, .int .i64 2, .int .i64 2], .is 4 [.int .i64 8, .int .i64 9, .int .i64 10, .int .i64 11]), ([.int .i64 0, .int .i64 2, .int .i64 4, .int .i64 2], .is 8 [.int .i64 8, .int .i64 9, .int .i64 10, .int .i64 11, .int .i64 12, .int .i64 13, .int .i64 14, .int .i64 15]), ([.int .i64 0, .int .i64 3, .int .i64 1, .int .i64 1], .is 1 [.int .i64 10]), ([.int .i64 0, .int .i64 3, .int .i64 2, .int .i64 1], .is 2 [.int .i64 10, .int .i64 11]), ([.int .i64 1, .int .i64 0, .int .i64 1, .int .i64 1], .is 1 [.int .i64 1]), ([.int .i64 1, .int .i64 0, .int .i64 1, .int .i64 2], .is 2 [.int .i64 1, .int .i64 3]), ([.int .i64 1, .int .i64 1, .int .i64 1, .int .i64 1], .is 1 [.int .i64 3]), ([.int .i64 1, .int .i64 2, .int .i64 1, .int .i64 1], .is 1 [.int .i64 9]), ([.int .i64 1, .int .i64 2, .int .i64 1, .int .i64 2], .is 2 [.int .i64 9, .int .i64 11]), ([.int .i64 1, .int .i64 3, .int .i64 1, .int .i64 1], .is 1 [.int .i64 11]), ([.int .i64 2, .int .i64 0, .int .i64 1, .int .i64 1], .is 1 [.int .i64 4]), ([.int .i64 2, .int .i64 0, .int .i64 1, .int .i64 2], .is 2 [.int .i64 4, .int .i64 6]), ([.int .i64 2, .int .i64 0, .int .i64 2, .int .i64 1], .is 2 [.int .i64 4, .int .i64 5]), ([.int .i64 2, .int .i64 0, .int .i64 2, .int .i64 2], .is 4 [.int .i64 4, .int .i64 5, .int .i64 6, .int .i64 7]), ([.int .i64 2, .int .i64 0, .int .i64 2, .int .i64 4], .is 8 [.int .i64 4, .int .i64 5, .int .i64 6, .int .i64 7, .int .i64 12, .int .i64 13, .int .i64 14, .int .i64 15]), ([.int .i64 2, .int .i64 1, .int .i64 1, .int .i64 1], .is 1 [.int .i64 6]), ([.int .i64 2, .int .i64 1, .int .i64 2, .int .i64 1], .is 2 [.int .i64 6, .int .i64 7]), ([.int .i64 2, .int .i64 2, .int .i64 1, .int .i64 1], .is 1 [.int .i64 12]), ([.int .i64 2, .int .i64 2, .int .i64 1, .int .i64 2], .is 2 [.int .i64 12, .int .i64 14]), ([.int .i64 2, .int .i64 2, .int .i64 2, .int .i64 1], .is 2 [.int .i64 12, .int .i64 13]), ([.int .i64 2, .int .i64 2, .int .i64 2, .int .i64 2], .is 4 [.int .i64 12, .int .i64 13, .int .i64 14, .int .i64 15]), ([.int .i64 2, .int .i64 3, .int .i64 1, .int .i64 1], .is 1 [.int .i64 14]), ([.int .i64 2, .int .i64 3, .int .i64 2, .int .i64 1], .is 2 [.int .i64 14, .int .i64 15]), ([.int .i64 3, .int .i64 0, .int .i64 1, .int .i64 1], .is 1 [.int .i64 5]), ([.int .i64 3, .int .i64 0, .int .i64 1, .int .i64 2], .is 2 [.int .i64 5, .int .i64 7]), ([.int .i64 3, .int .i64 1, .int .i64 1, .int .i64 1], .is 1 [.int .i64 7]), ([.int .i64 3, .int .i64 2, .int .i64 1, .int .i64 1], .is 1 [.int .i64 13]), ([.int .i64 3, .int .i64 2, .int .i64 1, .int .i64 2], .is 2 [.int .i64 13, .int .i64 15]), ([.int .i64 3, .int .i64 3, .int .i64 1, .int .i64 1], .is 1 [.int .i64 15])])]
theorem chk0 : chkM (tabN (rows (ctlF 100)) 40) memo0 = true := by kernel_rfl
noncomputable def K1 : CallF := tabB (rows (ctlF 300)) (memoC memo0) 40
theorem K0_ok : NOk Tryd.prog Gk (memoC memo0) := memoC_ok noG (tabN_ok (rngC_ok (ctlF_ok 100)) mixed _ 40) chk0
theorem K1_ok : NOk Tryd.prog Gk K1 := tabB_ok (rngC_ok (ctlF_ok 300)) mixed _ K0_ok 40
/-- The parts of a quarter: column, row, width, height. -/
abbrev R4 := Nat × Nat × Nat × Nat
def qR : Nat → List R4
  | 0 => [(0, 0, 2, 2)]
  | 1 => [(0, 0, 2, 1), (0, 1, 2, 1)]
  | 2 => [(0, 0, 1, 2), (1, 0, 1, 2)]
  | _ => [(0, 0, 1, 1), (1, 0, 1, 1), (0, 1, 1, 1), (1, 1, 1, 1)]
def iN (n : Nat) : AV := .int .i64 (Int.ofNat n)
def qL (q s : Nat) : List R4 := (qR s).map fun r => (r.1 + 2 * (q % 2), r.2.1 + 2 * (q / 2), r.2.2.1, r.2.2.2)
def qC (q : Nat) : List R4 → List AV → List AV
  | [], l => l
  | r :: rs, l => iN r.1 :: iN r.2.1 :: iN r.2.2.1 :: iN r.2.2.2 :: iN q :: qC q rs l
def blN (r : R4) : List Nat := (List.range 16).filter fun k => Nat.ble r.1 (k % 2 + 2 * (k / 4 % 2)) && Nat.blt (k % 2 + 2 * (k / 4 % 2)) (r.1 + r.2.2.1) && Nat.ble r.2.1 (k / 2 % 2 + 2 * (k / 8)) && Nat.blt (k / 2 % 2 + 2 * (k / 8)) (r.2.1 + r.2.2.2)
def isN (l : List Nat) : AV := .is l.length (l.map iN)
def rl6 (a b c d : Nat) : List R4 := qL 0 a ++ (qL 1 b ++ (qL 2 c ++ qL 3 d))
def rc6 (a b c d : Nat) : List AV := qC 0 (qL 0 a) (qC 1 (qL 1 b) (qC 2 (qL 2 c) (qC 3 (qL 3 d) [])))
def subs (a b c d : Nat) : AV := .agg [.int .u8 (Int.ofNat a), .int .u8 (Int.ofNat b), .int .u8 (Int.ofNat c), .int .u8 (Int.ofNat d)]
def four (p : Nat → Bool) : Bool := p 0 && p 1 && p 2 && p 3
theorem four_lt {p : Nat → Bool} (h : four p = true) {a : Nat} (ha : a < 4) : p a = true := by
  simp only [four, Bool.and_eq_true] at h
  match a, ha with
  | 0, _ => exact h.1.1.1
  | 1, _ => exact h.1.1.2
  | 2, _ => exact h.1.2
  | 3, _ => exact h.2
/-- What the list of parts is. -/
def partsF (kind a b c d : Nat) : AV := match kind with
  | 3 => .tup [.is 1 (qC 0 [(0, 0, 4, 4)] []), .int .i64 0]
  | 4 => .tup [.is 2 (qC 0 [(0, 0, 4, 2)] (qC 1 [(0, 2, 4, 2)] [])), .int .i64 0]
  | 5 => .tup [.is 2 (qC 0 [(0, 0, 2, 4)] (qC 1 [(2, 0, 2, 4)] [])), .int .i64 0]
  | 6 => match Nat.blt a 4 && Nat.blt b 4 && Nat.blt c 4 && Nat.blt d 4 with
    | true => .tup [.is (rl6 a b c d).length (rc6 a b c d), .int .i64 0]
    | false => .tup [.nils, .int .i64 3]
  | _ => .tup [.nils, .int .i64 9]
theorem parts_6 : (four fun a => four fun b => four fun c => four fun d => isV (locC K1 f_kinds_parts 0 [.int .u8 6, subs a b c d] S0) (partsF 6 a b c d)) = true := by kernel_rfl
theorem parts_k (a b c d : Nat) : ((List.range 256).all fun k => Nat.beq k 6 || isV (locC K1 f_kinds_parts 0 [.int .u8 (Int.ofNat k), subs a b c d] S0) (partsF k a b c d)) = true := by kernel_rfl
/-- The numbers of a kind and four bytes. -/
def ofSubs : List AV → Option (Nat × Nat × Nat × Nat × Nat)
  | [.int .u8 (.ofNat k), .agg [.int .u8 (.ofNat a), .int .u8 (.ofNat b), .int .u8 (.ofNat c), .int .u8 (.ofNat d)]] => match Nat.blt k 256 && (!Nat.beq k 6 || (Nat.blt a 4 && Nat.blt b 4 && Nat.blt c 4 && Nat.blt d 4)) with
    | true => some (k, a, b, c, d)
    | false => none
  | _ => none
theorem ofSubs_some {xs : List AV} {k a b c d : Nat} (h : ofSubs xs = some (k, a, b, c, d)) : xs = [.int .u8 (Int.ofNat k), subs a b c d] ∧ k < 256 ∧ (k = 6 → a < 4 ∧ b < 4 ∧ c < 4 ∧ d < 4) := by
  unfold ofSubs at h
  split at h
  · split at h
    · rename_i hb
      cases h
      simp only [Bool.and_eq_true, Nat.blt_eq, Bool.or_eq_true, Bool.not_eq_true'] at hb
      refine ⟨rfl, hb.1, fun h6 => ?_⟩
      subst h6
      rcases hb.2 with h | h
      · cases h
      · exact ⟨h.1.1.1, h.1.1.2, h.1.2, h.2⟩
    · cases h
  · cases h
theorem parts_is {k a b c d : Nat} (hk : k < 256) (h6 : k = 6 → a < 4 ∧ b < 4 ∧ c < 4 ∧ d < 4) : isV (locC K1 f_kinds_parts 0 [.int .u8 (Int.ofNat k), subs a b c d] S0) (partsF k a b c d) = true := by
  have h := List.all_eq_true.1 (parts_k a b c d) k (List.mem_range.2 hk)
  rw [Bool.or_eq_true] at h
  rcases h with h | h
  · have := Nat.eq_of_beq_eq_true h
    subst this
    obtain ⟨h1, h2, h3, h4⟩ := h6 rfl
    exact four_lt (four_lt (four_lt (four_lt parts_6 h1) h2) h3) h4
  · exact h
def fnP : CallF := fun f way args S => match way with
  | 0 => (match Nat.beq f f_kinds_parts with
    | true => (match ofSubs args with | some x => some (partsF x.1 x.2.1 x.2.2.1 x.2.2.2.1 x.2.2.2.2, S) | none => none)
    | false => none)
  | _ => none
theorem fnP_loc {f way : Nat} {args : List AV} {S : Heap} {r : AV × Heap} (h : fnP f way args S = some r) : f < yldId ∧ locC K1 f way args S = some r := by
  unfold fnP at h
  split at h
  · split at h
    · rename_i hb
      have hb := Nat.eq_of_beq_eq_true hb
      subst hb
      split at h
      · rename_i x hx
        cases h
        obtain ⟨rfl, h1, h2⟩ := ofSubs_some (k := x.1) (a := x.2.1) (b := x.2.2.1) (c := x.2.2.2.1) (d := x.2.2.2.2) hx
        exact ⟨by decide, locC_any (parts_is h1 h2) S⟩
      · cases h
    · cases h
  · cases h
theorem fnP_ok : NOk Tryd.prog Gk fnP := by
  have h0 := locC_ok noG K1_ok
  refine ⟨fun f way args S r hlt e => h0.ok _ _ _ _ _ hlt (fnP_loc e).2, fun f way args S hf => ?_⟩
  cases e : fnP f way args S with
  | none => rfl
  | some r => have := (fnP_loc e).1; omega
/-- Calls as the kernel computes them, with the lists of parts known. -/
noncomputable def K2 : CallF := tabB (rows (ctlF 300)) (orC fnP (memoC memo0)) 40
theorem K2_ok : NOk Tryd.prog Gk K2 := tabB_ok (rngC_ok (ctlF_ok 300)) mixed _ (orC_ok fnP_ok K0_ok) 40
def rects (k a b c d : Nat) : List R4 := match k with
  | 3 => [(0, 0, 4, 4)]
  | 4 => [(0, 0, 4, 2), (0, 2, 4, 2)]
  | 5 => [(0, 0, 2, 4), (2, 0, 2, 4)]
  | 6 => match Nat.blt a 4 && Nat.blt b 4 && Nat.blt c 4 && Nat.blt d 4 with
    | true => rl6 a b c d
    | false => []
  | _ => []
def covB (k a b c d p : Nat) : List Nat := match (rects k a b c d)[p]? with
  | some r => blN r
  | none => []
def covF (k a b c d p : Nat) : AV := .tup [isN (covB k a b c d p), .int .i64 0]
theorem cov_3 (a b c d : Nat) : isV (locC K2 f_kinds_Cover 0 [.int .u8 3, subs a b c d, iN 0] S0) (covF 3 a b c d 0) = true := by kernel_rfl
theorem cov_4 (a b c d : Nat) : ((List.range 2).all fun p => isV (locC K2 f_kinds_Cover 0 [.int .u8 4, subs a b c d, iN p] S0) (covF 4 a b c d p)) = true := by kernel_rfl
theorem cov_5 (a b c d : Nat) : ((List.range 2).all fun p => isV (locC K2 f_kinds_Cover 0 [.int .u8 5, subs a b c d, iN p] S0) (covF 5 a b c d p)) = true := by kernel_rfl
end Go.Ab.tNearU
