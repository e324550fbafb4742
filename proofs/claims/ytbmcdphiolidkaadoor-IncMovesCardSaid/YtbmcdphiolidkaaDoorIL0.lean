/- The reference's list of parts: what it is, computed by the kernel; no condition. -/
import Derived.Test.YtbmcdphiolidkaaDoorIJ0
set_option maxRecDepth 100000
set_option linter.unusedSimpArgs false
set_option linter.unusedVariables false
namespace Go.Ab.tNearU
open Go Go.Proofs

def aC (q : Nat) : List R4 → List AV → List AV
  | [], l => l
  | r :: rs, l => iN q :: isN (blN r) :: aC q rs l
def ac6 (a b c d : Nat) : List AV := aC 0 (qL 0 a) (aC 1 (qL 1 b) (aC 2 (qL 2 c) (aC 3 (qL 3 d) [])))
def allF (kind a b c d : Nat) : AV := match kind with
  | 3 => .tup [.is 1 (aC 0 [(0, 0, 4, 4)] []), .int .i64 0]
  | 4 => .tup [.is 2 (aC 0 [(0, 0, 4, 2)] (aC 1 [(0, 2, 4, 2)] [])), .int .i64 0]
  | 5 => .tup [.is 2 (aC 0 [(0, 0, 2, 4)] (aC 1 [(2, 0, 2, 4)] [])), .int .i64 0]
  | 6 => match Nat.blt a 4 && Nat.blt b 4 && Nat.blt c 4 && Nat.blt d 4 with
    | true => .tup [.is (rl6 a b c d).length (ac6 a b c d), .int .i64 0]
    | false => .tup [.nils, .int .i64 3]
  | _ => .tup [.nils, .int .i64 9]
theorem all_6 : (four fun a => four fun b => four fun c => four fun d => isV (locC K1 f_spindleref12_All 0 [.int .u8 6, subs a b c d] S0) (allF 6 a b c d)) = true := by kernel_rfl
theorem all_k (a b c d : Nat) : ((List.range 256).all fun k => Nat.beq k 6 || isV (locC K1 f_spindleref12_All 0 [.int .u8 (Int.ofNat k), subs a b c d] S0) (allF k a b c d)) = true := by kernel_rfl
theorem all_is {k a b c d : Nat} (hk : k < 256) (h6 : k = 6 → a < 4 ∧ b < 4 ∧ c < 4 ∧ d < 4) : isV (locC K1 f_spindleref12_All 0 [.int .u8 (Int.ofNat k), subs a b c d] S0) (allF k a b c d) = true := by
  have h := List.all_eq_true.1 (all_k a b c d) k (List.mem_range.2 hk)
  rw [Bool.or_eq_true] at h
  rcases h with h | h
  · have := Nat.eq_of_beq_eq_true h
    subst this
    obtain ⟨h1, h2, h3, h4⟩ := h6 rfl
    exact four_lt (four_lt (four_lt (four_lt all_6 h1) h2) h3) h4
  · exact h
theorem covr_3 (a b c d : Nat) : isV (locC K2 f_spindleref12_Cover 0 [.int .u8 3, subs a b c d, iN 0] S0) (covF 3 a b c d 0) = true := by kernel_rfl
theorem covr_4 (a b c d : Nat) : ((List.range 2).all fun p => isV (locC K2 f_spindleref12_Cover 0 [.int .u8 4, subs a b c d, iN p] S0) (covF 4 a b c d p)) = true := by kernel_rfl
theorem covr_5 (a b c d : Nat) : ((List.range 2).all fun p => isV (locC K2 f_spindleref12_Cover 0 [.int .u8 5, subs a b c d, iN p] S0) (covF 5 a b c d p)) = true := by kernel_rfl
-- one quarter
def quF (i s : Nat) : AV := .is (qL i s).length (aC i (qL i s) [])
theorem qu_all : (four fun i => four fun s => isV (locC K1 f_spindleref12_quarter 0 [iN i, .int .u8 (Int.ofNat s)] S0) (quF i s)) = true := by kernel_rfl
def ofQu : List AV → Option (Nat × Nat)
  | [.int .i64 (.ofNat i), .int .u8 (.ofNat s)] => match Nat.blt i 4 && Nat.blt s 4 with
    | true => some (i, s)
    | false => none
  | _ => none
theorem ofQu_some {xs : List AV} {i s : Nat} (h : ofQu xs = some (i, s)) : xs = [iN i, .int .u8 (Int.ofNat s)] ∧ i < 4 ∧ s < 4 := by
  unfold ofQu at h
  split at h
  · split at h
    · rename_i hb
      cases h
      simp only [Bool.and_eq_true, Nat.blt_eq] at hb
      exact ⟨rfl, hb.1, hb.2⟩
    · cases h
  · cases h
def fnQ : CallF := fun f way args S => match way with
  | 0 => (match Nat.beq f f_spindleref12_quarter with
    | true => (match ofQu args with | some x => some (quF x.1 x.2, S) | none => none)
    | false => none)
  | _ => none
theorem fnQ_loc {f way : Nat} {args : List AV} {S : Heap} {r : AV × Heap} (h : fnQ f way args S = some r) : f < yldId ∧ locC K1 f way args S = some r := by
  unfold fnQ at h
  split at h
  · split at h
    · rename_i hb
      have hb := Nat.eq_of_beq_eq_true hb
      subst hb
      split at h
      · rename_i x hx
        cases h
        obtain ⟨rfl, h1, h2⟩ := ofQu_some (i := x.1) (s := x.2) hx
        exact ⟨by decide, locC_any (four_lt (four_lt qu_all h1) h2) S⟩
      · cases h
    · cases h
  · cases h
theorem fnQ_ok : NOk Tryd.prog Gk fnQ := by
  have h0 := locC_ok noG K1_ok
  refine ⟨fun f way args S r hlt e => h0.ok _ _ _ _ _ hlt (fnQ_loc e).2, fun f way args S hf => ?_⟩
  cases e : fnQ f way args S with
  | none => rfl
  | some r => have := (fnQ_loc e).1; omega
theorem fnQ_is {i s : Nat} (hi : i < 4) (hs : s < 4) (S : Heap) : fnQ f_spindleref12_quarter 0 [iN i, .int .u8 (Int.ofNat s)] S = some (quF i s, S) := by
  unfold fnQ
  have hb : Nat.beq f_spindleref12_quarter f_spindleref12_quarter = true := rfl
  have ho : ofQu [iN i, .int .u8 (Int.ofNat s)] = some (i, s) := by
    show (match Nat.blt i 4 && Nat.blt s 4 with | true => some (i, s) | false => none) = _
    have h1 : Nat.blt i 4 = true := by rw [Nat.blt_eq]; exact hi
    have h2 : Nat.blt s 4 = true := by rw [Nat.blt_eq]; exact hs
    rw [h1, h2]; rfl
  simp only [hb, ho]
end Go.Ab.tNearU
