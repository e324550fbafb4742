/- Coded blocks: what a macroblock codes, in the kernel's own reckoning. -/
import Derived.Test.YtbmcdphiolidkaaDoorIV2
set_option maxRecDepth 100000
set_option linter.unusedSimpArgs false
set_option linter.unusedVariables false
set_option linter.unusedSectionVars false
namespace Go.Ab.tNearU
open Go Go.Proofs

/-- A coded block: category, component, number. -/
abbrev Cd := Nat × Nat × Nat
def cdC (c : Cd) : List AV := [.int .u8 (c.1 : Int), .int .u8 (c.2.1 : Int), .int .i64 (c.2.2 : Int)]
def bitOn (cb i : Nat) : Bool := Nat.beq (cb / 2 ^ (i / 4) % 2) 1
def lum (cat cb : Nat) : Nat → List Cd
  | 0 => []
  | i + 1 => match bitOn cb i with
    | true => lum cat cb i ++ [(cat, 0, i)]
    | false => lum cat cb i
def chrAC : List Cd := [(4, 0, 0), (4, 0, 1), (4, 0, 2), (4, 0, 3), (4, 1, 0), (4, 1, 1), (4, 1, 2), (4, 1, 3)]
/-- The blocks of a kind and a Cbp. -/
def bls (kind cb : Nat) : List Cd :=
  if kind ≥ 7 ∨ kind = 2 then [] else (if kind = 1 then [(0, 0, 0)] else []) ++ lum (if kind = 1 then 1 else 2) cb 16 ++ (if cb / 16 > 0 then [(3, 0, 0), (3, 1, 0)] else []) ++ (if cb / 16 = 2 then chrAC else [])
def cells3 : List Cd → List AV
  | [] => []
  | c :: l => .int .u8 (Int.ofNat c.1) :: .int .u8 (Int.ofNat c.2.1) :: .int .i64 (Int.ofNat c.2.2) :: cells3 l
def blA (l : List Cd) : AV := match l with
  | [] => .nils
  | l => .is l.length (cells3 l)
/-- Calls as the kernel computes them. -/
noncomputable def C1 : CallF := tabN (rows (ctlF 100)) 40
theorem mixed : Tryd.prog.follows .mixedOrders = true := by kernel_rfl
theorem noG : ∀ (i : Nat) (cs : List AV), Gk i = some cs → noIdL cs = true := by
  intro i cs h
  unfold Gk oneG at h
  split at h
  · cases h; kernel_rfl
  · cases h
theorem C1_ok : NOk Tryd.prog Gk C1 := tabN_ok (rngC_ok (ctlF_ok 100)) mixed _ 40
/-- What is known beforehand: of the known functions what the kernel computes, of others nothing. -/
structure Known (B : CallF) : Prop where
  no : Silent B
  yes : ∀ f args S, selF.contains f = true → B f 0 args S = locC C1 f 0 args S
noncomputable def Bq : CallF := fun f way args S => match way with
  | 0 => if selF.contains f then locC C1 f 0 args S else none
  | _ => none
theorem Bq_ok : NOk Tryd.prog Gk Bq := by
  have h0 := locC_ok noG C1_ok
  refine ⟨fun f way args S r hlt e => ?_, fun f way args S hf => ?_⟩
  · unfold Bq at e
    split at e
    · split at e
      · exact h0.ok _ _ _ _ _ hlt e
      · cases e
    · cases e
  · unfold Bq
    split
    · split
      · exact h0.none _ _ _ _ hf
      · rfl
    · rfl
theorem Bq_known : Known Bq := ⟨fun f way args S h => by
  unfold Bq
  split
  · rw [sel_no h]; rfl
  · rfl, fun f args S h => by
  show (if selF.contains f = true then locC C1 f 0 args S else none) = _
  rw [if_pos h]⟩
theorem Cq_ok (k : Nat) : NOk Tryd.prog Gk (Cn Bq k) := callN_ok (rngC_ok ctlW_ok) mixed noG An Bq_ok k
def isB (r : Option (AV × Heap)) (v : AV) : Bool := match r with | some (w, _) => w.beq v | none => false
theorem isB_of {r : Option (AV × Heap)} {v : AV} (h : isB r v = true) : ∃ S, r = some (v, S) := by
  unfold isB at h
  split at h
  · rename_i w S
    rw [AV.beq_eq _ _ h]; exact ⟨S, rfl⟩
  · cases h
/-- A macroblock of which all but the kind and the Cbp are whatever they are. -/
def mbF (p : Nat → Int) (r v : AV) (q : Int) (b : AV) (s : ByteArray) (kind cb : Nat) : AV :=
  .agg [.int .u8 (Int.ofNat kind), .int .u8 (p 1), .int .u8 (p 2), .int .u8 (p 3), .int .u8 (p 4), .int .u8 (p 5), .int .u8 (p 6), .int .u8 (p 7), .int .u8 (p 8), .int .u8 (p 9), .int .u8 (p 10), .int .u8 (p 11), .int .u8 (p 12), .int .u8 (p 13), .int .u8 (p 14), .int .u8 (p 15), .int .u8 (p 16), .int .u8 (p 17), .int .u8 (p 18), .int .u8 (p 19), .int .u8 (p 20), .int .u8 (p 21), .int .u8 (p 22), r, v, .int .u8 (Int.ofNat cb), .int .i64 q, b, .str s]
section
variable (p : Nat → Int) (r v : AV) (q : Int) (b : AV) (s : ByteArray)
theorem bl_none (cb : Nat) : ((List.range 256).all fun k => (Nat.blt k 7 && !Nat.beq k 2) || (isB (C1 f_mb_Blocks 0 [mbF p r v q b s k cb] S0) .nils && isB (C1 f_mb_Blocks 0 [mbF p r v q b s k cb] S0) .nils)) = true := by kernel_rfl
theorem bl_0 : ((List.range 256).all fun cb => isB (C1 f_mb_Blocks 0 [mbF p r v q b s 0 cb] S0) (blA (bls 0 cb))) = true := by kernel_rfl
theorem bl_1 : ((List.range 256).all fun cb => isB (C1 f_mb_Blocks 0 [mbF p r v q b s 1 cb] S0) (blA (bls 1 cb))) = true := by kernel_rfl
theorem bl_3 : ((List.range 256).all fun cb => isB (C1 f_mb_Blocks 0 [mbF p r v q b s 3 cb] S0) (blA (bls 3 cb))) = true := by kernel_rfl
theorem bl_4 : ((List.range 256).all fun cb => isB (C1 f_mb_Blocks 0 [mbF p r v q b s 4 cb] S0) (blA (bls 4 cb))) = true := by kernel_rfl
theorem bl_5 : ((List.range 256).all fun cb => isB (C1 f_mb_Blocks 0 [mbF p r v q b s 5 cb] S0) (blA (bls 5 cb))) = true := by kernel_rfl
theorem bl_6 : ((List.range 256).all fun cb => isB (C1 f_mb_Blocks 0 [mbF p r v q b s 6 cb] S0) (blA (bls 6 cb))) = true := by kernel_rfl
theorem rl_0 : ((List.range 256).all fun cb => isB (C1 f_mb_Blocks 0 [mbF p r v q b s 0 cb] S0) (blA (bls 0 cb))) = true := bl_0 p r v q b s
theorem rl_1 : ((List.range 256).all fun cb => isB (C1 f_mb_Blocks 0 [mbF p r v q b s 1 cb] S0) (blA (bls 1 cb))) = true := bl_1 p r v q b s
theorem rl_3 : ((List.range 256).all fun cb => isB (C1 f_mb_Blocks 0 [mbF p r v q b s 3 cb] S0) (blA (bls 3 cb))) = true := bl_3 p r v q b s
theorem rl_4 : ((List.range 256).all fun cb => isB (C1 f_mb_Blocks 0 [mbF p r v q b s 4 cb] S0) (blA (bls 4 cb))) = true := bl_4 p r v q b s
theorem rl_5 : ((List.range 256).all fun cb => isB (C1 f_mb_Blocks 0 [mbF p r v q b s 5 cb] S0) (blA (bls 5 cb))) = true := bl_5 p r v q b s
theorem rl_6 : ((List.range 256).all fun cb => isB (C1 f_mb_Blocks 0 [mbF p r v q b s 6 cb] S0) (blA (bls 6 cb))) = true := bl_6 p r v q b s
theorem bl_any {kind cb : Nat} (hk : kind ≤ 255) (hc : cb ≤ 255) : isB (C1 f_mb_Blocks 0 [mbF p r v q b s kind cb] S0) (blA (bls kind cb)) = true ∧ isB (C1 f_mb_Blocks 0 [mbF p r v q b s kind cb] S0) (blA (bls kind cb)) = true := by
  have hr := List.mem_range.2 (show cb < 256 by omega)
  by_cases h : kind ≥ 7 ∨ kind = 2
  · have hb : bls kind cb = [] := by unfold bls; rw [if_pos h]
    have := List.all_eq_true.1 (bl_none p r v q b s cb) kind (List.mem_range.2 (by omega))
    have hf : (Nat.blt kind 7 && !Nat.beq kind 2) = false := by
      rcases h with h | h
      · have : Nat.blt kind 7 = false := by
          cases hh : Nat.blt kind 7 with
          | false => rfl
          | true => rw [Nat.blt_eq] at hh; omega
        rw [this]; rfl
      · subst h; rfl
    rw [hf, Bool.false_or, Bool.and_eq_true] at this
    rw [hb]; exact this
  · have : kind = 0 ∨ kind = 1 ∨ kind = 3 ∨ kind = 4 ∨ kind = 5 ∨ kind = 6 := by omega
    rcases this with rfl | rfl | rfl | rfl | rfl | rfl
    · exact ⟨List.all_eq_true.1 (bl_0 p r v q b s) cb hr, List.all_eq_true.1 (rl_0 p r v q b s) cb hr⟩
    · exact ⟨List.all_eq_true.1 (bl_1 p r v q b s) cb hr, List.all_eq_true.1 (rl_1 p r v q b s) cb hr⟩
    · exact ⟨List.all_eq_true.1 (bl_3 p r v q b s) cb hr, List.all_eq_true.1 (rl_3 p r v q b s) cb hr⟩
    · exact ⟨List.all_eq_true.1 (bl_4 p r v q b s) cb hr, List.all_eq_true.1 (rl_4 p r v q b s) cb hr⟩
    · exact ⟨List.all_eq_true.1 (bl_5 p r v q b s) cb hr, List.all_eq_true.1 (rl_5 p r v q b s) cb hr⟩
    · exact ⟨List.all_eq_true.1 (bl_6 p r v q b s) cb hr, List.all_eq_true.1 (rl_6 p r v q b s) cb hr⟩
end
end Go.Ab.tNearU
