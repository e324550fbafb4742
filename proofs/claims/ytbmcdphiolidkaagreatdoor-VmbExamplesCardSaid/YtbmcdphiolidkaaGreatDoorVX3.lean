/- The closed statements' base: Writer.Bits and bytes written at a byte's beginning, out of the heap. -/
import Derived.Test.YtbmcdphiolidkaaGreatDoorVX0
import Derived.Test.YtbmcdphiolidkaaGreatDoorVX1
set_option maxRecDepth 100000
set_option linter.unusedSimpArgs false
set_option linter.unusedVariables false
set_option linter.unusedSectionVars false
namespace Go.Ab.tV
open Go Go.Proofs

def hsOf : AV → Option (Nat × Nat × Nat × Nat)
  | .hs q o len e => some (q, o, len, e)
  | _ => none
def wOf (S : Heap) (p : Nat) : Option (Nat × Nat) := match S.blk p with
  | some [r, .int .u8 (.ofNat a), .int .i64 (.ofNat b)] => (match hsOf r with
    | some x => (match Nat.beq a 0 && Nat.beq b 0 && Nat.beq x.2.1 0 && Nat.beq x.2.2.2 1 with | true => some (x.1, x.2.2.1) | false => none)
    | none => none)
  | _ => none
theorem wOf_some {S : Heap} {p q len : Nat} (h : wOf S p = some (q, len)) : S.blk p = some [.hs q 0 len 1, .int .u8 0, .int .i64 0] := by
  unfold wOf at h
  split at h
  · rename_i r a b hb
    split at h
    · rename_i x hx
      split at h
      · rename_i hc
        simp only [Bool.and_eq_true] at hc
        obtain ⟨⟨⟨c1, c2⟩, c3⟩, c4⟩ := hc
        have d1 := Nat.eq_of_beq_eq_true c1
        have d2 := Nat.eq_of_beq_eq_true c2
        have d3 := Nat.eq_of_beq_eq_true c3
        have d4 := Nat.eq_of_beq_eq_true c4
        clear c1 c2 c3 c4
        unfold hsOf at hx
        split at hx
        · rename_i q' o' len' e'
          cases hx
          simp only at d3 d4
          subst d1 d2 d3 d4
          cases h
          exact hb
        · cases hx
      · cases h
    · cases h
  · cases h
def putB : CallF := fun f way args S => match way with
  | 0 => (match Nat.beq f f_bits_Writer_Put with
    | true => (match args with
      | [.ptr p 0, .int .i64 (.ofNat n), .int .u64 (.ofNat v)] => (match Nat.beq n 8 && Nat.blt v 256 with
        | true => (match wOf S p with
          | some x => (match S.blk x.1 with
            | some cs => (match Nat.beq cs.length x.2 && Nat.blt x.1 S.next && !Nat.beq x.1 p && Nat.blt p S.next && Nat.ble x.2 1000000000 with
              | true => some (.int .i64 0, putH p x.1 cs x.2 v S)
              | false => none)
            | none => none)
          | none => none)
        | false => none)
      | _ => none)
    | false => none)
  | _ => none
theorem putB_some {f way : Nat} {args : List AV} {S : Heap} {r : AV × Heap} (h : putB f way args S = some r) : f < yldId ∧ Cn Bk 1 f way args S = some r := by
  unfold putB at h
  split at h
  · split at h
    · rename_i hf
      have hf := Nat.eq_of_beq_eq_true hf
      subst hf
      split at h
      · rename_i p n v
        split at h
        · rename_i hn
          simp only [Bool.and_eq_true, Nat.blt_eq] at hn
          have hn8 := Nat.eq_of_beq_eq_true hn.1
          subst hn8
          split at h
          · rename_i x hx
            obtain ⟨q, len⟩ := x
            split at h
            · rename_i cs hcs
              split at h
              · rename_i hc
                cases h
                simp only [Bool.and_eq_true, Nat.blt_eq, Bool.not_eq_true', Nat.ble_eq] at hc
                obtain ⟨⟨⟨⟨c1, c2⟩, c3⟩, c4⟩, c5⟩ := hc
                have c1 := Nat.eq_of_beq_eq_true c1
                have hqp : q ≠ p := fun h => by rw [h] at c3; rw [Nat.beq_refl] at c3; cases c3
                exact ⟨by decide, put8_x Bk_silent 0 (wOf_some hx) hcs c1 c2 hqp c4 c5 hn.2⟩
              · cases h
            · cases h
          · cases h
        · cases h
      · cases h
    · cases h
  · cases h
theorem putB_ok : NOk Tryz.prog Gk putB := by
  have h0 := Cn_ok 1
  refine ⟨fun f way args S r hlt e => h0.ok _ _ _ _ _ hlt (putB_some e).2, fun f way args S hf => ?_⟩
  cases e : putB f way args S with
  | none => rfl
  | some r => have := (putB_some e).1; omega
noncomputable def CY : CallF := tabB (rows (ctlF 1000)) (orC putB bitsB) 60
theorem CY_ok : NOk Tryz.prog Gk CY := tabB_ok (rngC_ok (ctlF_ok 1000)) mixed _ (orC_ok putB_ok bitsB_ok) 60
end Go.Ab.tV
