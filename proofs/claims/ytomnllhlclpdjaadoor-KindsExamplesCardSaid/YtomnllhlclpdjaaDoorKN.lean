/- Arguments of the statements about parts; loops that are counted. -/
import Derived.Test.YtomnllhlclpdjaaDoorKM
set_option maxRecDepth 100000
set_option linter.unusedSimpArgs false
set_option linter.unusedVariables false
set_option linter.unusedSectionVars false
namespace Go.Ab.tK
open Go Go.Proofs

theorem av23 {N F : Nat} {cs : List AV} (h : avOk Tryd.prog N (F + 2) 23 cs) : ∃ a b c d : Nat, cs = [.int .u8 a, .int .u8 b, .int .u8 c, .int .u8 d] ∧ a ≤ 255 ∧ b ≤ 255 ∧ c ≤ 255 ∧ d ≤ 255 := by
  unfold avOk at h
  rw [show Tryd.prog.underlying 23 = some (.array 4 5) by kernel_rfl] at h
  simp only at h
  rw [show Tryd.prog.cellsOf 23 = 4 by kernel_rfl, show Tryd.prog.cellsOf 5 = 1 by kernel_rfl] at h
  obtain ⟨hl, h⟩ := h
  match cs, hl with
  | [x, y, z, w], _ =>
    obtain ⟨a, e1, a1, a2⟩ := av5 (h 0 (by omega))
    obtain ⟨b, e2, b1, b2⟩ := av5 (h 1 (by omega))
    obtain ⟨c, e3, c1, c2⟩ := av5 (h 2 (by omega))
    obtain ⟨d, e4, d1, d2⟩ := av5 (h 3 (by omega))
    simp at e1 e2 e3 e4
    subst e1 e2 e3 e4
    obtain ⟨a, rfl⟩ := Int.eq_ofNat_of_zero_le a1
    obtain ⟨b, rfl⟩ := Int.eq_ofNat_of_zero_le b1
    obtain ⟨c, rfl⟩ := Int.eq_ofNat_of_zero_le c1
    obtain ⟨d, rfl⟩ := Int.eq_ofNat_of_zero_le d1
    exact ⟨a, b, c, d, rfl, by omega, by omega, by omega, by omega⟩
theorem arg23 {a : AV} (h : argOk Tryd.prog maxLen 16 23 a) : ∃ x y z w : Nat, a = subs x y z w ∧ x ≤ 255 ∧ y ≤ 255 ∧ z ≤ 255 ∧ w ≤ 255 := by
  unfold argOk at h
  rw [show Tryd.prog.underlying 23 = some (.array 4 5) by kernel_rfl] at h
  obtain ⟨cs, rfl, h⟩ := h
  obtain ⟨x, y, z, w, rfl, h'⟩ := av23 h
  exact ⟨x, y, z, w, rfl, h'⟩
theorem four_of {p : Nat → Bool} (h0 : p 0 = true) (h1 : p 1 = true) (h2 : p 2 = true) (h3 : p 3 = true) : four p = true := by simp only [four, h0, h1, h2, h3, Bool.and_self]
theorem bloopF {n : Nat} {step : LSt → Option (LSt ⊕ (Nat × LSt))} {s : LSt} {α : Type} {f : Nat × LSt → Option α} :
    bO (loopF (n + 1) step s) f = (match step s with | some (.inl s') => bO (loopF n step s') f | some (.inr x) => f x | none => none) := by
  rw [loopF]
  cases step s with
  | none => rfl
  | some y => cases y <;> rfl
theorem tm4 (a : Nat) : Int.tmod (Int.ofNat a) 4 = Int.ofNat (a % 4) := rfl
theorem gt0 (x y z w : AV) : ([x, y, z, w] : List AV)[0]? = some x := rfl
theorem gt1 (x y z w : AV) : ([x, y, z, w] : List AV)[1]? = some y := rfl
theorem gt2 (x y z w : AV) : ([x, y, z, w] : List AV)[2]? = some z := rfl
theorem gt3 (x y z w : AV) : ([x, y, z, w] : List AV)[3]? = some w := rfl
theorem st0 (x y z w v : AV) : setCells [x, y, z, w] 0 [v] = [v, y, z, w] := rfl
theorem st1 (x y z w v : AV) : setCells [x, y, z, w] 1 [v] = [x, v, z, w] := rfl
theorem st2 (x y z w v : AV) : setCells [x, y, z, w] 2 [v] = [x, y, v, w] := rfl
theorem st3 (x y z w v : AV) : setCells [x, y, z, w] 3 [v] = [x, y, z, v] := rfl
theorem ln4 (x y z w : AV) : ([x, y, z, w] : List AV).length = 4 := rfl
theorem tn1 : Int.toNat 1 = 1 := rfl
theorem tn2 : Int.toNat 2 = 2 := rfl
theorem tn3 : Int.toNat 3 = 3 := rfl
theorem tn0 : Int.toNat 0 = 0 := rfl
theorem w01 : IntKind.wrap .i64 (0 + 1) = 1 := rfl
theorem w12 : IntKind.wrap .i64 (1 + 1) = 2 := rfl
theorem w23 : IntKind.wrap .i64 (2 + 1) = 3 := rfl
theorem w34 : IntKind.wrap .i64 (3 + 1) = 4 := rfl
theorem lp : (ctlF 300).loop = loopF 300 := rfl
noncomputable def Cx : CallF := tabB (rows (ctlF 300)) (orC fn2 B1) 39
theorem beq_ne {k m : Nat} (h : k ≠ m) : Nat.beq k m = false := by
  cases hb : Nat.beq k m with
  | false => rfl
  | true => exact absurd (Nat.eq_of_beq_eq_true hb) h
end Go.Ab.tK
