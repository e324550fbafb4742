/- Bits of strings and of numbers, and the codes that are made of them: plain Lean, no program. -/
import Derived.Test.YtbmcdphiolidkaaGreatDoorAbB
import Derived.IntWalk
set_option linter.unusedSimpArgs false
set_option linter.unusedVariables false
namespace Go.Ab.tV
open Go

-- the bits of a string
def sb (s : ByteArray) (i : Nat) : Nat := ((s.data[i / 8]?).getD 0).toNat / 2 ^ (7 - i % 8) % 2
def num (s : ByteArray) (a : Nat) : Nat → Nat
  | 0 => 0
  | n + 1 => 2 * num s a n + sb s (a + n)
theorem sb_lt (s : ByteArray) (i : Nat) : sb s i < 2 := Nat.mod_lt _ (by omega)
theorem num_lt (s : ByteArray) (a : Nat) : ∀ n, num s a n < 2 ^ n
  | 0 => by simp [num]
  | n + 1 => by
    have h1 := num_lt s a n
    have h2 := sb_lt s (a + n)
    simp only [num, Nat.pow_succ]; omega
theorem num_add (s : ByteArray) (a n : Nat) : ∀ m, num s a (n + m) = num s a n * 2 ^ m + num s (a + n) m
  | 0 => by simp [num]
  | m + 1 => by
    have ih := num_add s a n m
    show 2 * num s a (n + m) + sb s (a + (n + m)) = num s a n * 2 ^ (m + 1) + (2 * num s (a + n) m + sb s (a + n + m))
    have e : 2 * (num s a n * 2 ^ m) = num s a n * (2 ^ m * 2) := by rw [Nat.mul_comm 2, Nat.mul_assoc]
    rw [ih, Nat.pow_succ, Nat.mul_add, ← Nat.add_assoc a n m, e]
    omega
theorem num_succ (s : ByteArray) (a n : Nat) : num s a (n + 1) = sb s a * 2 ^ n + num s (a + 1) n := by
  have := num_add s a 1 n
  rw [Nat.add_comm 1 n] at this
  simp only [num] at this
  simpa [num] using this
def nb (b r : Nat) : Nat → Nat
  | 0 => 0
  | k + 1 => 2 * nb b r k + b / 2 ^ (7 - (r + k)) % 2
theorem nb_eq : ∀ b : Fin 256, ∀ r : Fin 8, ∀ k : Fin 9, k.val ≤ 8 - r.val → nb b.val r.val k.val = (b.val * 2 ^ r.val % 256) / 2 ^ (8 - k.val) := by decide +kernel
theorem num_byte {s : ByteArray} {a : Nat} {b : UInt8} (hb : s.data[a / 8]? = some b) : ∀ k, k ≤ 8 - a % 8 → num s a k = (b.toNat * 2 ^ (a % 8) % 256) / 2 ^ (8 - k) := by
  intro k hk
  have h1 : ∀ k, k ≤ 8 - a % 8 → num s a k = nb b.toNat (a % 8) k := by
    intro k
    induction k with
    | zero => intro _; rfl
    | succ k ih =>
      intro h
      have e1 : (a + k) / 8 = a / 8 := by omega
      have e2 : (a + k) % 8 = a % 8 + k := by omega
      simp only [num, nb, ih (by omega), sb, e1, e2, hb, Option.getD_some]
  rw [h1 k hk]
  exact nb_eq ⟨b.toNat, b.toNat_lt⟩ ⟨a % 8, by omega⟩ ⟨k, by omega⟩ hk

-- whole numbers of the model that are small
theorem wr (n : Int) (h : -9223372036854775808 ≤ n ∧ n ≤ 9223372036854775807) : IntKind.wrap .i64 n = n := IntWalk.i64_in n h
theorem wu (n : Int) (h : 0 ≤ n ∧ n ≤ 18446744073709551615) : IntKind.wrap .u64 n = n := IntWalk.u64_in n h
theorem wb (n : Int) (h : 0 ≤ n ∧ n ≤ 255) : IntKind.wrap .u8 n = n := IntWalk.u8_in n h
theorem tdivN (x y : Nat) : Int.tdiv (x : Int) (y : Int) = ((x / y : Nat) : Int) := (rfl)
theorem tmodN (x y : Nat) : Int.tmod (x : Int) (y : Int) = ((x % y : Nat) : Int) := (rfl)
theorem tdivL (x : Nat) : Int.tdiv (x : Int) 8 = ((x / 8 : Nat) : Int) := (rfl)
theorem tmodL (x : Nat) : Int.tmod (x : Int) 8 = ((x % 8 : Nat) : Int) := (rfl)
theorem tmod2 (x : Nat) : Int.tmod (x : Int) 2 = ((x % 2 : Nat) : Int) := (rfl)
theorem tdiv2 (x : Nat) : Int.tdiv (x : Int) 2 = ((x / 2 : Nat) : Int) := (rfl)
theorem pow2N (k : Nat) : (2 : Int) ^ k = ((2 ^ k : Nat) : Int) := by simp
theorem shl8 (b r : Nat) (hr : r ≤ 8) : shlI .u8 b r = ((b * 2 ^ r % 256 : Nat) : Int) := by
  have : min r 8 = r := by omega
  simp only [shlI, Int.toNat_natCast, IntKind.bits, this, IntKind.wrap_u8, pow2N, ← Int.natCast_mul]
  omega
theorem shr8 (b r : Nat) (hr : r ≤ 8) : shrI .u8 b r = ((b / 2 ^ r : Nat) : Int) := by
  have : min r 8 = r := by omega
  simp only [shrI, Int.toNat_natCast, IntKind.bits, this, pow2N]
  rw [Int.fdiv_eq_ediv_of_nonneg _ (Int.natCast_nonneg _)]; rfl
theorem shl64 (v k : Nat) (hk : k ≤ 64) (hv : v * 2 ^ k < 18446744073709551616) : shlI .u64 v k = ((v * 2 ^ k : Nat) : Int) := by
  have : min k 64 = k := by omega
  simp only [shlI, Int.toNat_natCast, IntKind.bits, this, pow2N, ← Int.natCast_mul]
  exact wu _ (by omega)
theorem shr64 (v k : Nat) (hk : k ≤ 64) : shrI .u64 v k = ((v / 2 ^ k : Nat) : Int) := by
  have : min k 64 = k := by omega
  simp only [shrI, Int.toNat_natCast, IntKind.bits, this, pow2N]
  rw [Int.fdiv_eq_ediv_of_nonneg _ (Int.natCast_nonneg _)]; rfl
theorem bvNat (w v : Nat) (h : v < 2 ^ w) : (BitVec.ofInt w (v : Int)).toNat = v := by
  simp only [BitVec.ofInt_natCast, BitVec.toNat_ofNat]
  exact Nat.mod_eq_of_lt h
theorem or64 (x y : Nat) (hx : x < 18446744073709551616) (hy : y < 18446744073709551616) : orI .u64 x y = ((x ||| y : Nat) : Int) := by
  have h : x ||| y < 2 ^ 64 := Nat.or_lt_two_pow (by omega) (by omega)
  have e : (BitVec.ofInt 64 (x : Int) ||| BitVec.ofInt 64 (y : Int)).toNat = x ||| y := by
    rw [BitVec.toNat_or, bvNat 64 x (by omega), bvNat 64 y (by omega)]
  show IntKind.wrap .u64 (((BitVec.ofInt 64 (x : Int) ||| BitVec.ofInt 64 (y : Int)).toNat : Nat) : Int) = _
  rw [e]
  exact wu ((x ||| y : Nat) : Int) (by omega)
theorem and64 (x y : Nat) (hx : x < 18446744073709551616) (hy : y < 18446744073709551616) : andI .u64 x y = ((x &&& y : Nat) : Int) := by
  have h : x &&& y < 2 ^ 64 := Nat.and_lt_two_pow _ (by omega)
  have e : (BitVec.ofInt 64 (x : Int) &&& BitVec.ofInt 64 (y : Int)).toNat = x &&& y := by
    rw [BitVec.toNat_and, bvNat 64 x (by omega), bvNat 64 y (by omega)]
  show IntKind.wrap .u64 (((BitVec.ofInt 64 (x : Int) &&& BitVec.ofInt 64 (y : Int)).toNat : Nat) : Int) = _
  rw [e]
  exact wu ((x &&& y : Nat) : Int) (by omega)
theorem or8 (x y : Nat) (hx : x < 256) (hy : y < 256) : orI .u8 x y = ((x ||| y : Nat) : Int) := by
  have h : x ||| y < 2 ^ 8 := Nat.or_lt_two_pow (by omega) (by omega)
  have e : (BitVec.ofInt 8 (x : Int) ||| BitVec.ofInt 8 (y : Int)).toNat = x ||| y := by
    rw [BitVec.toNat_or, bvNat 8 x (by omega), bvNat 8 y (by omega)]
  show IntKind.wrap .u8 (((BitVec.ofInt 8 (x : Int) ||| BitVec.ofInt 8 (y : Int)).toNat : Nat) : Int) = _
  rw [e]
  exact wb ((x ||| y : Nat) : Int) (by omega)
theorem and8 (x y : Nat) (hx : x < 256) (hy : y < 256) : andI .u8 x y = ((x &&& y : Nat) : Int) := by
  have h : x &&& y < 2 ^ 8 := Nat.and_lt_two_pow _ (by omega)
  have e : (BitVec.ofInt 8 (x : Int) &&& BitVec.ofInt 8 (y : Int)).toNat = x &&& y := by
    rw [BitVec.toNat_and, bvNat 8 x (by omega), bvNat 8 y (by omega)]
  show IntKind.wrap .u8 (((BitVec.ofInt 8 (x : Int) &&& BitVec.ofInt 8 (y : Int)).toNat : Nat) : Int) = _
  rw [e]
  exact wb ((x &&& y : Nat) : Int) (by omega)
theorem or_mul (x y k : Nat) (hy : y < 2 ^ k) : x * 2 ^ k ||| y = x * 2 ^ k + y := by
  rw [← Nat.shiftLeft_eq, Nat.shiftLeft_add_eq_or_of_lt hy]

-- bits of numbers
def bitsN : Nat → Nat → List Bool
  | 0, _ => []
  | n + 1, v => (v / 2 ^ n % 2 == 1) :: bitsN n v
def valB : List Bool → Nat
  | [] => 0
  | b :: l => (if b then 2 ^ l.length else 0) + valB l
theorem bitsN_len : ∀ n v, (bitsN n v).length = n
  | 0, _ => rfl
  | n + 1, v => by simp [bitsN, bitsN_len n v]
/-- The bits of a string from a place on. -/
def Has (s : ByteArray) (a : Nat) (l : List Bool) : Prop := a + l.length ≤ 8 * s.size ∧ ∀ i (h : i < l.length), sb s (a + i) = if l[i] then 1 else 0
theorem Has.nil {s : ByteArray} {a : Nat} (h : a ≤ 8 * s.size) : Has s a [] := ⟨by simpa using h, fun i h => by simp at h⟩
theorem Has.cons {s : ByteArray} {a : Nat} {b : Bool} {l : List Bool} : Has s a (b :: l) ↔ sb s a = (if b then 1 else 0) ∧ a < 8 * s.size ∧ Has s (a + 1) l := by
  constructor
  · rintro ⟨h1, h2⟩
    simp only [List.length_cons] at h1
    refine ⟨h2 0 (by simp), by omega, by omega, fun i h => ?_⟩
    have := h2 (i + 1) (by simp; omega)
    rw [show a + (i + 1) = a + 1 + i by omega] at this
    simpa using this
  · rintro ⟨h1, h2, h3, h4⟩
    refine ⟨by simp; omega, fun i h => ?_⟩
    cases i with
    | zero => simpa using h1
    | succ i =>
      have := h4 i (by simpa using h)
      rw [show a + (i + 1) = a + 1 + i by omega]
      simpa using this
theorem Has.app {s : ByteArray} {a : Nat} {l m : List Bool} : Has s a (l ++ m) ↔ Has s a l ∧ Has s (a + l.length) m := by
  induction l generalizing a with
  | nil =>
    simp only [List.nil_append, List.length_nil, Nat.add_zero]
    exact ⟨fun h => ⟨Has.nil (by have := h.1; omega), h⟩, fun h => h.2⟩
  | cons b l ih =>
    simp only [List.cons_append, Has.cons, ih, List.length_cons]
    rw [show a + (l.length + 1) = a + 1 + l.length by omega]
    constructor
    · rintro ⟨h1, h2, h3, h4⟩; exact ⟨⟨h1, h2, h3⟩, h4⟩
    · rintro ⟨⟨h1, h2, h3⟩, h4⟩; exact ⟨h1, h2, h3, h4⟩
theorem Has.le {s : ByteArray} {a : Nat} {l : List Bool} (h : Has s a l) : a + l.length ≤ 8 * s.size := h.1
theorem Has.val {s : ByteArray} : ∀ {n a v : Nat}, Has s a (bitsN n v) → num s a n = v % 2 ^ n
  | 0, a, v, h => by simp [num, Nat.mod_one]
  | n + 1, a, v, h => by
    rw [bitsN, Has.cons] at h
    rw [num_succ, h.1, Has.val h.2.2, Nat.pow_succ, Nat.mod_mul]
    rcases Nat.mod_two_eq_zero_or_one (v / 2 ^ n) with h0 | h0 <;> simp [h0]
    omega
theorem bitsN_of {s : ByteArray} : ∀ {n a : Nat}, a + n ≤ 8 * s.size → Has s a (bitsN n (num s a n)) := by
  have key : ∀ n a m, a + n ≤ 8 * s.size → m % 2 ^ n = num s a n → Has s a (bitsN n m) := by
    intro n
    induction n with
    | zero => intro a m h _; exact Has.nil (by omega)
    | succ n ih =>
      intro a m h hm
      have h1 := num_succ s a n
      have h2 := num_lt s (a + 1) n
      have h3 := sb_lt s a
      rw [Nat.pow_succ, Nat.mod_mul] at hm
      have h4 := Nat.mod_lt m (show 0 < 2 ^ n from Nat.pow_pos (by omega))
      have e : m / 2 ^ n % 2 = sb s a ∧ m % 2 ^ n = num s (a + 1) n := by
        rw [h1] at hm
        clear h1
        have h6 : m / 2 ^ n % 2 < 2 := Nat.mod_lt _ (by omega)
        generalize m / 2 ^ n % 2 = x at hm h6 ⊢
        generalize sb s a = y at hm h3 ⊢
        generalize num s (a + 1) n = w at hm h2 ⊢
        generalize m % 2 ^ n = u at hm h4 ⊢
        generalize 2 ^ n = P at hm h2 h4
        have hx : x = 0 ∨ x = 1 := by omega
        have hy : y = 0 ∨ y = 1 := by omega
        rcases hx with rfl | rfl <;> rcases hy with rfl | rfl <;> simp only [Nat.mul_zero, Nat.mul_one, Nat.zero_mul, Nat.one_mul, Nat.add_zero, Nat.zero_add] at hm <;> omega
      rw [bitsN, Has.cons]
      refine ⟨?_, by omega, ih (a + 1) m (by omega) e.2⟩
      rcases (show sb s a = 0 ∨ sb s a = 1 by omega) with h5 | h5 <;> simp [e.1, h5]
  intro n a h
  exact key n a _ h (Nat.mod_eq_of_lt (num_lt s a n))
end Go.Ab.tV
