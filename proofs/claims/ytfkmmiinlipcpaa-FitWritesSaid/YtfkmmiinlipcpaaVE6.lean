/- A block is written: the package vblock. -/
import Derived.Test.YtfkmmiinlipcpaaVE5
set_option maxRecDepth 100000
set_option linter.unusedSimpArgs false
set_option linter.unusedVariables false
set_option linter.unusedSectionVars false
namespace Go.Ab.tV
open Go Go.Proofs

def lvsP : Nat → Nat → List Int → Option (List Bool)
  | _, _, [] => some []
  | k, s, v :: vs => match lvC k s v with
    | none => none
    | some b => (lvsP (aftN k v.natAbs) 0 vs).map (b ++ ·)
def runsP : Nat → List Nat → List Bool
  | _, [] => []
  | left, n :: ns => (runP left n).2 ++ runsP (left - n) ns
def onesB (L : List Int) : List Bool := L.map fun v => v == -1
def blkC (cls : Int) (l : List Int) : Option (List Bool) :=
  if (rst l).1 = [] then some (tokP cls l.length ((rst l).1.length : Nat) (onesN (rst l).1 : Nat)).2 else
    (lvsP (k0N (rst l).1.length (onesN (rst l).1)) (s0N (onesN (rst l).1)) ((rst l).1.drop (onesN (rst l).1))).map fun b =>
      (tokP cls l.length ((rst l).1.length : Nat) (onesN (rst l).1 : Nat)).2 ++ onesB ((rst l).1.take (onesN (rst l).1)) ++ b ++ (zerP l.length ((rst l).1.length : Nat) (rZ l : Nat)).2 ++ runsP (rZ l) (rst l).2.1
def putR (cls : Int) (l : List Int) : Int × List Bool :=
  if cls < 0 ∨ cls > 4 ∨ sizedI l.length = false ∨ rngd l = false then (3, []) else match blkC cls l with
    | none => (12, [])
    | some K => (0, K)
theorem rst_mem : ∀ (l : List Int) (v : Int), v ∈ (rst l).1 → v ≠ 0 ∧ v ∈ l
  | [], v, h => by simp [rst] at h
  | x :: l, v, h => by
    have ih := rst_mem l v
    by_cases h0 : x = 0
    · simp only [rst, if_pos h0] at h
      exact ⟨(ih h).1, List.mem_cons_of_mem _ (ih h).2⟩
    · by_cases h1 : (rst l).1 = []
      · simp only [rst, if_neg h0, if_pos h1, List.mem_singleton] at h
        subst h; exact ⟨h0, List.mem_cons_self⟩
      · simp only [rst, if_neg h0, if_neg h1, List.mem_append, List.mem_singleton] at h
        rcases h with h | rfl
        · exact ⟨(ih h).1, List.mem_cons_of_mem _ (ih h).2⟩
        · exact ⟨h0, List.mem_cons_self⟩
theorem onesG_at : ∀ (n : Nat) (L : List Int) (i : Nat) (h : i < L.length), i < onesG n L → L[i] = 1 ∨ L[i] = -1
  | 0, L, i, h, hi => by simp [onesG] at hi
  | n + 1, [], i, h, hi => by simp at h
  | n + 1, v :: L, i, h, hi => by
    simp only [onesG] at hi
    split at hi
    · rename_i hv
      cases i with
      | zero => exact hv
      | succ i => exact onesG_at n L i (by simpa using h) (by omega)
    · omega
theorem onesG_stop : ∀ (n : Nat) (L : List Int) (h : onesG n L < L.length), onesG n L < n → ¬ (L[onesG n L] = 1 ∨ L[onesG n L] = -1)
  | 0, L, h, hi => by omega
  | n + 1, [], h, hi => by simp at h
  | n + 1, v :: L, h, hi => by
    by_cases hv : v = 1 ∨ v = -1
    · have e : onesG (n + 1) (v :: L) = onesG n L + 1 := by simp only [onesG, if_pos hv]
      simp only [e] at h hi ⊢
      exact onesG_stop n L (by simpa using h) (by omega)
    · have e : onesG (n + 1) (v :: L) = 0 := by simp only [onesG, if_neg hv]
      simp only [e]; exact hv
structure Blk (l : List Int) : Prop where
  sz : sizedI (l.length : Int) = true
  rg : rngd l = true
theorem Blk.len {l : List Int} (h : Blk l) : l.length ≤ 16 ∧ 4 ≤ l.length := sized_le h.sz
theorem Blk.tot {l : List Int} (h : Blk l) : (rst l).1.length ≤ l.length ∧ (rst l).1.length ≤ 16 ∧ onesN (rst l).1 ≤ 3 ∧ onesN (rst l).1 ≤ (rst l).1.length := by
  have := (rst_sum l).1
  have h2 := onesG_le 3 (rst l).1
  have := h.len
  unfold onesN
  omega
theorem Blk.zr {l : List Int} (h : Blk l) : rZ l + (rst l).1.length ≤ l.length ∧ ((rst l).1 ≠ [] → (rst l).2.1.sum ≤ rZ l) := by
  have := (rst_sum l).1
  unfold rZ
  split
  · exact ⟨by omega, fun hh => by contradiction⟩
  · exact ⟨by omega, fun _ => by omega⟩
theorem Blk.mem {l : List Int} (h : Blk l) {v : Int} (hv : v ∈ (rst l).1) : v ≠ 0 ∧ -32768 ≤ v ∧ v ≤ 32768 := by
  obtain ⟨h1, h2⟩ := rst_mem l v hv
  have := List.all_eq_true.1 h.rg v h2
  refine ⟨h1, by simpa using this⟩
theorem Blk.tok {l : List Int} (h : Blk l) {cls : Int} (hc : 0 ≤ cls ∧ cls ≤ 4) : (tokP cls l.length ((rst l).1.length : Nat) (onesN (rst l).1 : Nat)).1 = 0 := by
  obtain ⟨h1, h2, h3, h4⟩ := h.tot
  obtain ⟨n, hn, _⟩ := sym_ok h2 (show onesN (rst l).1 ≤ min (rst l).1.length 3 by omega)
  unfold tokP
  rw [if_neg (by rw [h.sz]; simp; omega), hn, if_neg (by simp)]
theorem Blk.zer {l : List Int} (h : Blk l) (h0 : (rst l).1 ≠ []) : (zerP l.length ((rst l).1.length : Nat) (rZ l : Nat)).1 = 0 := by
  have h1 := h.tot
  have h2 := h.zr
  have h3 := List.length_pos_iff.2 h0
  unfold zerP
  rw [if_neg (by rw [h.sz]; simp; omega)]
  split <;> rfl
theorem lvsP_nil (k s : Nat) : lvsP k s [] = some [] := rfl
theorem runsP_zero : ∀ (B : List Nat), B.sum = 0 → runsP 0 B = []
  | [], _ => rfl
  | n :: B, h => by
    have h1 : n = 0 := by simp only [List.sum_cons] at h; omega
    have h2 : B.sum = 0 := by simp only [List.sum_cons] at h; omega
    subst h1
    simp only [runsP, runsP_zero B h2]; rfl
theorem slice_hi {L : List Int} (h : L ≠ []) {n : Nat} (hn : n ≤ L.length) : aSlice Try.prog 71 (isl L) none (some (.int .i64 (n : Int))) = some (.is (L.take n).length (ints (L.take n))) := by
  have hu : Try.prog.underlying 71 = some (.slice 3) := by kernel_rfl
  have hs : tsize Try.prog 3 = some 1 := by kernel_rfl
  unfold isl
  rw [if_neg h]
  have hl : (L.take n).length = n := by rw [List.length_take]; omega
  simp [aSlice, hu, hs, aNat, hn, ints_len, hl, ints, List.map_take]
theorem slice_lo {L : List Int} (h : L ≠ []) {n : Nat} (hn : n ≤ L.length) : aSlice Try.prog 71 (isl L) (some (.int .i64 (n : Int))) none = some (.is (L.drop n).length (ints (L.drop n))) := by
  have hu : Try.prog.underlying 71 = some (.slice 3) := by kernel_rfl
  have hs : tsize Try.prog 3 = some 1 := by kernel_rfl
  unfold isl
  rw [if_neg h]
  have ht : List.take (L.length - n) (List.drop n (ints L)) = ints (L.drop n) := by
    rw [List.take_of_length_le (by rw [List.length_drop, ints_len]; exact Nat.le_refl _)]; simp [ints, List.map_drop]
  simp [aSlice, hu, hs, aNat, hn, ints_len, ht]
theorem is_il (S : Heap) (L : List Int) (d : Nat) : IL S (.is L.length (ints L)) L d := .inr (.inl rfl)
theorem oneBit (v : Int) (h : v = 1 ∨ v = -1) : IntKind.wrap .u64 (Int.tdiv (IntKind.wrap .u64 (IntKind.wrap .i64 (1 - v))) 2) = ((if (v == -1) = true then 1 else 0 : Nat) : Int) := by
  rcases h with rfl | rfl <;> decide
def WOut (S : Heap) (p q : Nat) (bs : List Bool) (res : Option (List Bool)) (o : Option (AV × Heap)) : Prop :=
  ∃ S' q' r bs', o = some (AV.int .i64 r, S') ∧ Puts S S' p q q' bs bs' ∧ (∀ K, res = some K → r = 0 ∧ bs' = bs ++ K) ∧ (res = none → r = 12)
theorem Puts.of {S T : Heap} {p q q' : Nat} {bs bs' : List Bool} (h1 : Wr T p q' bs') (h2 : Fr S T [p, q]) (h3 : q' = q ∨ S.next ≤ q') : Puts S T p q q' bs bs' := ⟨h1, h2, h3⟩

end Go.Ab.tV
