/- What a call of each function comes to, in the tower of calls. Written by program: no condition. -/
import Derived.Test.YtomnllhlclpdjaaDoorKT
import Derived.IntWalk
set_option maxRecDepth 100000
set_option linter.unusedVariables false
namespace Go.Ab.tK
open Go Go.Proofs
open Classical in
noncomputable def ctlV : Ctl := { loop := loopW, same := fun ps => decide (∀ p ∈ ps, p.ok), tr := fun _ v S' => (v, S') }
theorem ctlV_ok : CtlOk ctlV where
  loop := fun _ _ _ h => loopW_some h
  same := fun ps h => by simpa [ctlV] using h
  tr := fun _ _ _ => .inl rfl
theorem callN_T {X : Ctl} {P : Program} {G : Nat → Option (List AV)} {A : Nat → Nat → FAn} {B : CallF} {k f way : Nat} {args : List AV} {S : Heap} {fn : Func} {an : FAn} (hB : B f way args S = none) (hf : P.funcs[f]? = some fn)
    (hn : (fn.name == "runtime.NumGoroutine") = false) (hlt : f < yldId) (ha : A f way = an) (hl : an.loc = false) : callN X P G A B (k + 1) f way args S = evFnA X P G (callN X P G A B k) fn an args S := by
  have h1 : ¬ yldId ≤ f := by omega
  simp only [callN, hB, ha, hl, oneC, if_neg h1, hf, hn, Bool.false_eq_true, if_false]
def An : Nat → Nat → FAn := fun f _ => if f = 3 then an_spindlelaw12_KindsTypes else if f = 4 then an_spindlelaw12_KindsParts else if f = 5 then an_spindlelaw12_KindsExamples else if f = 6 then an_spindlelaw12_KindsBack else if f = 7 then an_spindlelaw12_KindsCovers else if f = 8 then an_spindlelaw12_KindsRects else if f = 9 then an_kinds_Type else if f = 10 then an_spindleref12_Type else if f = 11 then an_kinds_Of else if f = 12 then an_spindleref12_Of else if f = 13 then an_kinds_Intra else if f = 14 then an_spindleref12_Intra else if f = 15 then an_spindlekit_EqualMb else if f = 16 then an_spindlelaw12_awake else if f = 17 then an_kinds_Pieces else if f = 18 then an_spindleref12_Pieces else if f = 19 then an_kinds_Parts else if f = 20 then an_spindleref12_Parts else if f = 21 then an_kinds_Cover else if f = 22 then an_spindleref12_Cover else if f = 23 then an_spindlekit_EqualInts else if f = 24 then an_kinds_Part else if f = 25 then an_spindleref12_Part else if f = 26 then an_spindlelaw12_typed else if f = 27 then an_spindlelaw12_mod else if f = 28 then an_place_At else if f = 29 then an_spindlekit_EqualVecs else if f = 30 then an_spindlekit_EqualBlocks else if f = 31 then an_kinds_parts else if f = 32 then an_spindleref12_All else if f = 33 then an_kinds_one else if f = 34 then an_place_Block else if f = 35 then an_slices_Sort_int_int else if f = 36 then an_spindleref12_one else if f = 37 then an_place_grid else if f = 38 then an_spindleref12_within else if f = 39 then an_spindleref12_quarter else if f = 40 then an_place_find else if f = 41 then an_slices_pdqsortOrdered_int else if f = 42 then an_math_bits_Len else if f = 43 then an_slices_insertionSortOrdered_int else if f = 44 then an_slices_heapSortOrdered_int else if f = 45 then an_slices_breakPatternsOrdered_int else if f = 46 then an_slices_choosePivotOrdered_int else if f = 47 then an_slices_reverseRangeOrdered_int else if f = 48 then an_slices_partialInsertionSortOrdered_int else if f = 49 then an_cmp_Less_int else if f = 50 then an_slices_partitionEqualOrdered_int else if f = 51 then an_slices_partitionOrdered_int else if f = 52 then an_math_bits_Len32 else if f = 53 then an_math_bits_Len64 else if f = 54 then an_slices_siftDownOrdered_int else if f = 55 then an_slices_nextPowerOfTwo else if f = 56 then an_slices_xorshift_Next else if f = 57 then an_slices_medianAdjacentOrdered_int else if f = 58 then an_slices_medianOrdered_int else if f = 59 then an_cmp_isNaN_int else if f = 60 then an_slices_order2Ordered_int else ⟨.nil, false, false⟩
noncomputable abbrev Cn (B : CallF) (k : Nat) : CallF := callN (rngC ctlV) Tryd.prog Gk An B k
theorem c_spindlelaw12_KindsTypes (B : CallF) (k : Nat) (a0 a1 a2 a3 a4 : AV) (S : Heap) (hB : B f_spindlelaw12_KindsTypes 0 [a0, a1, a2, a3, a4] S = none) : Cn B (k + 1) f_spindlelaw12_KindsTypes 0 [a0, a1, a2, a3, a4] S = T_spindlelaw12_KindsTypes ctlV Gk (Cn B k) a0 a1 a2 a3 a4 S :=
  (callN_T hB (by kernel_rfl) (by kernel_rfl) (by decide) (by rfl) (by rfl)).trans (t_spindlelaw12_KindsTypes ctlV Gk (Cn B k) a0 a1 a2 a3 a4 S)
theorem c_spindlelaw12_KindsParts (B : CallF) (k : Nat) (a0 a1 a2 : AV) (S : Heap) (hB : B f_spindlelaw12_KindsParts 0 [a0, a1, a2] S = none) : Cn B (k + 1) f_spindlelaw12_KindsParts 0 [a0, a1, a2] S = T_spindlelaw12_KindsParts ctlV Gk (Cn B k) a0 a1 a2 S :=
  (callN_T hB (by kernel_rfl) (by kernel_rfl) (by decide) (by rfl) (by rfl)).trans (t_spindlelaw12_KindsParts ctlV Gk (Cn B k) a0 a1 a2 S)
theorem c_spindlelaw12_KindsExamples (B : CallF) (k : Nat) (S : Heap) (hB : B f_spindlelaw12_KindsExamples 0 [] S = none) : Cn B (k + 1) f_spindlelaw12_KindsExamples 0 [] S = T_spindlelaw12_KindsExamples ctlV Gk (Cn B k) S :=
  (callN_T hB (by kernel_rfl) (by kernel_rfl) (by decide) (by rfl) (by rfl)).trans (t_spindlelaw12_KindsExamples ctlV Gk (Cn B k) S)
theorem c_spindlelaw12_KindsBack (B : CallF) (k : Nat) (a0 a1 a2 a3 a4 : AV) (S : Heap) (hB : B f_spindlelaw12_KindsBack 0 [a0, a1, a2, a3, a4] S = none) : Cn B (k + 1) f_spindlelaw12_KindsBack 0 [a0, a1, a2, a3, a4] S = T_spindlelaw12_KindsBack ctlV Gk (Cn B k) a0 a1 a2 a3 a4 S :=
  (callN_T hB (by kernel_rfl) (by kernel_rfl) (by decide) (by rfl) (by rfl)).trans (t_spindlelaw12_KindsBack ctlV Gk (Cn B k) a0 a1 a2 a3 a4 S)
theorem c_spindlelaw12_KindsCovers (B : CallF) (k : Nat) (a0 a1 : AV) (S : Heap) (hB : B f_spindlelaw12_KindsCovers 0 [a0, a1] S = none) : Cn B (k + 1) f_spindlelaw12_KindsCovers 0 [a0, a1] S = T_spindlelaw12_KindsCovers ctlV Gk (Cn B k) a0 a1 S :=
  (callN_T hB (by kernel_rfl) (by kernel_rfl) (by decide) (by rfl) (by rfl)).trans (t_spindlelaw12_KindsCovers ctlV Gk (Cn B k) a0 a1 S)
theorem c_spindlelaw12_KindsRects (B : CallF) (k : Nat) (a0 a1 a2 : AV) (S : Heap) (hB : B f_spindlelaw12_KindsRects 0 [a0, a1, a2] S = none) : Cn B (k + 1) f_spindlelaw12_KindsRects 0 [a0, a1, a2] S = T_spindlelaw12_KindsRects ctlV Gk (Cn B k) a0 a1 a2 S :=
  (callN_T hB (by kernel_rfl) (by kernel_rfl) (by decide) (by rfl) (by rfl)).trans (t_spindlelaw12_KindsRects ctlV Gk (Cn B k) a0 a1 a2 S)
theorem c_kinds_Type (B : CallF) (k : Nat) (a0 a1 : AV) (S : Heap) (hB : B f_kinds_Type 0 [a0, a1] S = none) : Cn B (k + 1) f_kinds_Type 0 [a0, a1] S = T_kinds_Type ctlV Gk (Cn B k) a0 a1 S :=
  (callN_T hB (by kernel_rfl) (by kernel_rfl) (by decide) (by rfl) (by rfl)).trans (t_kinds_Type ctlV Gk (Cn B k) a0 a1 S)
theorem c_spindleref12_Type (B : CallF) (k : Nat) (a0 a1 : AV) (S : Heap) (hB : B f_spindleref12_Type 0 [a0, a1] S = none) : Cn B (k + 1) f_spindleref12_Type 0 [a0, a1] S = T_spindleref12_Type ctlV Gk (Cn B k) a0 a1 S :=
  (callN_T hB (by kernel_rfl) (by kernel_rfl) (by decide) (by rfl) (by rfl)).trans (t_spindleref12_Type ctlV Gk (Cn B k) a0 a1 S)
theorem c_kinds_Of (B : CallF) (k : Nat) (a0 a1 : AV) (S : Heap) (hB : B f_kinds_Of 0 [a0, a1] S = none) : Cn B (k + 1) f_kinds_Of 0 [a0, a1] S = T_kinds_Of ctlV Gk (Cn B k) a0 a1 S :=
  (callN_T hB (by kernel_rfl) (by kernel_rfl) (by decide) (by rfl) (by rfl)).trans (t_kinds_Of ctlV Gk (Cn B k) a0 a1 S)
theorem c_spindleref12_Of (B : CallF) (k : Nat) (a0 a1 : AV) (S : Heap) (hB : B f_spindleref12_Of 0 [a0, a1] S = none) : Cn B (k + 1) f_spindleref12_Of 0 [a0, a1] S = T_spindleref12_Of ctlV Gk (Cn B k) a0 a1 S :=
  (callN_T hB (by kernel_rfl) (by kernel_rfl) (by decide) (by rfl) (by rfl)).trans (t_spindleref12_Of ctlV Gk (Cn B k) a0 a1 S)
theorem c_kinds_Intra (B : CallF) (k : Nat) (a0 : AV) (S : Heap) (hB : B f_kinds_Intra 0 [a0] S = none) : Cn B (k + 1) f_kinds_Intra 0 [a0] S = T_kinds_Intra ctlV Gk (Cn B k) a0 S :=
  (callN_T hB (by kernel_rfl) (by kernel_rfl) (by decide) (by rfl) (by rfl)).trans (t_kinds_Intra ctlV Gk (Cn B k) a0 S)
theorem c_spindleref12_Intra (B : CallF) (k : Nat) (a0 : AV) (S : Heap) (hB : B f_spindleref12_Intra 0 [a0] S = none) : Cn B (k + 1) f_spindleref12_Intra 0 [a0] S = T_spindleref12_Intra ctlV Gk (Cn B k) a0 S :=
  (callN_T hB (by kernel_rfl) (by kernel_rfl) (by decide) (by rfl) (by rfl)).trans (t_spindleref12_Intra ctlV Gk (Cn B k) a0 S)
theorem c_spindlekit_EqualMb (B : CallF) (k : Nat) (a0 a1 : AV) (S : Heap) (hB : B f_spindlekit_EqualMb 0 [a0, a1] S = none) : Cn B (k + 1) f_spindlekit_EqualMb 0 [a0, a1] S = T_spindlekit_EqualMb ctlV Gk (Cn B k) a0 a1 S :=
  (callN_T hB (by kernel_rfl) (by kernel_rfl) (by decide) (by rfl) (by rfl)).trans (t_spindlekit_EqualMb ctlV Gk (Cn B k) a0 a1 S)
theorem c_spindlelaw12_awake (B : CallF) (k : Nat) (S : Heap) (hB : B f_spindlelaw12_awake 0 [] S = none) : Cn B (k + 1) f_spindlelaw12_awake 0 [] S = T_spindlelaw12_awake ctlV Gk (Cn B k) S :=
  (callN_T hB (by kernel_rfl) (by kernel_rfl) (by decide) (by rfl) (by rfl)).trans (t_spindlelaw12_awake ctlV Gk (Cn B k) S)
theorem c_kinds_Pieces (B : CallF) (k : Nat) (a0 a1 : AV) (S : Heap) (hB : B f_kinds_Pieces 0 [a0, a1] S = none) : Cn B (k + 1) f_kinds_Pieces 0 [a0, a1] S = T_kinds_Pieces ctlV Gk (Cn B k) a0 a1 S :=
  (callN_T hB (by kernel_rfl) (by kernel_rfl) (by decide) (by rfl) (by rfl)).trans (t_kinds_Pieces ctlV Gk (Cn B k) a0 a1 S)
theorem c_spindleref12_Pieces (B : CallF) (k : Nat) (a0 a1 : AV) (S : Heap) (hB : B f_spindleref12_Pieces 0 [a0, a1] S = none) : Cn B (k + 1) f_spindleref12_Pieces 0 [a0, a1] S = T_spindleref12_Pieces ctlV Gk (Cn B k) a0 a1 S :=
  (callN_T hB (by kernel_rfl) (by kernel_rfl) (by decide) (by rfl) (by rfl)).trans (t_spindleref12_Pieces ctlV Gk (Cn B k) a0 a1 S)
theorem c_kinds_Parts (B : CallF) (k : Nat) (a0 : AV) (S : Heap) (hB : B f_kinds_Parts 0 [a0] S = none) : Cn B (k + 1) f_kinds_Parts 0 [a0] S = T_kinds_Parts ctlV Gk (Cn B k) a0 S :=
  (callN_T hB (by kernel_rfl) (by kernel_rfl) (by decide) (by rfl) (by rfl)).trans (t_kinds_Parts ctlV Gk (Cn B k) a0 S)
theorem c_spindleref12_Parts (B : CallF) (k : Nat) (a0 : AV) (S : Heap) (hB : B f_spindleref12_Parts 0 [a0] S = none) : Cn B (k + 1) f_spindleref12_Parts 0 [a0] S = T_spindleref12_Parts ctlV Gk (Cn B k) a0 S :=
  (callN_T hB (by kernel_rfl) (by kernel_rfl) (by decide) (by rfl) (by rfl)).trans (t_spindleref12_Parts ctlV Gk (Cn B k) a0 S)
theorem c_kinds_Cover (B : CallF) (k : Nat) (a0 a1 a2 : AV) (S : Heap) (hB : B f_kinds_Cover 0 [a0, a1, a2] S = none) : Cn B (k + 1) f_kinds_Cover 0 [a0, a1, a2] S = T_kinds_Cover ctlV Gk (Cn B k) a0 a1 a2 S :=
  (callN_T hB (by kernel_rfl) (by kernel_rfl) (by decide) (by rfl) (by rfl)).trans (t_kinds_Cover ctlV Gk (Cn B k) a0 a1 a2 S)
theorem c_spindleref12_Cover (B : CallF) (k : Nat) (a0 a1 a2 : AV) (S : Heap) (hB : B f_spindleref12_Cover 0 [a0, a1, a2] S = none) : Cn B (k + 1) f_spindleref12_Cover 0 [a0, a1, a2] S = T_spindleref12_Cover ctlV Gk (Cn B k) a0 a1 a2 S :=
  (callN_T hB (by kernel_rfl) (by kernel_rfl) (by decide) (by rfl) (by rfl)).trans (t_spindleref12_Cover ctlV Gk (Cn B k) a0 a1 a2 S)
theorem c_spindlekit_EqualInts (B : CallF) (k : Nat) (a0 a1 : AV) (S : Heap) (hB : B f_spindlekit_EqualInts 0 [a0, a1] S = none) : Cn B (k + 1) f_spindlekit_EqualInts 0 [a0, a1] S = T_spindlekit_EqualInts ctlV Gk (Cn B k) a0 a1 S :=
  (callN_T hB (by kernel_rfl) (by kernel_rfl) (by decide) (by rfl) (by rfl)).trans (t_spindlekit_EqualInts ctlV Gk (Cn B k) a0 a1 S)
theorem c_kinds_Part (B : CallF) (k : Nat) (a0 a1 a2 : AV) (S : Heap) (hB : B f_kinds_Part 0 [a0, a1, a2] S = none) : Cn B (k + 1) f_kinds_Part 0 [a0, a1, a2] S = T_kinds_Part ctlV Gk (Cn B k) a0 a1 a2 S :=
  (callN_T hB (by kernel_rfl) (by kernel_rfl) (by decide) (by rfl) (by rfl)).trans (t_kinds_Part ctlV Gk (Cn B k) a0 a1 a2 S)
theorem c_spindleref12_Part (B : CallF) (k : Nat) (a0 a1 a2 : AV) (S : Heap) (hB : B f_spindleref12_Part 0 [a0, a1, a2] S = none) : Cn B (k + 1) f_spindleref12_Part 0 [a0, a1, a2] S = T_spindleref12_Part ctlV Gk (Cn B k) a0 a1 a2 S :=
  (callN_T hB (by kernel_rfl) (by kernel_rfl) (by decide) (by rfl) (by rfl)).trans (t_spindleref12_Part ctlV Gk (Cn B k) a0 a1 a2 S)
theorem c_spindlelaw12_typed (B : CallF) (k : Nat) (a0 a1 a2 : AV) (S : Heap) (hB : B f_spindlelaw12_typed 0 [a0, a1, a2] S = none) : Cn B (k + 1) f_spindlelaw12_typed 0 [a0, a1, a2] S = T_spindlelaw12_typed ctlV Gk (Cn B k) a0 a1 a2 S :=
  (callN_T hB (by kernel_rfl) (by kernel_rfl) (by decide) (by rfl) (by rfl)).trans (t_spindlelaw12_typed ctlV Gk (Cn B k) a0 a1 a2 S)
theorem c_spindlelaw12_mod (B : CallF) (k : Nat) (a0 a1 : AV) (S : Heap) (hB : B f_spindlelaw12_mod 0 [a0, a1] S = none) : Cn B (k + 1) f_spindlelaw12_mod 0 [a0, a1] S = T_spindlelaw12_mod ctlV Gk (Cn B k) a0 a1 S :=
  (callN_T hB (by kernel_rfl) (by kernel_rfl) (by decide) (by rfl) (by rfl)).trans (t_spindlelaw12_mod ctlV Gk (Cn B k) a0 a1 S)
theorem c_place_At (B : CallF) (k : Nat) (a0 : AV) (S : Heap) (hB : B f_place_At 0 [a0] S = none) : Cn B (k + 1) f_place_At 0 [a0] S = T_place_At ctlV Gk (Cn B k) a0 S :=
  (callN_T hB (by kernel_rfl) (by kernel_rfl) (by decide) (by rfl) (by rfl)).trans (t_place_At ctlV Gk (Cn B k) a0 S)
theorem c_spindlekit_EqualVecs (B : CallF) (k : Nat) (a0 a1 : AV) (S : Heap) (hB : B f_spindlekit_EqualVecs 0 [a0, a1] S = none) : Cn B (k + 1) f_spindlekit_EqualVecs 0 [a0, a1] S = T_spindlekit_EqualVecs ctlV Gk (Cn B k) a0 a1 S :=
  (callN_T hB (by kernel_rfl) (by kernel_rfl) (by decide) (by rfl) (by rfl)).trans (t_spindlekit_EqualVecs ctlV Gk (Cn B k) a0 a1 S)
theorem c_spindlekit_EqualBlocks (B : CallF) (k : Nat) (a0 a1 : AV) (S : Heap) (hB : B f_spindlekit_EqualBlocks 0 [a0, a1] S = none) : Cn B (k + 1) f_spindlekit_EqualBlocks 0 [a0, a1] S = T_spindlekit_EqualBlocks ctlV Gk (Cn B k) a0 a1 S :=
  (callN_T hB (by kernel_rfl) (by kernel_rfl) (by decide) (by rfl) (by rfl)).trans (t_spindlekit_EqualBlocks ctlV Gk (Cn B k) a0 a1 S)
theorem c_kinds_parts (B : CallF) (k : Nat) (a0 a1 : AV) (S : Heap) (hB : B f_kinds_parts 0 [a0, a1] S = none) : Cn B (k + 1) f_kinds_parts 0 [a0, a1] S = T_kinds_parts ctlV Gk (Cn B k) a0 a1 S :=
  (callN_T hB (by kernel_rfl) (by kernel_rfl) (by decide) (by rfl) (by rfl)).trans (t_kinds_parts ctlV Gk (Cn B k) a0 a1 S)
theorem c_spindleref12_All (B : CallF) (k : Nat) (a0 a1 : AV) (S : Heap) (hB : B f_spindleref12_All 0 [a0, a1] S = none) : Cn B (k + 1) f_spindleref12_All 0 [a0, a1] S = T_spindleref12_All ctlV Gk (Cn B k) a0 a1 S :=
  (callN_T hB (by kernel_rfl) (by kernel_rfl) (by decide) (by rfl) (by rfl)).trans (t_spindleref12_All ctlV Gk (Cn B k) a0 a1 S)
theorem c_kinds_one (B : CallF) (k : Nat) (a0 a1 a2 : AV) (S : Heap) (hB : B f_kinds_one 0 [a0, a1, a2] S = none) : Cn B (k + 1) f_kinds_one 0 [a0, a1, a2] S = T_kinds_one ctlV Gk (Cn B k) a0 a1 a2 S :=
  (callN_T hB (by kernel_rfl) (by kernel_rfl) (by decide) (by rfl) (by rfl)).trans (t_kinds_one ctlV Gk (Cn B k) a0 a1 a2 S)
theorem c_place_Block (B : CallF) (k : Nat) (a0 a1 : AV) (S : Heap) (hB : B f_place_Block 0 [a0, a1] S = none) : Cn B (k + 1) f_place_Block 0 [a0, a1] S = T_place_Block ctlV Gk (Cn B k) a0 a1 S :=
  (callN_T hB (by kernel_rfl) (by kernel_rfl) (by decide) (by rfl) (by rfl)).trans (t_place_Block ctlV Gk (Cn B k) a0 a1 S)
theorem c_slices_Sort_int_int (B : CallF) (k : Nat) (a0 : AV) (S : Heap) (hB : B f_slices_Sort_int_int 0 [a0] S = none) : Cn B (k + 1) f_slices_Sort_int_int 0 [a0] S = T_slices_Sort_int_int ctlV Gk (Cn B k) a0 S :=
  (callN_T hB (by kernel_rfl) (by kernel_rfl) (by decide) (by rfl) (by rfl)).trans (t_slices_Sort_int_int ctlV Gk (Cn B k) a0 S)
theorem c_spindleref12_one (B : CallF) (k : Nat) (a0 a1 a2 : AV) (S : Heap) (hB : B f_spindleref12_one 0 [a0, a1, a2] S = none) : Cn B (k + 1) f_spindleref12_one 0 [a0, a1, a2] S = T_spindleref12_one ctlV Gk (Cn B k) a0 a1 a2 S :=
  (callN_T hB (by kernel_rfl) (by kernel_rfl) (by decide) (by rfl) (by rfl)).trans (t_spindleref12_one ctlV Gk (Cn B k) a0 a1 a2 S)
theorem c_place_grid (B : CallF) (k : Nat) (a0 : AV) (S : Heap) (hB : B f_place_grid 0 [a0] S = none) : Cn B (k + 1) f_place_grid 0 [a0] S = T_place_grid ctlV Gk (Cn B k) a0 S :=
  (callN_T hB (by kernel_rfl) (by kernel_rfl) (by decide) (by rfl) (by rfl)).trans (t_place_grid ctlV Gk (Cn B k) a0 S)
theorem c_spindleref12_within (B : CallF) (k : Nat) (a0 a1 a2 a3 : AV) (S : Heap) (hB : B f_spindleref12_within 0 [a0, a1, a2, a3] S = none) : Cn B (k + 1) f_spindleref12_within 0 [a0, a1, a2, a3] S = T_spindleref12_within ctlV Gk (Cn B k) a0 a1 a2 a3 S :=
  (callN_T hB (by kernel_rfl) (by kernel_rfl) (by decide) (by rfl) (by rfl)).trans (t_spindleref12_within ctlV Gk (Cn B k) a0 a1 a2 a3 S)
theorem c_spindleref12_quarter (B : CallF) (k : Nat) (a0 a1 : AV) (S : Heap) (hB : B f_spindleref12_quarter 0 [a0, a1] S = none) : Cn B (k + 1) f_spindleref12_quarter 0 [a0, a1] S = T_spindleref12_quarter ctlV Gk (Cn B k) a0 a1 S :=
  (callN_T hB (by kernel_rfl) (by kernel_rfl) (by decide) (by rfl) (by rfl)).trans (t_spindleref12_quarter ctlV Gk (Cn B k) a0 a1 S)
theorem c_place_find (B : CallF) (k : Nat) (a0 a1 a2 : AV) (S : Heap) (hB : B f_place_find 0 [a0, a1, a2] S = none) : Cn B (k + 1) f_place_find 0 [a0, a1, a2] S = T_place_find ctlV Gk (Cn B k) a0 a1 a2 S :=
  (callN_T hB (by kernel_rfl) (by kernel_rfl) (by decide) (by rfl) (by rfl)).trans (t_place_find ctlV Gk (Cn B k) a0 a1 a2 S)
theorem c_slices_pdqsortOrdered_int (B : CallF) (k : Nat) (a0 a1 a2 a3 : AV) (S : Heap) (hB : B f_slices_pdqsortOrdered_int 0 [a0, a1, a2, a3] S = none) : Cn B (k + 1) f_slices_pdqsortOrdered_int 0 [a0, a1, a2, a3] S = T_slices_pdqsortOrdered_int ctlV Gk (Cn B k) a0 a1 a2 a3 S :=
  (callN_T hB (by kernel_rfl) (by kernel_rfl) (by decide) (by rfl) (by rfl)).trans (t_slices_pdqsortOrdered_int ctlV Gk (Cn B k) a0 a1 a2 a3 S)
theorem c_math_bits_Len (B : CallF) (k : Nat) (a0 : AV) (S : Heap) (hB : B f_math_bits_Len 0 [a0] S = none) : Cn B (k + 1) f_math_bits_Len 0 [a0] S = T_math_bits_Len ctlV Gk (Cn B k) a0 S :=
  (callN_T hB (by kernel_rfl) (by kernel_rfl) (by decide) (by rfl) (by rfl)).trans (t_math_bits_Len ctlV Gk (Cn B k) a0 S)
theorem c_slices_insertionSortOrdered_int (B : CallF) (k : Nat) (a0 a1 a2 : AV) (S : Heap) (hB : B f_slices_insertionSortOrdered_int 0 [a0, a1, a2] S = none) : Cn B (k + 1) f_slices_insertionSortOrdered_int 0 [a0, a1, a2] S = T_slices_insertionSortOrdered_int ctlV Gk (Cn B k) a0 a1 a2 S :=
  (callN_T hB (by kernel_rfl) (by kernel_rfl) (by decide) (by rfl) (by rfl)).trans (t_slices_insertionSortOrdered_int ctlV Gk (Cn B k) a0 a1 a2 S)
theorem c_slices_heapSortOrdered_int (B : CallF) (k : Nat) (a0 a1 a2 : AV) (S : Heap) (hB : B f_slices_heapSortOrdered_int 0 [a0, a1, a2] S = none) : Cn B (k + 1) f_slices_heapSortOrdered_int 0 [a0, a1, a2] S = T_slices_heapSortOrdered_int ctlV Gk (Cn B k) a0 a1 a2 S :=
  (callN_T hB (by kernel_rfl) (by kernel_rfl) (by decide) (by rfl) (by rfl)).trans (t_slices_heapSortOrdered_int ctlV Gk (Cn B k) a0 a1 a2 S)
theorem c_slices_breakPatternsOrdered_int (B : CallF) (k : Nat) (a0 a1 a2 : AV) (S : Heap) (hB : B f_slices_breakPatternsOrdered_int 0 [a0, a1, a2] S = none) : Cn B (k + 1) f_slices_breakPatternsOrdered_int 0 [a0, a1, a2] S = T_slices_breakPatternsOrdered_int ctlV Gk (Cn B k) a0 a1 a2 S :=
  (callN_T hB (by kernel_rfl) (by kernel_rfl) (by decide) (by rfl) (by rfl)).trans (t_slices_breakPatternsOrdered_int ctlV Gk (Cn B k) a0 a1 a2 S)
theorem c_slices_choosePivotOrdered_int (B : CallF) (k : Nat) (a0 a1 a2 : AV) (S : Heap) (hB : B f_slices_choosePivotOrdered_int 0 [a0, a1, a2] S = none) : Cn B (k + 1) f_slices_choosePivotOrdered_int 0 [a0, a1, a2] S = T_slices_choosePivotOrdered_int ctlV Gk (Cn B k) a0 a1 a2 S :=
  (callN_T hB (by kernel_rfl) (by kernel_rfl) (by decide) (by rfl) (by rfl)).trans (t_slices_choosePivotOrdered_int ctlV Gk (Cn B k) a0 a1 a2 S)
theorem c_slices_reverseRangeOrdered_int (B : CallF) (k : Nat) (a0 a1 a2 : AV) (S : Heap) (hB : B f_slices_reverseRangeOrdered_int 0 [a0, a1, a2] S = none) : Cn B (k + 1) f_slices_reverseRangeOrdered_int 0 [a0, a1, a2] S = T_slices_reverseRangeOrdered_int ctlV Gk (Cn B k) a0 a1 a2 S :=
  (callN_T hB (by kernel_rfl) (by kernel_rfl) (by decide) (by rfl) (by rfl)).trans (t_slices_reverseRangeOrdered_int ctlV Gk (Cn B k) a0 a1 a2 S)
theorem c_slices_partialInsertionSortOrdered_int (B : CallF) (k : Nat) (a0 a1 a2 : AV) (S : Heap) (hB : B f_slices_partialInsertionSortOrdered_int 0 [a0, a1, a2] S = none) : Cn B (k + 1) f_slices_partialInsertionSortOrdered_int 0 [a0, a1, a2] S = T_slices_partialInsertionSortOrdered_int ctlV Gk (Cn B k) a0 a1 a2 S :=
  (callN_T hB (by kernel_rfl) (by kernel_rfl) (by decide) (by rfl) (by rfl)).trans (t_slices_partialInsertionSortOrdered_int ctlV Gk (Cn B k) a0 a1 a2 S)
theorem c_cmp_Less_int (B : CallF) (k : Nat) (a0 a1 : AV) (S : Heap) (hB : B f_cmp_Less_int 0 [a0, a1] S = none) : Cn B (k + 1) f_cmp_Less_int 0 [a0, a1] S = T_cmp_Less_int ctlV Gk (Cn B k) a0 a1 S :=
  (callN_T hB (by kernel_rfl) (by kernel_rfl) (by decide) (by rfl) (by rfl)).trans (t_cmp_Less_int ctlV Gk (Cn B k) a0 a1 S)
theorem c_slices_partitionEqualOrdered_int (B : CallF) (k : Nat) (a0 a1 a2 a3 : AV) (S : Heap) (hB : B f_slices_partitionEqualOrdered_int 0 [a0, a1, a2, a3] S = none) : Cn B (k + 1) f_slices_partitionEqualOrdered_int 0 [a0, a1, a2, a3] S = T_slices_partitionEqualOrdered_int ctlV Gk (Cn B k) a0 a1 a2 a3 S :=
  (callN_T hB (by kernel_rfl) (by kernel_rfl) (by decide) (by rfl) (by rfl)).trans (t_slices_partitionEqualOrdered_int ctlV Gk (Cn B k) a0 a1 a2 a3 S)
theorem c_slices_partitionOrdered_int (B : CallF) (k : Nat) (a0 a1 a2 a3 : AV) (S : Heap) (hB : B f_slices_partitionOrdered_int 0 [a0, a1, a2, a3] S = none) : Cn B (k + 1) f_slices_partitionOrdered_int 0 [a0, a1, a2, a3] S = T_slices_partitionOrdered_int ctlV Gk (Cn B k) a0 a1 a2 a3 S :=
  (callN_T hB (by kernel_rfl) (by kernel_rfl) (by decide) (by rfl) (by rfl)).trans (t_slices_partitionOrdered_int ctlV Gk (Cn B k) a0 a1 a2 a3 S)
theorem c_math_bits_Len32 (B : CallF) (k : Nat) (a0 : AV) (S : Heap) (hB : B f_math_bits_Len32 0 [a0] S = none) : Cn B (k + 1) f_math_bits_Len32 0 [a0] S = T_math_bits_Len32 ctlV Gk (Cn B k) a0 S :=
  (callN_T hB (by kernel_rfl) (by kernel_rfl) (by decide) (by rfl) (by rfl)).trans (t_math_bits_Len32 ctlV Gk (Cn B k) a0 S)
theorem c_math_bits_Len64 (B : CallF) (k : Nat) (a0 : AV) (S : Heap) (hB : B f_math_bits_Len64 0 [a0] S = none) : Cn B (k + 1) f_math_bits_Len64 0 [a0] S = T_math_bits_Len64 ctlV Gk (Cn B k) a0 S :=
  (callN_T hB (by kernel_rfl) (by kernel_rfl) (by decide) (by rfl) (by rfl)).trans (t_math_bits_Len64 ctlV Gk (Cn B k) a0 S)
theorem c_slices_siftDownOrdered_int (B : CallF) (k : Nat) (a0 a1 a2 a3 : AV) (S : Heap) (hB : B f_slices_siftDownOrdered_int 0 [a0, a1, a2, a3] S = none) : Cn B (k + 1) f_slices_siftDownOrdered_int 0 [a0, a1, a2, a3] S = T_slices_siftDownOrdered_int ctlV Gk (Cn B k) a0 a1 a2 a3 S :=
  (callN_T hB (by kernel_rfl) (by kernel_rfl) (by decide) (by rfl) (by rfl)).trans (t_slices_siftDownOrdered_int ctlV Gk (Cn B k) a0 a1 a2 a3 S)
theorem c_slices_nextPowerOfTwo (B : CallF) (k : Nat) (a0 : AV) (S : Heap) (hB : B f_slices_nextPowerOfTwo 0 [a0] S = none) : Cn B (k + 1) f_slices_nextPowerOfTwo 0 [a0] S = T_slices_nextPowerOfTwo ctlV Gk (Cn B k) a0 S :=
  (callN_T hB (by kernel_rfl) (by kernel_rfl) (by decide) (by rfl) (by rfl)).trans (t_slices_nextPowerOfTwo ctlV Gk (Cn B k) a0 S)
theorem c_slices_xorshift_Next (B : CallF) (k : Nat) (a0 : AV) (S : Heap) (hB : B f_slices_xorshift_Next 0 [a0] S = none) : Cn B (k + 1) f_slices_xorshift_Next 0 [a0] S = T_slices_xorshift_Next ctlV Gk (Cn B k) a0 S :=
  (callN_T hB (by kernel_rfl) (by kernel_rfl) (by decide) (by rfl) (by rfl)).trans (t_slices_xorshift_Next ctlV Gk (Cn B k) a0 S)
theorem c_slices_medianAdjacentOrdered_int (B : CallF) (k : Nat) (a0 a1 a2 : AV) (S : Heap) (hB : B f_slices_medianAdjacentOrdered_int 0 [a0, a1, a2] S = none) : Cn B (k + 1) f_slices_medianAdjacentOrdered_int 0 [a0, a1, a2] S = T_slices_medianAdjacentOrdered_int ctlV Gk (Cn B k) a0 a1 a2 S :=
  (callN_T hB (by kernel_rfl) (by kernel_rfl) (by decide) (by rfl) (by rfl)).trans (t_slices_medianAdjacentOrdered_int ctlV Gk (Cn B k) a0 a1 a2 S)
theorem c_slices_medianOrdered_int (B : CallF) (k : Nat) (a0 a1 a2 a3 a4 : AV) (S : Heap) (hB : B f_slices_medianOrdered_int 0 [a0, a1, a2, a3, a4] S = none) : Cn B (k + 1) f_slices_medianOrdered_int 0 [a0, a1, a2, a3, a4] S = T_slices_medianOrdered_int ctlV Gk (Cn B k) a0 a1 a2 a3 a4 S :=
  (callN_T hB (by kernel_rfl) (by kernel_rfl) (by decide) (by rfl) (by rfl)).trans (t_slices_medianOrdered_int ctlV Gk (Cn B k) a0 a1 a2 a3 a4 S)
theorem c_cmp_isNaN_int (B : CallF) (k : Nat) (a0 : AV) (S : Heap) (hB : B f_cmp_isNaN_int 0 [a0] S = none) : Cn B (k + 1) f_cmp_isNaN_int 0 [a0] S = T_cmp_isNaN_int ctlV Gk (Cn B k) a0 S :=
  (callN_T hB (by kernel_rfl) (by kernel_rfl) (by decide) (by rfl) (by rfl)).trans (t_cmp_isNaN_int ctlV Gk (Cn B k) a0 S)
theorem c_slices_order2Ordered_int (B : CallF) (k : Nat) (a0 a1 a2 a3 : AV) (S : Heap) (hB : B f_slices_order2Ordered_int 0 [a0, a1, a2, a3] S = none) : Cn B (k + 1) f_slices_order2Ordered_int 0 [a0, a1, a2, a3] S = T_slices_order2Ordered_int ctlV Gk (Cn B k) a0 a1 a2 a3 S :=
  (callN_T hB (by kernel_rfl) (by kernel_rfl) (by decide) (by rfl) (by rfl)).trans (t_slices_order2Ordered_int ctlV Gk (Cn B k) a0 a1 a2 a3 S)
end Go.Ab.tK
