/- What a call of each function comes to, in the tower of calls. Written by program: no condition. -/
import Derived.Test.YtbmcdphiolidkaaDoorIT1
set_option maxRecDepth 100000
set_option linter.unusedVariables false
namespace Go.Ab.tNearU
open Go Go.Proofs
theorem callN_T {X : Ctl} {P : Program} {G : Nat → Option (List AV)} {A : Nat → Nat → FAn} {B : CallF} {k f way : Nat} {args : List AV} {S : Heap} {fn : Func} {an : FAn} (hB : B f way args S = none) (hf : P.funcs[f]? = some fn)
    (hn : (fn.name == "runtime.NumGoroutine") = false) (hlt : f < yldId) (ha : A f way = an) (hl : an.loc = false) : callN X P G A B (k + 1) f way args S = evFnA X P G (callN X P G A B k) fn an args S := by
  have h1 : ¬ yldId ≤ f := by omega
  simp only [callN, hB, ha, hl, oneC, if_neg h1, hf, hn, Bool.false_eq_true, if_false]
def An : Nat → Nat → FAn := fun f w => if f = 10 ∧ w = 1 then an_spindlekit_CopyMb_w1 else if f = 32 ∧ w = 1 then an_spindlekit_CopyInts_w1 else if f = 33 ∧ w = 1 then an_spindlekit_CopyBlocks_w1 else if f = 3 then an_spindlelaw16_IncMoves else if f = 4 then an_spindlelaw16_IncSigns else if f = 5 then an_spindlelaw16_IncBlind else if f = 6 then an_spindlelaw14_Few else if f = 7 then an_spindlelaw16_Still else if f = 8 then an_spindlelaw15_Both else if f = 9 then an_spindlelaw16_awake else if f = 10 then an_spindlekit_CopyMb else if f = 11 then an_inc_Ref else if f = 12 then an_spindleref16_Ref else if f = 13 then an_inc_Mvd else if f = 14 then an_spindleref16_Mvd else if f = 15 then an_spindlekit_EqualMb else if f = 16 then an_spindlekit_CopyMbs else if f = 17 then an_spindlelaw16_negate else if f = 18 then an_spindlelaw15_Blocks else if f = 19 then an_inc_Block else if f = 20 then an_inc_Skip else if f = 21 then an_inc_Type else if f = 22 then an_inc_Mode else if f = 23 then an_inc_Qp else if f = 24 then an_inc_Chroma else if f = 25 then an_inc_Luma else if f = 26 then an_near_New else if f = 27 then an_spindleref14_New else if f = 28 then an_near_Near_Add else if f = 29 then an_spindleref14_Near_Add else if f = 30 then an_spindlelaw15_Pcm else if f = 31 then an_spindlelaw16_moved else if f = 32 then an_spindlekit_CopyInts else if f = 33 then an_spindlekit_CopyBlocks else if f = 34 then an_inc_moves else if f = 35 then an_kinds_Parts else if f = 36 then an_mb_Copy else if f = 37 then an_inc_Ref_1 else if f = 38 then an_inc_Ref_1_1 else if f = 39 then an_inc_index else if f = 40 then an_inc_weigh else if f = 41 then an_spindleref16_Moves else if f = 42 then an_spindleref12_Parts else if f = 43 then an_spindleref16_both else if f = 44 then an_spindleref16_quarter else if f = 45 then an_spindleref16_increment else if f = 46 then an_kinds_Pieces else if f = 47 then an_kinds_Cover else if f = 48 then an_inc_Mvd_1 else if f = 49 then an_inc_size else if f = 50 then an_place_Left else if f = 51 then an_near_Near_Left else if f = 52 then an_place_Above else if f = 53 then an_near_Near_Above else if f = 54 then an_spindleref12_Pieces else if f = 55 then an_spindleref12_Cover else if f = 56 then an_spindleref11_Left else if f = 57 then an_spindleref14_Near_Left else if f = 58 then an_spindleref11_Above else if f = 59 then an_spindleref14_Near_Above else if f = 60 then an_spindleref16_difference else if f = 61 then an_spindleref16_abs else if f = 62 then an_spindlekit_EqualInts else if f = 63 then an_spindlekit_EqualVecs else if f = 64 then an_spindlekit_EqualBlocks else if f = 65 then an_mb_Blocks else if f = 66 then an_inc_Block_1 else if f = 67 then an_kinds_Intra else if f = 68 then an_count_Total else if f = 69 then an_place_ChLeft else if f = 70 then an_place_ChAbove else if f = 71 then an_inc_Skip_1 else if f = 72 then an_inc_Type_1 else if f = 73 then an_inc_Mode_1 else if f = 74 then an_near_Near_Last else if f = 75 then an_inc_Chroma_1 else if f = 76 then an_inc_Luma_1 else if f = 77 then an_inc_Luma_1_1 else if f = 78 then an_near_Near_Next else if f = 79 then an_spindleref14_Near_Next else if f = 80 then an_slices_Clone_int_int else if f = 81 then an_slices_Clone_api_Vec_api_Vec else if f = 82 then an_slices_Clone_int_int_v2 else if f = 83 then an_inc_both else if f = 84 then an_spindleref16_holds else if f = 85 then an_spindleref16_counted else if f = 86 then an_kinds_parts else if f = 87 then an_kinds_one else if f = 88 then an_place_Block else if f = 89 then an_slices_Sort_int_int else if f = 90 then an_place_step else if f = 91 then an_near_Near_at else if f = 92 then an_spindleref12_All else if f = 93 then an_spindleref12_one else if f = 94 then an_spindleref11_At else if f = 95 then an_spindleref11_Block else if f = 96 then an_spindleref14_Near_at else if f = 97 then an_mb_coded else if f = 98 then an_count_exists else if f = 99 then an_count_coefficients else if f = 100 then an_inc_both_1 else if f = 101 then an_spindleref16_unset else if f = 102 then an_place_find else if f = 103 then an_slices_pdqsortOrdered_int else if f = 104 then an_math_bits_Len else if f = 105 then an_place_grid else if f = 106 then an_spindleref12_within else if f = 107 then an_spindleref12_quarter else if f = 108 then an_mb_Block else if f = 109 then an_count_luma else if f = 110 then an_slices_insertionSortOrdered_int else if f = 111 then an_slices_heapSortOrdered_int else if f = 112 then an_slices_breakPatternsOrdered_int else if f = 113 then an_slices_choosePivotOrdered_int else if f = 114 then an_slices_reverseRangeOrdered_int else if f = 115 then an_slices_partialInsertionSortOrdered_int else if f = 116 then an_cmp_Less_int else if f = 117 then an_slices_partitionEqualOrdered_int else if f = 118 then an_slices_partitionOrdered_int else if f = 119 then an_math_bits_Len32 else if f = 120 then an_math_bits_Len64 else if f = 121 then an_slices_Index_api_Coded_api_Coded else if f = 122 then an_slices_siftDownOrdered_int else if f = 123 then an_slices_nextPowerOfTwo else if f = 124 then an_slices_xorshift_Next else if f = 125 then an_slices_medianAdjacentOrdered_int else if f = 126 then an_slices_medianOrdered_int else if f = 127 then an_cmp_isNaN_int else if f = 128 then an_slices_order2Ordered_int else ⟨.nil, false, false⟩
noncomputable abbrev Cn (B : CallF) (k : Nat) : CallF := callN (rngC ctlW) Tryd.prog Gk An B k
theorem c_spindlelaw16_IncMoves (B : CallF) (k : Nat) (a0 a1 a2 a3 a4 a5 : AV) (S : Heap) (hB : B f_spindlelaw16_IncMoves 0 [a0, a1, a2, a3, a4, a5] S = none) : Cn B (k + 1) f_spindlelaw16_IncMoves 0 [a0, a1, a2, a3, a4, a5] S = T_spindlelaw16_IncMoves ctlW Gk (Cn B k) a0 a1 a2 a3 a4 a5 S :=
  (callN_T hB (by kernel_rfl) (by kernel_rfl) (by decide) (by rfl) (by rfl)).trans (t_spindlelaw16_IncMoves ctlW Gk (Cn B k) a0 a1 a2 a3 a4 a5 S)
theorem c_spindlelaw16_IncSigns (B : CallF) (k : Nat) (a0 a1 a2 a3 a4 : AV) (S : Heap) (hB : B f_spindlelaw16_IncSigns 0 [a0, a1, a2, a3, a4] S = none) : Cn B (k + 1) f_spindlelaw16_IncSigns 0 [a0, a1, a2, a3, a4] S = T_spindlelaw16_IncSigns ctlW Gk (Cn B k) a0 a1 a2 a3 a4 S :=
  (callN_T hB (by kernel_rfl) (by kernel_rfl) (by decide) (by rfl) (by rfl)).trans (t_spindlelaw16_IncSigns ctlW Gk (Cn B k) a0 a1 a2 a3 a4 S)
theorem c_spindlelaw16_IncBlind (B : CallF) (k : Nat) (a0 a1 a2 a3 a4 a5 : AV) (S : Heap) (hB : B f_spindlelaw16_IncBlind 0 [a0, a1, a2, a3, a4, a5] S = none) : Cn B (k + 1) f_spindlelaw16_IncBlind 0 [a0, a1, a2, a3, a4, a5] S = T_spindlelaw16_IncBlind ctlW Gk (Cn B k) a0 a1 a2 a3 a4 a5 S :=
  (callN_T hB (by kernel_rfl) (by kernel_rfl) (by decide) (by rfl) (by rfl)).trans (t_spindlelaw16_IncBlind ctlW Gk (Cn B k) a0 a1 a2 a3 a4 a5 S)
theorem c_spindlelaw14_Few (B : CallF) (k : Nat) (a0 a1 : AV) (S : Heap) (hB : B f_spindlelaw14_Few 0 [a0, a1] S = none) : Cn B (k + 1) f_spindlelaw14_Few 0 [a0, a1] S = T_spindlelaw14_Few ctlW Gk (Cn B k) a0 a1 S :=
  (callN_T hB (by kernel_rfl) (by kernel_rfl) (by decide) (by rfl) (by rfl)).trans (t_spindlelaw14_Few ctlW Gk (Cn B k) a0 a1 S)
theorem c_spindlelaw16_Still (B : CallF) (k : Nat) (a0 : AV) (S : Heap) (hB : B f_spindlelaw16_Still 0 [a0] S = none) : Cn B (k + 1) f_spindlelaw16_Still 0 [a0] S = T_spindlelaw16_Still ctlW Gk (Cn B k) a0 S :=
  (callN_T hB (by kernel_rfl) (by kernel_rfl) (by decide) (by rfl) (by rfl)).trans (t_spindlelaw16_Still ctlW Gk (Cn B k) a0 S)
theorem c_spindlelaw15_Both (B : CallF) (k : Nat) (a0 a1 a2 : AV) (S : Heap) (hB : B f_spindlelaw15_Both 0 [a0, a1, a2] S = none) : Cn B (k + 1) f_spindlelaw15_Both 0 [a0, a1, a2] S = T_spindlelaw15_Both ctlW Gk (Cn B k) a0 a1 a2 S :=
  (callN_T hB (by kernel_rfl) (by kernel_rfl) (by decide) (by rfl) (by rfl)).trans (t_spindlelaw15_Both ctlW Gk (Cn B k) a0 a1 a2 S)
theorem c_spindlelaw16_awake (B : CallF) (k : Nat) (S : Heap) (hB : B f_spindlelaw16_awake 0 [] S = none) : Cn B (k + 1) f_spindlelaw16_awake 0 [] S = T_spindlelaw16_awake ctlW Gk (Cn B k) S :=
  (callN_T hB (by kernel_rfl) (by kernel_rfl) (by decide) (by rfl) (by rfl)).trans (t_spindlelaw16_awake ctlW Gk (Cn B k) S)
theorem c_spindlekit_CopyMb (B : CallF) (k : Nat) (a0 : AV) (S : Heap) (hB : B f_spindlekit_CopyMb 0 [a0] S = none) : Cn B (k + 1) f_spindlekit_CopyMb 0 [a0] S = T_spindlekit_CopyMb ctlW Gk (Cn B k) a0 S :=
  (callN_T hB (by kernel_rfl) (by kernel_rfl) (by decide) (by rfl) (by rfl)).trans (t_spindlekit_CopyMb ctlW Gk (Cn B k) a0 S)
theorem c_inc_Ref (B : CallF) (k : Nat) (a0 a1 a2 : AV) (S : Heap) (hB : B f_inc_Ref 0 [a0, a1, a2] S = none) : Cn B (k + 1) f_inc_Ref 0 [a0, a1, a2] S = T_inc_Ref ctlW Gk (Cn B k) a0 a1 a2 S :=
  (callN_T hB (by kernel_rfl) (by kernel_rfl) (by decide) (by rfl) (by rfl)).trans (t_inc_Ref ctlW Gk (Cn B k) a0 a1 a2 S)
theorem c_spindleref16_Ref (B : CallF) (k : Nat) (a0 a1 a2 : AV) (S : Heap) (hB : B f_spindleref16_Ref 0 [a0, a1, a2] S = none) : Cn B (k + 1) f_spindleref16_Ref 0 [a0, a1, a2] S = T_spindleref16_Ref ctlW Gk (Cn B k) a0 a1 a2 S :=
  (callN_T hB (by kernel_rfl) (by kernel_rfl) (by decide) (by rfl) (by rfl)).trans (t_spindleref16_Ref ctlW Gk (Cn B k) a0 a1 a2 S)
theorem c_inc_Mvd (B : CallF) (k : Nat) (a0 a1 a2 a3 : AV) (S : Heap) (hB : B f_inc_Mvd 0 [a0, a1, a2, a3] S = none) : Cn B (k + 1) f_inc_Mvd 0 [a0, a1, a2, a3] S = T_inc_Mvd ctlW Gk (Cn B k) a0 a1 a2 a3 S :=
  (callN_T hB (by kernel_rfl) (by kernel_rfl) (by decide) (by rfl) (by rfl)).trans (t_inc_Mvd ctlW Gk (Cn B k) a0 a1 a2 a3 S)
theorem c_spindleref16_Mvd (B : CallF) (k : Nat) (a0 a1 a2 a3 : AV) (S : Heap) (hB : B f_spindleref16_Mvd 0 [a0, a1, a2, a3] S = none) : Cn B (k + 1) f_spindleref16_Mvd 0 [a0, a1, a2, a3] S = T_spindleref16_Mvd ctlW Gk (Cn B k) a0 a1 a2 a3 S :=
  (callN_T hB (by kernel_rfl) (by kernel_rfl) (by decide) (by rfl) (by rfl)).trans (t_spindleref16_Mvd ctlW Gk (Cn B k) a0 a1 a2 a3 S)
theorem c_spindlekit_EqualMb (B : CallF) (k : Nat) (a0 a1 : AV) (S : Heap) (hB : B f_spindlekit_EqualMb 0 [a0, a1] S = none) : Cn B (k + 1) f_spindlekit_EqualMb 0 [a0, a1] S = T_spindlekit_EqualMb ctlW Gk (Cn B k) a0 a1 S :=
  (callN_T hB (by kernel_rfl) (by kernel_rfl) (by decide) (by rfl) (by rfl)).trans (t_spindlekit_EqualMb ctlW Gk (Cn B k) a0 a1 S)
theorem c_spindlekit_CopyMbs (B : CallF) (k : Nat) (a0 : AV) (S : Heap) (hB : B f_spindlekit_CopyMbs 0 [a0] S = none) : Cn B (k + 1) f_spindlekit_CopyMbs 0 [a0] S = T_spindlekit_CopyMbs ctlW Gk (Cn B k) a0 S :=
  (callN_T hB (by kernel_rfl) (by kernel_rfl) (by decide) (by rfl) (by rfl)).trans (t_spindlekit_CopyMbs ctlW Gk (Cn B k) a0 S)
theorem c_spindlelaw16_negate (B : CallF) (k : Nat) (a0 : AV) (S : Heap) (hB : B f_spindlelaw16_negate 0 [a0] S = none) : Cn B (k + 1) f_spindlelaw16_negate 0 [a0] S = T_spindlelaw16_negate ctlW Gk (Cn B k) a0 S :=
  (callN_T hB (by kernel_rfl) (by kernel_rfl) (by decide) (by rfl) (by rfl)).trans (t_spindlelaw16_negate ctlW Gk (Cn B k) a0 S)
theorem c_spindlelaw15_Blocks (B : CallF) (k : Nat) (a0 : AV) (S : Heap) (hB : B f_spindlelaw15_Blocks 0 [a0] S = none) : Cn B (k + 1) f_spindlelaw15_Blocks 0 [a0] S = T_spindlelaw15_Blocks ctlW Gk (Cn B k) a0 S :=
  (callN_T hB (by kernel_rfl) (by kernel_rfl) (by decide) (by rfl) (by rfl)).trans (t_spindlelaw15_Blocks ctlW Gk (Cn B k) a0 S)
theorem c_inc_Block (B : CallF) (k : Nat) (a0 a1 a2 : AV) (S : Heap) (hB : B f_inc_Block 0 [a0, a1, a2] S = none) : Cn B (k + 1) f_inc_Block 0 [a0, a1, a2] S = T_inc_Block ctlW Gk (Cn B k) a0 a1 a2 S :=
  (callN_T hB (by kernel_rfl) (by kernel_rfl) (by decide) (by rfl) (by rfl)).trans (t_inc_Block ctlW Gk (Cn B k) a0 a1 a2 S)
theorem c_inc_Skip (B : CallF) (k : Nat) (a0 : AV) (S : Heap) (hB : B f_inc_Skip 0 [a0] S = none) : Cn B (k + 1) f_inc_Skip 0 [a0] S = T_inc_Skip ctlW Gk (Cn B k) a0 S :=
  (callN_T hB (by kernel_rfl) (by kernel_rfl) (by decide) (by rfl) (by rfl)).trans (t_inc_Skip ctlW Gk (Cn B k) a0 S)
theorem c_inc_Type (B : CallF) (k : Nat) (a0 : AV) (S : Heap) (hB : B f_inc_Type 0 [a0] S = none) : Cn B (k + 1) f_inc_Type 0 [a0] S = T_inc_Type ctlW Gk (Cn B k) a0 S :=
  (callN_T hB (by kernel_rfl) (by kernel_rfl) (by decide) (by rfl) (by rfl)).trans (t_inc_Type ctlW Gk (Cn B k) a0 S)
theorem c_inc_Mode (B : CallF) (k : Nat) (a0 : AV) (S : Heap) (hB : B f_inc_Mode 0 [a0] S = none) : Cn B (k + 1) f_inc_Mode 0 [a0] S = T_inc_Mode ctlW Gk (Cn B k) a0 S :=
  (callN_T hB (by kernel_rfl) (by kernel_rfl) (by decide) (by rfl) (by rfl)).trans (t_inc_Mode ctlW Gk (Cn B k) a0 S)
theorem c_inc_Qp (B : CallF) (k : Nat) (a0 : AV) (S : Heap) (hB : B f_inc_Qp 0 [a0] S = none) : Cn B (k + 1) f_inc_Qp 0 [a0] S = T_inc_Qp ctlW Gk (Cn B k) a0 S :=
  (callN_T hB (by kernel_rfl) (by kernel_rfl) (by decide) (by rfl) (by rfl)).trans (t_inc_Qp ctlW Gk (Cn B k) a0 S)
theorem c_inc_Chroma (B : CallF) (k : Nat) (a0 a1 : AV) (S : Heap) (hB : B f_inc_Chroma 0 [a0, a1] S = none) : Cn B (k + 1) f_inc_Chroma 0 [a0, a1] S = T_inc_Chroma ctlW Gk (Cn B k) a0 a1 S :=
  (callN_T hB (by kernel_rfl) (by kernel_rfl) (by decide) (by rfl) (by rfl)).trans (t_inc_Chroma ctlW Gk (Cn B k) a0 a1 S)
theorem c_inc_Luma (B : CallF) (k : Nat) (a0 a1 a2 : AV) (S : Heap) (hB : B f_inc_Luma 0 [a0, a1, a2] S = none) : Cn B (k + 1) f_inc_Luma 0 [a0, a1, a2] S = T_inc_Luma ctlW Gk (Cn B k) a0 a1 a2 S :=
  (callN_T hB (by kernel_rfl) (by kernel_rfl) (by decide) (by rfl) (by rfl)).trans (t_inc_Luma ctlW Gk (Cn B k) a0 a1 a2 S)
theorem c_near_New (B : CallF) (k : Nat) (a0 a1 : AV) (S : Heap) (hB : B f_near_New 0 [a0, a1] S = none) : Cn B (k + 1) f_near_New 0 [a0, a1] S = T_near_New ctlW Gk (Cn B k) a0 a1 S :=
  (callN_T hB (by kernel_rfl) (by kernel_rfl) (by decide) (by rfl) (by rfl)).trans (t_near_New ctlW Gk (Cn B k) a0 a1 S)
theorem c_spindleref14_New (B : CallF) (k : Nat) (a0 a1 : AV) (S : Heap) (hB : B f_spindleref14_New 0 [a0, a1] S = none) : Cn B (k + 1) f_spindleref14_New 0 [a0, a1] S = T_spindleref14_New ctlW Gk (Cn B k) a0 a1 S :=
  (callN_T hB (by kernel_rfl) (by kernel_rfl) (by decide) (by rfl) (by rfl)).trans (t_spindleref14_New ctlW Gk (Cn B k) a0 a1 S)
theorem c_near_Near_Add (B : CallF) (k : Nat) (a0 a1 : AV) (S : Heap) (hB : B f_near_Near_Add 0 [a0, a1] S = none) : Cn B (k + 1) f_near_Near_Add 0 [a0, a1] S = T_near_Near_Add ctlW Gk (Cn B k) a0 a1 S :=
  (callN_T hB (by kernel_rfl) (by kernel_rfl) (by decide) (by rfl) (by rfl)).trans (t_near_Near_Add ctlW Gk (Cn B k) a0 a1 S)
theorem c_spindleref14_Near_Add (B : CallF) (k : Nat) (a0 a1 : AV) (S : Heap) (hB : B f_spindleref14_Near_Add 0 [a0, a1] S = none) : Cn B (k + 1) f_spindleref14_Near_Add 0 [a0, a1] S = T_spindleref14_Near_Add ctlW Gk (Cn B k) a0 a1 S :=
  (callN_T hB (by kernel_rfl) (by kernel_rfl) (by decide) (by rfl) (by rfl)).trans (t_spindleref14_Near_Add ctlW Gk (Cn B k) a0 a1 S)
theorem c_spindlelaw15_Pcm (B : CallF) (k : Nat) (S : Heap) (hB : B f_spindlelaw15_Pcm 0 [] S = none) : Cn B (k + 1) f_spindlelaw15_Pcm 0 [] S = T_spindlelaw15_Pcm ctlW Gk (Cn B k) S :=
  (callN_T hB (by kernel_rfl) (by kernel_rfl) (by decide) (by rfl) (by rfl)).trans (t_spindlelaw15_Pcm ctlW Gk (Cn B k) S)
theorem c_spindlelaw16_moved (B : CallF) (k : Nat) (a0 : AV) (S : Heap) (hB : B f_spindlelaw16_moved 0 [a0] S = none) : Cn B (k + 1) f_spindlelaw16_moved 0 [a0] S = T_spindlelaw16_moved ctlW Gk (Cn B k) a0 S :=
  (callN_T hB (by kernel_rfl) (by kernel_rfl) (by decide) (by rfl) (by rfl)).trans (t_spindlelaw16_moved ctlW Gk (Cn B k) a0 S)
theorem c_spindlekit_CopyInts (B : CallF) (k : Nat) (a0 : AV) (S : Heap) (hB : B f_spindlekit_CopyInts 0 [a0] S = none) : Cn B (k + 1) f_spindlekit_CopyInts 0 [a0] S = T_spindlekit_CopyInts ctlW Gk (Cn B k) a0 S :=
  (callN_T hB (by kernel_rfl) (by kernel_rfl) (by decide) (by rfl) (by rfl)).trans (t_spindlekit_CopyInts ctlW Gk (Cn B k) a0 S)
theorem c_spindlekit_CopyBlocks (B : CallF) (k : Nat) (a0 : AV) (S : Heap) (hB : B f_spindlekit_CopyBlocks 0 [a0] S = none) : Cn B (k + 1) f_spindlekit_CopyBlocks 0 [a0] S = T_spindlekit_CopyBlocks ctlW Gk (Cn B k) a0 S :=
  (callN_T hB (by kernel_rfl) (by kernel_rfl) (by decide) (by rfl) (by rfl)).trans (t_spindlekit_CopyBlocks ctlW Gk (Cn B k) a0 S)
theorem c_inc_moves (B : CallF) (k : Nat) (a0 : AV) (S : Heap) (hB : B f_inc_moves 0 [a0] S = none) : Cn B (k + 1) f_inc_moves 0 [a0] S = T_inc_moves ctlW Gk (Cn B k) a0 S :=
  (callN_T hB (by kernel_rfl) (by kernel_rfl) (by decide) (by rfl) (by rfl)).trans (t_inc_moves ctlW Gk (Cn B k) a0 S)
theorem c_kinds_Parts (B : CallF) (k : Nat) (a0 : AV) (S : Heap) (hB : B f_kinds_Parts 0 [a0] S = none) : Cn B (k + 1) f_kinds_Parts 0 [a0] S = T_kinds_Parts ctlW Gk (Cn B k) a0 S :=
  (callN_T hB (by kernel_rfl) (by kernel_rfl) (by decide) (by rfl) (by rfl)).trans (t_kinds_Parts ctlW Gk (Cn B k) a0 S)
theorem c_mb_Copy (B : CallF) (k : Nat) (a0 : AV) (S : Heap) (hB : B f_mb_Copy 0 [a0] S = none) : Cn B (k + 1) f_mb_Copy 0 [a0] S = T_mb_Copy ctlW Gk (Cn B k) a0 S :=
  (callN_T hB (by kernel_rfl) (by kernel_rfl) (by decide) (by rfl) (by rfl)).trans (t_mb_Copy ctlW Gk (Cn B k) a0 S)
theorem c_inc_Ref_1 (B : CallF) (k : Nat) (a0 : AV) (S : Heap) (hB : B f_inc_Ref_1 0 [a0] S = none) : Cn B (k + 1) f_inc_Ref_1 0 [a0] S = T_inc_Ref_1 ctlW Gk (Cn B k) a0 S :=
  (callN_T hB (by kernel_rfl) (by kernel_rfl) (by decide) (by rfl) (by rfl)).trans (t_inc_Ref_1 ctlW Gk (Cn B k) a0 S)
theorem c_inc_Ref_1_1 (B : CallF) (k : Nat) (a0 a1 : AV) (S : Heap) (hB : B f_inc_Ref_1_1 0 [a0, a1] S = none) : Cn B (k + 1) f_inc_Ref_1_1 0 [a0, a1] S = T_inc_Ref_1_1 ctlW Gk (Cn B k) a0 a1 S :=
  (callN_T hB (by kernel_rfl) (by kernel_rfl) (by decide) (by rfl) (by rfl)).trans (t_inc_Ref_1_1 ctlW Gk (Cn B k) a0 a1 S)
theorem c_inc_index (B : CallF) (k : Nat) (a0 a1 : AV) (S : Heap) (hB : B f_inc_index 0 [a0, a1] S = none) : Cn B (k + 1) f_inc_index 0 [a0, a1] S = T_inc_index ctlW Gk (Cn B k) a0 a1 S :=
  (callN_T hB (by kernel_rfl) (by kernel_rfl) (by decide) (by rfl) (by rfl)).trans (t_inc_index ctlW Gk (Cn B k) a0 a1 S)
theorem c_inc_weigh (B : CallF) (k : Nat) (a0 a1 a2 : AV) (S : Heap) (hB : B f_inc_weigh 0 [a0, a1, a2] S = none) : Cn B (k + 1) f_inc_weigh 0 [a0, a1, a2] S = T_inc_weigh ctlW Gk (Cn B k) a0 a1 a2 S :=
  (callN_T hB (by kernel_rfl) (by kernel_rfl) (by decide) (by rfl) (by rfl)).trans (t_inc_weigh ctlW Gk (Cn B k) a0 a1 a2 S)
theorem c_spindleref16_Moves (B : CallF) (k : Nat) (a0 : AV) (S : Heap) (hB : B f_spindleref16_Moves 0 [a0] S = none) : Cn B (k + 1) f_spindleref16_Moves 0 [a0] S = T_spindleref16_Moves ctlW Gk (Cn B k) a0 S :=
  (callN_T hB (by kernel_rfl) (by kernel_rfl) (by decide) (by rfl) (by rfl)).trans (t_spindleref16_Moves ctlW Gk (Cn B k) a0 S)
theorem c_spindleref12_Parts (B : CallF) (k : Nat) (a0 : AV) (S : Heap) (hB : B f_spindleref12_Parts 0 [a0] S = none) : Cn B (k + 1) f_spindleref12_Parts 0 [a0] S = T_spindleref12_Parts ctlW Gk (Cn B k) a0 S :=
  (callN_T hB (by kernel_rfl) (by kernel_rfl) (by decide) (by rfl) (by rfl)).trans (t_spindleref12_Parts ctlW Gk (Cn B k) a0 S)
theorem c_spindleref16_both (B : CallF) (k : Nat) (a0 a1 a2 a3 : AV) (S : Heap) (hB : B f_spindleref16_both 0 [a0, a1, a2, a3] S = none) : Cn B (k + 1) f_spindleref16_both 0 [a0, a1, a2, a3] S = T_spindleref16_both ctlW Gk (Cn B k) a0 a1 a2 a3 S :=
  (callN_T hB (by kernel_rfl) (by kernel_rfl) (by decide) (by rfl) (by rfl)).trans (t_spindleref16_both ctlW Gk (Cn B k) a0 a1 a2 a3 S)
theorem c_spindleref16_quarter (B : CallF) (k : Nat) (a0 a1 : AV) (S : Heap) (hB : B f_spindleref16_quarter 0 [a0, a1] S = none) : Cn B (k + 1) f_spindleref16_quarter 0 [a0, a1] S = T_spindleref16_quarter ctlW Gk (Cn B k) a0 a1 S :=
  (callN_T hB (by kernel_rfl) (by kernel_rfl) (by decide) (by rfl) (by rfl)).trans (t_spindleref16_quarter ctlW Gk (Cn B k) a0 a1 S)
theorem c_spindleref16_increment (B : CallF) (k : Nat) (a0 a1 : AV) (S : Heap) (hB : B f_spindleref16_increment 0 [a0, a1] S = none) : Cn B (k + 1) f_spindleref16_increment 0 [a0, a1] S = T_spindleref16_increment ctlW Gk (Cn B k) a0 a1 S :=
  (callN_T hB (by kernel_rfl) (by kernel_rfl) (by decide) (by rfl) (by rfl)).trans (t_spindleref16_increment ctlW Gk (Cn B k) a0 a1 S)
theorem c_kinds_Pieces (B : CallF) (k : Nat) (a0 a1 : AV) (S : Heap) (hB : B f_kinds_Pieces 0 [a0, a1] S = none) : Cn B (k + 1) f_kinds_Pieces 0 [a0, a1] S = T_kinds_Pieces ctlW Gk (Cn B k) a0 a1 S :=
  (callN_T hB (by kernel_rfl) (by kernel_rfl) (by decide) (by rfl) (by rfl)).trans (t_kinds_Pieces ctlW Gk (Cn B k) a0 a1 S)
theorem c_kinds_Cover (B : CallF) (k : Nat) (a0 a1 a2 : AV) (S : Heap) (hB : B f_kinds_Cover 0 [a0, a1, a2] S = none) : Cn B (k + 1) f_kinds_Cover 0 [a0, a1, a2] S = T_kinds_Cover ctlW Gk (Cn B k) a0 a1 a2 S :=
  (callN_T hB (by kernel_rfl) (by kernel_rfl) (by decide) (by rfl) (by rfl)).trans (t_kinds_Cover ctlW Gk (Cn B k) a0 a1 a2 S)
theorem c_inc_Mvd_1 (B : CallF) (k : Nat) (a0 a1 a2 a3 a4 a5 : AV) (S : Heap) (hB : B f_inc_Mvd_1 0 [a0, a1, a2, a3, a4, a5] S = none) : Cn B (k + 1) f_inc_Mvd_1 0 [a0, a1, a2, a3, a4, a5] S = T_inc_Mvd_1 ctlW Gk (Cn B k) a0 a1 a2 a3 a4 a5 S :=
  (callN_T hB (by kernel_rfl) (by kernel_rfl) (by decide) (by rfl) (by rfl)).trans (t_inc_Mvd_1 ctlW Gk (Cn B k) a0 a1 a2 a3 a4 a5 S)
theorem c_inc_size (B : CallF) (k : Nat) (a0 a1 a2 : AV) (S : Heap) (hB : B f_inc_size 0 [a0, a1, a2] S = none) : Cn B (k + 1) f_inc_size 0 [a0, a1, a2] S = T_inc_size ctlW Gk (Cn B k) a0 a1 a2 S :=
  (callN_T hB (by kernel_rfl) (by kernel_rfl) (by decide) (by rfl) (by rfl)).trans (t_inc_size ctlW Gk (Cn B k) a0 a1 a2 S)
theorem c_place_Left (B : CallF) (k : Nat) (a0 : AV) (S : Heap) (hB : B f_place_Left 0 [a0] S = none) : Cn B (k + 1) f_place_Left 0 [a0] S = T_place_Left ctlW Gk (Cn B k) a0 S :=
  (callN_T hB (by kernel_rfl) (by kernel_rfl) (by decide) (by rfl) (by rfl)).trans (t_place_Left ctlW Gk (Cn B k) a0 S)
theorem c_near_Near_Left (B : CallF) (k : Nat) (a0 : AV) (S : Heap) (hB : B f_near_Near_Left 0 [a0] S = none) : Cn B (k + 1) f_near_Near_Left 0 [a0] S = T_near_Near_Left ctlW Gk (Cn B k) a0 S :=
  (callN_T hB (by kernel_rfl) (by kernel_rfl) (by decide) (by rfl) (by rfl)).trans (t_near_Near_Left ctlW Gk (Cn B k) a0 S)
theorem c_place_Above (B : CallF) (k : Nat) (a0 : AV) (S : Heap) (hB : B f_place_Above 0 [a0] S = none) : Cn B (k + 1) f_place_Above 0 [a0] S = T_place_Above ctlW Gk (Cn B k) a0 S :=
  (callN_T hB (by kernel_rfl) (by kernel_rfl) (by decide) (by rfl) (by rfl)).trans (t_place_Above ctlW Gk (Cn B k) a0 S)
theorem c_near_Near_Above (B : CallF) (k : Nat) (a0 : AV) (S : Heap) (hB : B f_near_Near_Above 0 [a0] S = none) : Cn B (k + 1) f_near_Near_Above 0 [a0] S = T_near_Near_Above ctlW Gk (Cn B k) a0 S :=
  (callN_T hB (by kernel_rfl) (by kernel_rfl) (by decide) (by rfl) (by rfl)).trans (t_near_Near_Above ctlW Gk (Cn B k) a0 S)
theorem c_spindleref12_Pieces (B : CallF) (k : Nat) (a0 a1 : AV) (S : Heap) (hB : B f_spindleref12_Pieces 0 [a0, a1] S = none) : Cn B (k + 1) f_spindleref12_Pieces 0 [a0, a1] S = T_spindleref12_Pieces ctlW Gk (Cn B k) a0 a1 S :=
  (callN_T hB (by kernel_rfl) (by kernel_rfl) (by decide) (by rfl) (by rfl)).trans (t_spindleref12_Pieces ctlW Gk (Cn B k) a0 a1 S)
theorem c_spindleref12_Cover (B : CallF) (k : Nat) (a0 a1 a2 : AV) (S : Heap) (hB : B f_spindleref12_Cover 0 [a0, a1, a2] S = none) : Cn B (k + 1) f_spindleref12_Cover 0 [a0, a1, a2] S = T_spindleref12_Cover ctlW Gk (Cn B k) a0 a1 a2 S :=
  (callN_T hB (by kernel_rfl) (by kernel_rfl) (by decide) (by rfl) (by rfl)).trans (t_spindleref12_Cover ctlW Gk (Cn B k) a0 a1 a2 S)
theorem c_spindleref11_Left (B : CallF) (k : Nat) (a0 : AV) (S : Heap) (hB : B f_spindleref11_Left 0 [a0] S = none) : Cn B (k + 1) f_spindleref11_Left 0 [a0] S = T_spindleref11_Left ctlW Gk (Cn B k) a0 S :=
  (callN_T hB (by kernel_rfl) (by kernel_rfl) (by decide) (by rfl) (by rfl)).trans (t_spindleref11_Left ctlW Gk (Cn B k) a0 S)
theorem c_spindleref14_Near_Left (B : CallF) (k : Nat) (a0 : AV) (S : Heap) (hB : B f_spindleref14_Near_Left 0 [a0] S = none) : Cn B (k + 1) f_spindleref14_Near_Left 0 [a0] S = T_spindleref14_Near_Left ctlW Gk (Cn B k) a0 S :=
  (callN_T hB (by kernel_rfl) (by kernel_rfl) (by decide) (by rfl) (by rfl)).trans (t_spindleref14_Near_Left ctlW Gk (Cn B k) a0 S)
theorem c_spindleref11_Above (B : CallF) (k : Nat) (a0 : AV) (S : Heap) (hB : B f_spindleref11_Above 0 [a0] S = none) : Cn B (k + 1) f_spindleref11_Above 0 [a0] S = T_spindleref11_Above ctlW Gk (Cn B k) a0 S :=
  (callN_T hB (by kernel_rfl) (by kernel_rfl) (by decide) (by rfl) (by rfl)).trans (t_spindleref11_Above ctlW Gk (Cn B k) a0 S)
theorem c_spindleref14_Near_Above (B : CallF) (k : Nat) (a0 : AV) (S : Heap) (hB : B f_spindleref14_Near_Above 0 [a0] S = none) : Cn B (k + 1) f_spindleref14_Near_Above 0 [a0] S = T_spindleref14_Near_Above ctlW Gk (Cn B k) a0 S :=
  (callN_T hB (by kernel_rfl) (by kernel_rfl) (by decide) (by rfl) (by rfl)).trans (t_spindleref14_Near_Above ctlW Gk (Cn B k) a0 S)
theorem c_spindleref16_difference (B : CallF) (k : Nat) (a0 a1 : AV) (S : Heap) (hB : B f_spindleref16_difference 0 [a0, a1] S = none) : Cn B (k + 1) f_spindleref16_difference 0 [a0, a1] S = T_spindleref16_difference ctlW Gk (Cn B k) a0 a1 S :=
  (callN_T hB (by kernel_rfl) (by kernel_rfl) (by decide) (by rfl) (by rfl)).trans (t_spindleref16_difference ctlW Gk (Cn B k) a0 a1 S)
theorem c_spindleref16_abs (B : CallF) (k : Nat) (a0 : AV) (S : Heap) (hB : B f_spindleref16_abs 0 [a0] S = none) : Cn B (k + 1) f_spindleref16_abs 0 [a0] S = T_spindleref16_abs ctlW Gk (Cn B k) a0 S :=
  (callN_T hB (by kernel_rfl) (by kernel_rfl) (by decide) (by rfl) (by rfl)).trans (t_spindleref16_abs ctlW Gk (Cn B k) a0 S)
theorem c_spindlekit_EqualInts (B : CallF) (k : Nat) (a0 a1 : AV) (S : Heap) (hB : B f_spindlekit_EqualInts 0 [a0, a1] S = none) : Cn B (k + 1) f_spindlekit_EqualInts 0 [a0, a1] S = T_spindlekit_EqualInts ctlW Gk (Cn B k) a0 a1 S :=
  (callN_T hB (by kernel_rfl) (by kernel_rfl) (by decide) (by rfl) (by rfl)).trans (t_spindlekit_EqualInts ctlW Gk (Cn B k) a0 a1 S)
theorem c_spindlekit_EqualVecs (B : CallF) (k : Nat) (a0 a1 : AV) (S : Heap) (hB : B f_spindlekit_EqualVecs 0 [a0, a1] S = none) : Cn B (k + 1) f_spindlekit_EqualVecs 0 [a0, a1] S = T_spindlekit_EqualVecs ctlW Gk (Cn B k) a0 a1 S :=
  (callN_T hB (by kernel_rfl) (by kernel_rfl) (by decide) (by rfl) (by rfl)).trans (t_spindlekit_EqualVecs ctlW Gk (Cn B k) a0 a1 S)
theorem c_spindlekit_EqualBlocks (B : CallF) (k : Nat) (a0 a1 : AV) (S : Heap) (hB : B f_spindlekit_EqualBlocks 0 [a0, a1] S = none) : Cn B (k + 1) f_spindlekit_EqualBlocks 0 [a0, a1] S = T_spindlekit_EqualBlocks ctlW Gk (Cn B k) a0 a1 S :=
  (callN_T hB (by kernel_rfl) (by kernel_rfl) (by decide) (by rfl) (by rfl)).trans (t_spindlekit_EqualBlocks ctlW Gk (Cn B k) a0 a1 S)
theorem c_mb_Blocks (B : CallF) (k : Nat) (a0 : AV) (S : Heap) (hB : B f_mb_Blocks 0 [a0] S = none) : Cn B (k + 1) f_mb_Blocks 0 [a0] S = T_mb_Blocks ctlW Gk (Cn B k) a0 S :=
  (callN_T hB (by kernel_rfl) (by kernel_rfl) (by decide) (by rfl) (by rfl)).trans (t_mb_Blocks ctlW Gk (Cn B k) a0 S)
theorem c_inc_Block_1 (B : CallF) (k : Nat) (a0 a1 a2 a3 a4 a5 a6 : AV) (S : Heap) (hB : B f_inc_Block_1 0 [a0, a1, a2, a3, a4, a5, a6] S = none) : Cn B (k + 1) f_inc_Block_1 0 [a0, a1, a2, a3, a4, a5, a6] S = T_inc_Block_1 ctlW Gk (Cn B k) a0 a1 a2 a3 a4 a5 a6 S :=
  (callN_T hB (by kernel_rfl) (by kernel_rfl) (by decide) (by rfl) (by rfl)).trans (t_inc_Block_1 ctlW Gk (Cn B k) a0 a1 a2 a3 a4 a5 a6 S)
theorem c_kinds_Intra (B : CallF) (k : Nat) (a0 : AV) (S : Heap) (hB : B f_kinds_Intra 0 [a0] S = none) : Cn B (k + 1) f_kinds_Intra 0 [a0] S = T_kinds_Intra ctlW Gk (Cn B k) a0 S :=
  (callN_T hB (by kernel_rfl) (by kernel_rfl) (by decide) (by rfl) (by rfl)).trans (t_kinds_Intra ctlW Gk (Cn B k) a0 S)
theorem c_count_Total (B : CallF) (k : Nat) (a0 a1 : AV) (S : Heap) (hB : B f_count_Total 0 [a0, a1] S = none) : Cn B (k + 1) f_count_Total 0 [a0, a1] S = T_count_Total ctlW Gk (Cn B k) a0 a1 S :=
  (callN_T hB (by kernel_rfl) (by kernel_rfl) (by decide) (by rfl) (by rfl)).trans (t_count_Total ctlW Gk (Cn B k) a0 a1 S)
theorem c_place_ChLeft (B : CallF) (k : Nat) (a0 : AV) (S : Heap) (hB : B f_place_ChLeft 0 [a0] S = none) : Cn B (k + 1) f_place_ChLeft 0 [a0] S = T_place_ChLeft ctlW Gk (Cn B k) a0 S :=
  (callN_T hB (by kernel_rfl) (by kernel_rfl) (by decide) (by rfl) (by rfl)).trans (t_place_ChLeft ctlW Gk (Cn B k) a0 S)
theorem c_place_ChAbove (B : CallF) (k : Nat) (a0 : AV) (S : Heap) (hB : B f_place_ChAbove 0 [a0] S = none) : Cn B (k + 1) f_place_ChAbove 0 [a0] S = T_place_ChAbove ctlW Gk (Cn B k) a0 S :=
  (callN_T hB (by kernel_rfl) (by kernel_rfl) (by decide) (by rfl) (by rfl)).trans (t_place_ChAbove ctlW Gk (Cn B k) a0 S)
theorem c_inc_Skip_1 (B : CallF) (k : Nat) (a0 : AV) (S : Heap) (hB : B f_inc_Skip_1 0 [a0] S = none) : Cn B (k + 1) f_inc_Skip_1 0 [a0] S = T_inc_Skip_1 ctlW Gk (Cn B k) a0 S :=
  (callN_T hB (by kernel_rfl) (by kernel_rfl) (by decide) (by rfl) (by rfl)).trans (t_inc_Skip_1 ctlW Gk (Cn B k) a0 S)
theorem c_inc_Type_1 (B : CallF) (k : Nat) (a0 : AV) (S : Heap) (hB : B f_inc_Type_1 0 [a0] S = none) : Cn B (k + 1) f_inc_Type_1 0 [a0] S = T_inc_Type_1 ctlW Gk (Cn B k) a0 S :=
  (callN_T hB (by kernel_rfl) (by kernel_rfl) (by decide) (by rfl) (by rfl)).trans (t_inc_Type_1 ctlW Gk (Cn B k) a0 S)
theorem c_inc_Mode_1 (B : CallF) (k : Nat) (a0 : AV) (S : Heap) (hB : B f_inc_Mode_1 0 [a0] S = none) : Cn B (k + 1) f_inc_Mode_1 0 [a0] S = T_inc_Mode_1 ctlW Gk (Cn B k) a0 S :=
  (callN_T hB (by kernel_rfl) (by kernel_rfl) (by decide) (by rfl) (by rfl)).trans (t_inc_Mode_1 ctlW Gk (Cn B k) a0 S)
theorem c_near_Near_Last (B : CallF) (k : Nat) (a0 : AV) (S : Heap) (hB : B f_near_Near_Last 0 [a0] S = none) : Cn B (k + 1) f_near_Near_Last 0 [a0] S = T_near_Near_Last ctlW Gk (Cn B k) a0 S :=
  (callN_T hB (by kernel_rfl) (by kernel_rfl) (by decide) (by rfl) (by rfl)).trans (t_near_Near_Last ctlW Gk (Cn B k) a0 S)
theorem c_inc_Chroma_1 (B : CallF) (k : Nat) (a0 a1 : AV) (S : Heap) (hB : B f_inc_Chroma_1 0 [a0, a1] S = none) : Cn B (k + 1) f_inc_Chroma_1 0 [a0, a1] S = T_inc_Chroma_1 ctlW Gk (Cn B k) a0 a1 S :=
  (callN_T hB (by kernel_rfl) (by kernel_rfl) (by decide) (by rfl) (by rfl)).trans (t_inc_Chroma_1 ctlW Gk (Cn B k) a0 a1 S)
theorem c_inc_Luma_1 (B : CallF) (k : Nat) (a0 : AV) (S : Heap) (hB : B f_inc_Luma_1 0 [a0] S = none) : Cn B (k + 1) f_inc_Luma_1 0 [a0] S = T_inc_Luma_1 ctlW Gk (Cn B k) a0 S :=
  (callN_T hB (by kernel_rfl) (by kernel_rfl) (by decide) (by rfl) (by rfl)).trans (t_inc_Luma_1 ctlW Gk (Cn B k) a0 S)
theorem c_inc_Luma_1_1 (B : CallF) (k : Nat) (a0 a1 : AV) (S : Heap) (hB : B f_inc_Luma_1_1 0 [a0, a1] S = none) : Cn B (k + 1) f_inc_Luma_1_1 0 [a0, a1] S = T_inc_Luma_1_1 ctlW Gk (Cn B k) a0 a1 S :=
  (callN_T hB (by kernel_rfl) (by kernel_rfl) (by decide) (by rfl) (by rfl)).trans (t_inc_Luma_1_1 ctlW Gk (Cn B k) a0 a1 S)
theorem c_near_Near_Next (B : CallF) (k : Nat) (a0 : AV) (S : Heap) (hB : B f_near_Near_Next 0 [a0] S = none) : Cn B (k + 1) f_near_Near_Next 0 [a0] S = T_near_Near_Next ctlW Gk (Cn B k) a0 S :=
  (callN_T hB (by kernel_rfl) (by kernel_rfl) (by decide) (by rfl) (by rfl)).trans (t_near_Near_Next ctlW Gk (Cn B k) a0 S)
theorem c_spindleref14_Near_Next (B : CallF) (k : Nat) (a0 : AV) (S : Heap) (hB : B f_spindleref14_Near_Next 0 [a0] S = none) : Cn B (k + 1) f_spindleref14_Near_Next 0 [a0] S = T_spindleref14_Near_Next ctlW Gk (Cn B k) a0 S :=
  (callN_T hB (by kernel_rfl) (by kernel_rfl) (by decide) (by rfl) (by rfl)).trans (t_spindleref14_Near_Next ctlW Gk (Cn B k) a0 S)
theorem c_slices_Clone_int_int (B : CallF) (k : Nat) (a0 : AV) (S : Heap) (hB : B f_slices_Clone_int_int 0 [a0] S = none) : Cn B (k + 1) f_slices_Clone_int_int 0 [a0] S = T_slices_Clone_int_int ctlW Gk (Cn B k) a0 S :=
  (callN_T hB (by kernel_rfl) (by kernel_rfl) (by decide) (by rfl) (by rfl)).trans (t_slices_Clone_int_int ctlW Gk (Cn B k) a0 S)
theorem c_slices_Clone_api_Vec_api_Vec (B : CallF) (k : Nat) (a0 : AV) (S : Heap) (hB : B f_slices_Clone_api_Vec_api_Vec 0 [a0] S = none) : Cn B (k + 1) f_slices_Clone_api_Vec_api_Vec 0 [a0] S = T_slices_Clone_api_Vec_api_Vec ctlW Gk (Cn B k) a0 S :=
  (callN_T hB (by kernel_rfl) (by kernel_rfl) (by decide) (by rfl) (by rfl)).trans (t_slices_Clone_api_Vec_api_Vec ctlW Gk (Cn B k) a0 S)
theorem c_slices_Clone_int_int_v2 (B : CallF) (k : Nat) (a0 : AV) (S : Heap) (hB : B f_slices_Clone_int_int_v2 0 [a0] S = none) : Cn B (k + 1) f_slices_Clone_int_int_v2 0 [a0] S = T_slices_Clone_int_int_v2 ctlW Gk (Cn B k) a0 S :=
  (callN_T hB (by kernel_rfl) (by kernel_rfl) (by decide) (by rfl) (by rfl)).trans (t_slices_Clone_int_int_v2 ctlW Gk (Cn B k) a0 S)
theorem c_inc_both (B : CallF) (k : Nat) (a0 : AV) (S : Heap) (hB : B f_inc_both 0 [a0] S = none) : Cn B (k + 1) f_inc_both 0 [a0] S = T_inc_both ctlW Gk (Cn B k) a0 S :=
  (callN_T hB (by kernel_rfl) (by kernel_rfl) (by decide) (by rfl) (by rfl)).trans (t_inc_both ctlW Gk (Cn B k) a0 S)
theorem c_spindleref16_holds (B : CallF) (k : Nat) (a0 a1 a2 : AV) (S : Heap) (hB : B f_spindleref16_holds 0 [a0, a1, a2] S = none) : Cn B (k + 1) f_spindleref16_holds 0 [a0, a1, a2] S = T_spindleref16_holds ctlW Gk (Cn B k) a0 a1 a2 S :=
  (callN_T hB (by kernel_rfl) (by kernel_rfl) (by decide) (by rfl) (by rfl)).trans (t_spindleref16_holds ctlW Gk (Cn B k) a0 a1 a2 S)
theorem c_spindleref16_counted (B : CallF) (k : Nat) (a0 a1 : AV) (S : Heap) (hB : B f_spindleref16_counted 0 [a0, a1] S = none) : Cn B (k + 1) f_spindleref16_counted 0 [a0, a1] S = T_spindleref16_counted ctlW Gk (Cn B k) a0 a1 S :=
  (callN_T hB (by kernel_rfl) (by kernel_rfl) (by decide) (by rfl) (by rfl)).trans (t_spindleref16_counted ctlW Gk (Cn B k) a0 a1 S)
theorem c_kinds_parts (B : CallF) (k : Nat) (a0 a1 : AV) (S : Heap) (hB : B f_kinds_parts 0 [a0, a1] S = none) : Cn B (k + 1) f_kinds_parts 0 [a0, a1] S = T_kinds_parts ctlW Gk (Cn B k) a0 a1 S :=
  (callN_T hB (by kernel_rfl) (by kernel_rfl) (by decide) (by rfl) (by rfl)).trans (t_kinds_parts ctlW Gk (Cn B k) a0 a1 S)
theorem c_kinds_one (B : CallF) (k : Nat) (a0 a1 a2 : AV) (S : Heap) (hB : B f_kinds_one 0 [a0, a1, a2] S = none) : Cn B (k + 1) f_kinds_one 0 [a0, a1, a2] S = T_kinds_one ctlW Gk (Cn B k) a0 a1 a2 S :=
  (callN_T hB (by kernel_rfl) (by kernel_rfl) (by decide) (by rfl) (by rfl)).trans (t_kinds_one ctlW Gk (Cn B k) a0 a1 a2 S)
theorem c_place_Block (B : CallF) (k : Nat) (a0 a1 : AV) (S : Heap) (hB : B f_place_Block 0 [a0, a1] S = none) : Cn B (k + 1) f_place_Block 0 [a0, a1] S = T_place_Block ctlW Gk (Cn B k) a0 a1 S :=
  (callN_T hB (by kernel_rfl) (by kernel_rfl) (by decide) (by rfl) (by rfl)).trans (t_place_Block ctlW Gk (Cn B k) a0 a1 S)
theorem c_slices_Sort_int_int (B : CallF) (k : Nat) (a0 : AV) (S : Heap) (hB : B f_slices_Sort_int_int 0 [a0] S = none) : Cn B (k + 1) f_slices_Sort_int_int 0 [a0] S = T_slices_Sort_int_int ctlW Gk (Cn B k) a0 S :=
  (callN_T hB (by kernel_rfl) (by kernel_rfl) (by decide) (by rfl) (by rfl)).trans (t_slices_Sort_int_int ctlW Gk (Cn B k) a0 S)
theorem c_place_step (B : CallF) (k : Nat) (a0 a1 a2 a3 a4 : AV) (S : Heap) (hB : B f_place_step 0 [a0, a1, a2, a3, a4] S = none) : Cn B (k + 1) f_place_step 0 [a0, a1, a2, a3, a4] S = T_place_step ctlW Gk (Cn B k) a0 a1 a2 a3 a4 S :=
  (callN_T hB (by kernel_rfl) (by kernel_rfl) (by decide) (by rfl) (by rfl)).trans (t_place_step ctlW Gk (Cn B k) a0 a1 a2 a3 a4 S)
theorem c_near_Near_at (B : CallF) (k : Nat) (a0 a1 : AV) (S : Heap) (hB : B f_near_Near_at 0 [a0, a1] S = none) : Cn B (k + 1) f_near_Near_at 0 [a0, a1] S = T_near_Near_at ctlW Gk (Cn B k) a0 a1 S :=
  (callN_T hB (by kernel_rfl) (by kernel_rfl) (by decide) (by rfl) (by rfl)).trans (t_near_Near_at ctlW Gk (Cn B k) a0 a1 S)
theorem c_spindleref12_All (B : CallF) (k : Nat) (a0 a1 : AV) (S : Heap) (hB : B f_spindleref12_All 0 [a0, a1] S = none) : Cn B (k + 1) f_spindleref12_All 0 [a0, a1] S = T_spindleref12_All ctlW Gk (Cn B k) a0 a1 S :=
  (callN_T hB (by kernel_rfl) (by kernel_rfl) (by decide) (by rfl) (by rfl)).trans (t_spindleref12_All ctlW Gk (Cn B k) a0 a1 S)
theorem c_spindleref12_one (B : CallF) (k : Nat) (a0 a1 a2 : AV) (S : Heap) (hB : B f_spindleref12_one 0 [a0, a1, a2] S = none) : Cn B (k + 1) f_spindleref12_one 0 [a0, a1, a2] S = T_spindleref12_one ctlW Gk (Cn B k) a0 a1 a2 S :=
  (callN_T hB (by kernel_rfl) (by kernel_rfl) (by decide) (by rfl) (by rfl)).trans (t_spindleref12_one ctlW Gk (Cn B k) a0 a1 a2 S)
theorem c_spindleref11_At (B : CallF) (k : Nat) (a0 : AV) (S : Heap) (hB : B f_spindleref11_At 0 [a0] S = none) : Cn B (k + 1) f_spindleref11_At 0 [a0] S = T_spindleref11_At ctlW Gk (Cn B k) a0 S :=
  (callN_T hB (by kernel_rfl) (by kernel_rfl) (by decide) (by rfl) (by rfl)).trans (t_spindleref11_At ctlW Gk (Cn B k) a0 S)
theorem c_spindleref11_Block (B : CallF) (k : Nat) (a0 a1 : AV) (S : Heap) (hB : B f_spindleref11_Block 0 [a0, a1] S = none) : Cn B (k + 1) f_spindleref11_Block 0 [a0, a1] S = T_spindleref11_Block ctlW Gk (Cn B k) a0 a1 S :=
  (callN_T hB (by kernel_rfl) (by kernel_rfl) (by decide) (by rfl) (by rfl)).trans (t_spindleref11_Block ctlW Gk (Cn B k) a0 a1 S)
theorem c_spindleref14_Near_at (B : CallF) (k : Nat) (a0 a1 : AV) (S : Heap) (hB : B f_spindleref14_Near_at 0 [a0, a1] S = none) : Cn B (k + 1) f_spindleref14_Near_at 0 [a0, a1] S = T_spindleref14_Near_at ctlW Gk (Cn B k) a0 a1 S :=
  (callN_T hB (by kernel_rfl) (by kernel_rfl) (by decide) (by rfl) (by rfl)).trans (t_spindleref14_Near_at ctlW Gk (Cn B k) a0 a1 S)
theorem c_mb_coded (B : CallF) (k : Nat) (a0 : AV) (S : Heap) (hB : B f_mb_coded 0 [a0] S = none) : Cn B (k + 1) f_mb_coded 0 [a0] S = T_mb_coded ctlW Gk (Cn B k) a0 S :=
  (callN_T hB (by kernel_rfl) (by kernel_rfl) (by decide) (by rfl) (by rfl)).trans (t_mb_coded ctlW Gk (Cn B k) a0 S)
theorem c_count_exists (B : CallF) (k : Nat) (a0 : AV) (S : Heap) (hB : B f_count_exists 0 [a0] S = none) : Cn B (k + 1) f_count_exists 0 [a0] S = T_count_exists ctlW Gk (Cn B k) a0 S :=
  (callN_T hB (by kernel_rfl) (by kernel_rfl) (by decide) (by rfl) (by rfl)).trans (t_count_exists ctlW Gk (Cn B k) a0 S)
theorem c_count_coefficients (B : CallF) (k : Nat) (a0 a1 : AV) (S : Heap) (hB : B f_count_coefficients 0 [a0, a1] S = none) : Cn B (k + 1) f_count_coefficients 0 [a0, a1] S = T_count_coefficients ctlW Gk (Cn B k) a0 a1 S :=
  (callN_T hB (by kernel_rfl) (by kernel_rfl) (by decide) (by rfl) (by rfl)).trans (t_count_coefficients ctlW Gk (Cn B k) a0 a1 S)
theorem c_inc_both_1 (B : CallF) (k : Nat) (a0 a1 : AV) (S : Heap) (hB : B f_inc_both_1 0 [a0, a1] S = none) : Cn B (k + 1) f_inc_both_1 0 [a0, a1] S = T_inc_both_1 ctlW Gk (Cn B k) a0 a1 S :=
  (callN_T hB (by kernel_rfl) (by kernel_rfl) (by decide) (by rfl) (by rfl)).trans (t_inc_both_1 ctlW Gk (Cn B k) a0 a1 S)
theorem c_spindleref16_unset (B : CallF) (k : Nat) (a0 a1 : AV) (S : Heap) (hB : B f_spindleref16_unset 0 [a0, a1] S = none) : Cn B (k + 1) f_spindleref16_unset 0 [a0, a1] S = T_spindleref16_unset ctlW Gk (Cn B k) a0 a1 S :=
  (callN_T hB (by kernel_rfl) (by kernel_rfl) (by decide) (by rfl) (by rfl)).trans (t_spindleref16_unset ctlW Gk (Cn B k) a0 a1 S)
theorem c_place_find (B : CallF) (k : Nat) (a0 a1 a2 : AV) (S : Heap) (hB : B f_place_find 0 [a0, a1, a2] S = none) : Cn B (k + 1) f_place_find 0 [a0, a1, a2] S = T_place_find ctlW Gk (Cn B k) a0 a1 a2 S :=
  (callN_T hB (by kernel_rfl) (by kernel_rfl) (by decide) (by rfl) (by rfl)).trans (t_place_find ctlW Gk (Cn B k) a0 a1 a2 S)
theorem c_slices_pdqsortOrdered_int (B : CallF) (k : Nat) (a0 a1 a2 a3 : AV) (S : Heap) (hB : B f_slices_pdqsortOrdered_int 0 [a0, a1, a2, a3] S = none) : Cn B (k + 1) f_slices_pdqsortOrdered_int 0 [a0, a1, a2, a3] S = T_slices_pdqsortOrdered_int ctlW Gk (Cn B k) a0 a1 a2 a3 S :=
  (callN_T hB (by kernel_rfl) (by kernel_rfl) (by decide) (by rfl) (by rfl)).trans (t_slices_pdqsortOrdered_int ctlW Gk (Cn B k) a0 a1 a2 a3 S)
theorem c_math_bits_Len (B : CallF) (k : Nat) (a0 : AV) (S : Heap) (hB : B f_math_bits_Len 0 [a0] S = none) : Cn B (k + 1) f_math_bits_Len 0 [a0] S = T_math_bits_Len ctlW Gk (Cn B k) a0 S :=
  (callN_T hB (by kernel_rfl) (by kernel_rfl) (by decide) (by rfl) (by rfl)).trans (t_math_bits_Len ctlW Gk (Cn B k) a0 S)
theorem c_place_grid (B : CallF) (k : Nat) (a0 : AV) (S : Heap) (hB : B f_place_grid 0 [a0] S = none) : Cn B (k + 1) f_place_grid 0 [a0] S = T_place_grid ctlW Gk (Cn B k) a0 S :=
  (callN_T hB (by kernel_rfl) (by kernel_rfl) (by decide) (by rfl) (by rfl)).trans (t_place_grid ctlW Gk (Cn B k) a0 S)
theorem c_spindleref12_within (B : CallF) (k : Nat) (a0 a1 a2 a3 : AV) (S : Heap) (hB : B f_spindleref12_within 0 [a0, a1, a2, a3] S = none) : Cn B (k + 1) f_spindleref12_within 0 [a0, a1, a2, a3] S = T_spindleref12_within ctlW Gk (Cn B k) a0 a1 a2 a3 S :=
  (callN_T hB (by kernel_rfl) (by kernel_rfl) (by decide) (by rfl) (by rfl)).trans (t_spindleref12_within ctlW Gk (Cn B k) a0 a1 a2 a3 S)
theorem c_spindleref12_quarter (B : CallF) (k : Nat) (a0 a1 : AV) (S : Heap) (hB : B f_spindleref12_quarter 0 [a0, a1] S = none) : Cn B (k + 1) f_spindleref12_quarter 0 [a0, a1] S = T_spindleref12_quarter ctlW Gk (Cn B k) a0 a1 S :=
  (callN_T hB (by kernel_rfl) (by kernel_rfl) (by decide) (by rfl) (by rfl)).trans (t_spindleref12_quarter ctlW Gk (Cn B k) a0 a1 S)
theorem c_mb_Block (B : CallF) (k : Nat) (a0 a1 : AV) (S : Heap) (hB : B f_mb_Block 0 [a0, a1] S = none) : Cn B (k + 1) f_mb_Block 0 [a0, a1] S = T_mb_Block ctlW Gk (Cn B k) a0 a1 S :=
  (callN_T hB (by kernel_rfl) (by kernel_rfl) (by decide) (by rfl) (by rfl)).trans (t_mb_Block ctlW Gk (Cn B k) a0 a1 S)
theorem c_count_luma (B : CallF) (k : Nat) (a0 : AV) (S : Heap) (hB : B f_count_luma 0 [a0] S = none) : Cn B (k + 1) f_count_luma 0 [a0] S = T_count_luma ctlW Gk (Cn B k) a0 S :=
  (callN_T hB (by kernel_rfl) (by kernel_rfl) (by decide) (by rfl) (by rfl)).trans (t_count_luma ctlW Gk (Cn B k) a0 S)
theorem c_slices_insertionSortOrdered_int (B : CallF) (k : Nat) (a0 a1 a2 : AV) (S : Heap) (hB : B f_slices_insertionSortOrdered_int 0 [a0, a1, a2] S = none) : Cn B (k + 1) f_slices_insertionSortOrdered_int 0 [a0, a1, a2] S = T_slices_insertionSortOrdered_int ctlW Gk (Cn B k) a0 a1 a2 S :=
  (callN_T hB (by kernel_rfl) (by kernel_rfl) (by decide) (by rfl) (by rfl)).trans (t_slices_insertionSortOrdered_int ctlW Gk (Cn B k) a0 a1 a2 S)
theorem c_slices_heapSortOrdered_int (B : CallF) (k : Nat) (a0 a1 a2 : AV) (S : Heap) (hB : B f_slices_heapSortOrdered_int 0 [a0, a1, a2] S = none) : Cn B (k + 1) f_slices_heapSortOrdered_int 0 [a0, a1, a2] S = T_slices_heapSortOrdered_int ctlW Gk (Cn B k) a0 a1 a2 S :=
  (callN_T hB (by kernel_rfl) (by kernel_rfl) (by decide) (by rfl) (by rfl)).trans (t_slices_heapSortOrdered_int ctlW Gk (Cn B k) a0 a1 a2 S)
theorem c_slices_breakPatternsOrdered_int (B : CallF) (k : Nat) (a0 a1 a2 : AV) (S : Heap) (hB : B f_slices_breakPatternsOrdered_int 0 [a0, a1, a2] S = none) : Cn B (k + 1) f_slices_breakPatternsOrdered_int 0 [a0, a1, a2] S = T_slices_breakPatternsOrdered_int ctlW Gk (Cn B k) a0 a1 a2 S :=
  (callN_T hB (by kernel_rfl) (by kernel_rfl) (by decide) (by rfl) (by rfl)).trans (t_slices_breakPatternsOrdered_int ctlW Gk (Cn B k) a0 a1 a2 S)
theorem c_slices_choosePivotOrdered_int (B : CallF) (k : Nat) (a0 a1 a2 : AV) (S : Heap) (hB : B f_slices_choosePivotOrdered_int 0 [a0, a1, a2] S = none) : Cn B (k + 1) f_slices_choosePivotOrdered_int 0 [a0, a1, a2] S = T_slices_choosePivotOrdered_int ctlW Gk (Cn B k) a0 a1 a2 S :=
  (callN_T hB (by kernel_rfl) (by kernel_rfl) (by decide) (by rfl) (by rfl)).trans (t_slices_choosePivotOrdered_int ctlW Gk (Cn B k) a0 a1 a2 S)
theorem c_slices_reverseRangeOrdered_int (B : CallF) (k : Nat) (a0 a1 a2 : AV) (S : Heap) (hB : B f_slices_reverseRangeOrdered_int 0 [a0, a1, a2] S = none) : Cn B (k + 1) f_slices_reverseRangeOrdered_int 0 [a0, a1, a2] S = T_slices_reverseRangeOrdered_int ctlW Gk (Cn B k) a0 a1 a2 S :=
  (callN_T hB (by kernel_rfl) (by kernel_rfl) (by decide) (by rfl) (by rfl)).trans (t_slices_reverseRangeOrdered_int ctlW Gk (Cn B k) a0 a1 a2 S)
theorem c_slices_partialInsertionSortOrdered_int (B : CallF) (k : Nat) (a0 a1 a2 : AV) (S : Heap) (hB : B f_slices_partialInsertionSortOrdered_int 0 [a0, a1, a2] S = none) : Cn B (k + 1) f_slices_partialInsertionSortOrdered_int 0 [a0, a1, a2] S = T_slices_partialInsertionSortOrdered_int ctlW Gk (Cn B k) a0 a1 a2 S :=
  (callN_T hB (by kernel_rfl) (by kernel_rfl) (by decide) (by rfl) (by rfl)).trans (t_slices_partialInsertionSortOrdered_int ctlW Gk (Cn B k) a0 a1 a2 S)
theorem c_cmp_Less_int (B : CallF) (k : Nat) (a0 a1 : AV) (S : Heap) (hB : B f_cmp_Less_int 0 [a0, a1] S = none) : Cn B (k + 1) f_cmp_Less_int 0 [a0, a1] S = T_cmp_Less_int ctlW Gk (Cn B k) a0 a1 S :=
  (callN_T hB (by kernel_rfl) (by kernel_rfl) (by decide) (by rfl) (by rfl)).trans (t_cmp_Less_int ctlW Gk (Cn B k) a0 a1 S)
theorem c_slices_partitionEqualOrdered_int (B : CallF) (k : Nat) (a0 a1 a2 a3 : AV) (S : Heap) (hB : B f_slices_partitionEqualOrdered_int 0 [a0, a1, a2, a3] S = none) : Cn B (k + 1) f_slices_partitionEqualOrdered_int 0 [a0, a1, a2, a3] S = T_slices_partitionEqualOrdered_int ctlW Gk (Cn B k) a0 a1 a2 a3 S :=
  (callN_T hB (by kernel_rfl) (by kernel_rfl) (by decide) (by rfl) (by rfl)).trans (t_slices_partitionEqualOrdered_int ctlW Gk (Cn B k) a0 a1 a2 a3 S)
theorem c_slices_partitionOrdered_int (B : CallF) (k : Nat) (a0 a1 a2 a3 : AV) (S : Heap) (hB : B f_slices_partitionOrdered_int 0 [a0, a1, a2, a3] S = none) : Cn B (k + 1) f_slices_partitionOrdered_int 0 [a0, a1, a2, a3] S = T_slices_partitionOrdered_int ctlW Gk (Cn B k) a0 a1 a2 a3 S :=
  (callN_T hB (by kernel_rfl) (by kernel_rfl) (by decide) (by rfl) (by rfl)).trans (t_slices_partitionOrdered_int ctlW Gk (Cn B k) a0 a1 a2 a3 S)
theorem c_math_bits_Len32 (B : CallF) (k : Nat) (a0 : AV) (S : Heap) (hB : B f_math_bits_Len32 0 [a0] S = none) : Cn B (k + 1) f_math_bits_Len32 0 [a0] S = T_math_bits_Len32 ctlW Gk (Cn B k) a0 S :=
  (callN_T hB (by kernel_rfl) (by kernel_rfl) (by decide) (by rfl) (by rfl)).trans (t_math_bits_Len32 ctlW Gk (Cn B k) a0 S)
theorem c_math_bits_Len64 (B : CallF) (k : Nat) (a0 : AV) (S : Heap) (hB : B f_math_bits_Len64 0 [a0] S = none) : Cn B (k + 1) f_math_bits_Len64 0 [a0] S = T_math_bits_Len64 ctlW Gk (Cn B k) a0 S :=
  (callN_T hB (by kernel_rfl) (by kernel_rfl) (by decide) (by rfl) (by rfl)).trans (t_math_bits_Len64 ctlW Gk (Cn B k) a0 S)
theorem c_slices_Index_api_Coded_api_Coded (B : CallF) (k : Nat) (a0 a1 : AV) (S : Heap) (hB : B f_slices_Index_api_Coded_api_Coded 0 [a0, a1] S = none) : Cn B (k + 1) f_slices_Index_api_Coded_api_Coded 0 [a0, a1] S = T_slices_Index_api_Coded_api_Coded ctlW Gk (Cn B k) a0 a1 S :=
  (callN_T hB (by kernel_rfl) (by kernel_rfl) (by decide) (by rfl) (by rfl)).trans (t_slices_Index_api_Coded_api_Coded ctlW Gk (Cn B k) a0 a1 S)
theorem c_slices_siftDownOrdered_int (B : CallF) (k : Nat) (a0 a1 a2 a3 : AV) (S : Heap) (hB : B f_slices_siftDownOrdered_int 0 [a0, a1, a2, a3] S = none) : Cn B (k + 1) f_slices_siftDownOrdered_int 0 [a0, a1, a2, a3] S = T_slices_siftDownOrdered_int ctlW Gk (Cn B k) a0 a1 a2 a3 S :=
  (callN_T hB (by kernel_rfl) (by kernel_rfl) (by decide) (by rfl) (by rfl)).trans (t_slices_siftDownOrdered_int ctlW Gk (Cn B k) a0 a1 a2 a3 S)
theorem c_slices_nextPowerOfTwo (B : CallF) (k : Nat) (a0 : AV) (S : Heap) (hB : B f_slices_nextPowerOfTwo 0 [a0] S = none) : Cn B (k + 1) f_slices_nextPowerOfTwo 0 [a0] S = T_slices_nextPowerOfTwo ctlW Gk (Cn B k) a0 S :=
  (callN_T hB (by kernel_rfl) (by kernel_rfl) (by decide) (by rfl) (by rfl)).trans (t_slices_nextPowerOfTwo ctlW Gk (Cn B k) a0 S)
theorem c_slices_xorshift_Next (B : CallF) (k : Nat) (a0 : AV) (S : Heap) (hB : B f_slices_xorshift_Next 0 [a0] S = none) : Cn B (k + 1) f_slices_xorshift_Next 0 [a0] S = T_slices_xorshift_Next ctlW Gk (Cn B k) a0 S :=
  (callN_T hB (by kernel_rfl) (by kernel_rfl) (by decide) (by rfl) (by rfl)).trans (t_slices_xorshift_Next ctlW Gk (Cn B k) a0 S)
theorem c_slices_medianAdjacentOrdered_int (B : CallF) (k : Nat) (a0 a1 a2 : AV) (S : Heap) (hB : B f_slices_medianAdjacentOrdered_int 0 [a0, a1, a2] S = none) : Cn B (k + 1) f_slices_medianAdjacentOrdered_int 0 [a0, a1, a2] S = T_slices_medianAdjacentOrdered_int ctlW Gk (Cn B k) a0 a1 a2 S :=
  (callN_T hB (by kernel_rfl) (by kernel_rfl) (by decide) (by rfl) (by rfl)).trans (t_slices_medianAdjacentOrdered_int ctlW Gk (Cn B k) a0 a1 a2 S)
theorem c_slices_medianOrdered_int (B : CallF) (k : Nat) (a0 a1 a2 a3 a4 : AV) (S : Heap) (hB : B f_slices_medianOrdered_int 0 [a0, a1, a2, a3, a4] S = none) : Cn B (k + 1) f_slices_medianOrdered_int 0 [a0, a1, a2, a3, a4] S = T_slices_medianOrdered_int ctlW Gk (Cn B k) a0 a1 a2 a3 a4 S :=
  (callN_T hB (by kernel_rfl) (by kernel_rfl) (by decide) (by rfl) (by rfl)).trans (t_slices_medianOrdered_int ctlW Gk (Cn B k) a0 a1 a2 a3 a4 S)
theorem c_cmp_isNaN_int (B : CallF) (k : Nat) (a0 : AV) (S : Heap) (hB : B f_cmp_isNaN_int 0 [a0] S = none) : Cn B (k + 1) f_cmp_isNaN_int 0 [a0] S = T_cmp_isNaN_int ctlW Gk (Cn B k) a0 S :=
  (callN_T hB (by kernel_rfl) (by kernel_rfl) (by decide) (by rfl) (by rfl)).trans (t_cmp_isNaN_int ctlW Gk (Cn B k) a0 S)
theorem c_slices_order2Ordered_int (B : CallF) (k : Nat) (a0 a1 a2 a3 : AV) (S : Heap) (hB : B f_slices_order2Ordered_int 0 [a0, a1, a2, a3] S = none) : Cn B (k + 1) f_slices_order2Ordered_int 0 [a0, a1, a2, a3] S = T_slices_order2Ordered_int ctlW Gk (Cn B k) a0 a1 a2 a3 S :=
  (callN_T hB (by kernel_rfl) (by kernel_rfl) (by decide) (by rfl) (by rfl)).trans (t_slices_order2Ordered_int ctlW Gk (Cn B k) a0 a1 a2 a3 S)
theorem c_spindlekit_CopyMb_w1 (B : CallF) (k : Nat) (a0 : AV) (S : Heap) (hB : B f_spindlekit_CopyMb 1 [a0] S = none) : Cn B (k + 1) f_spindlekit_CopyMb 1 [a0] S = T_spindlekit_CopyMb_w1 ctlW Gk (Cn B k) a0 S :=
  (callN_T hB (by kernel_rfl) (by kernel_rfl) (by decide) (by rfl) (by rfl)).trans (t_spindlekit_CopyMb_w1 ctlW Gk (Cn B k) a0 S)
theorem c_spindlekit_CopyInts_w1 (B : CallF) (k : Nat) (a0 : AV) (S : Heap) (hB : B f_spindlekit_CopyInts 1 [a0] S = none) : Cn B (k + 1) f_spindlekit_CopyInts 1 [a0] S = T_spindlekit_CopyInts_w1 ctlW Gk (Cn B k) a0 S :=
  (callN_T hB (by kernel_rfl) (by kernel_rfl) (by decide) (by rfl) (by rfl)).trans (t_spindlekit_CopyInts_w1 ctlW Gk (Cn B k) a0 S)
theorem c_spindlekit_CopyBlocks_w1 (B : CallF) (k : Nat) (a0 : AV) (S : Heap) (hB : B f_spindlekit_CopyBlocks 1 [a0] S = none) : Cn B (k + 1) f_spindlekit_CopyBlocks 1 [a0] S = T_spindlekit_CopyBlocks_w1 ctlW Gk (Cn B k) a0 S :=
  (callN_T hB (by kernel_rfl) (by kernel_rfl) (by decide) (by rfl) (by rfl)).trans (t_spindlekit_CopyBlocks_w1 ctlW Gk (Cn B k) a0 S)
end Go.Ab.tNearU
