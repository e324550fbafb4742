/- What a call of each function comes to, in the tower of calls. Written by program: no condition. -/
import Derived.Test.YtbmcdphiolidkaaIT
set_option maxRecDepth 100000
set_option linter.unusedVariables false
namespace Go.Ab.tNearU
open Go Go.Proofs
theorem callN_T {X : Ctl} {P : Program} {G : Nat → Option (List AV)} {A : Nat → Nat → FAn} {B : CallF} {k f way : Nat} {args : List AV} {S : Heap} {fn : Func} {an : FAn} (hB : B f way args S = none) (hf : P.funcs[f]? = some fn)
    (hn : (fn.name == "runtime.NumGoroutine") = false) (hlt : f < yldId) (ha : A f way = an) (hl : an.loc = false) : callN X P G A B (k + 1) f way args S = evFnA X P G (callN X P G A B k) fn an args S := by
  have h1 : ¬ yldId ≤ f := by omega
  simp only [callN, hB, ha, hl, oneC, if_neg h1, hf, hn, Bool.false_eq_true, if_false]
def An : Nat → Nat → FAn := fun f w => if f = 3 then an_spindlelaw16_IncRanges else if f = 4 then an_spindlelaw14_Few else if f = 5 then an_spindlelaw15_Both else if f = 6 then an_spindlelaw16_awake else if f = 7 then an_spindlelaw16_IncRanges_1 else if f = 8 then an_inc_Skip else if f = 9 then an_inc_Type else if f = 10 then an_inc_Mode else if f = 11 then an_inc_Qp else if f = 12 then an_inc_Chroma else if f = 13 then an_inc_Luma else if f = 14 then an_inc_Ref else if f = 15 then an_spindlelaw15_Blocks else if f = 16 then an_inc_Block else if f = 17 then an_near_New else if f = 18 then an_spindleref14_New else if f = 19 then an_near_Near_Add else if f = 20 then an_spindlekit_CopyMb else if f = 21 then an_spindleref14_Near_Add else if f = 22 then an_spindlelaw15_Pcm else if f = 23 then an_spindlelaw16_moved else if f = 24 then an_inc_weigh else if f = 25 then an_inc_Skip_1 else if f = 26 then an_inc_Type_1 else if f = 27 then an_inc_Mode_1 else if f = 28 then an_near_Near_Last else if f = 29 then an_inc_Chroma_1 else if f = 30 then an_inc_Luma_1 else if f = 31 then an_inc_Luma_1_1 else if f = 32 then an_inc_moves else if f = 33 then an_kinds_Parts else if f = 34 then an_mb_Copy else if f = 35 then an_inc_Ref_1 else if f = 36 then an_inc_Ref_1_1 else if f = 37 then an_inc_index else if f = 38 then an_mb_Blocks else if f = 39 then an_inc_Block_1 else if f = 40 then an_kinds_Intra else if f = 41 then an_count_Total else if f = 42 then an_place_Left else if f = 43 then an_place_ChLeft else if f = 44 then an_near_Near_Left else if f = 45 then an_place_Above else if f = 46 then an_place_ChAbove else if f = 47 then an_near_Near_Above else if f = 48 then an_near_Near_Next else if f = 49 then an_spindlekit_CopyInts else if f = 50 then an_spindlekit_CopyBlocks else if f = 51 then an_spindleref14_Near_Next else if f = 52 then an_inc_both else if f = 53 then an_near_Near_at else if f = 54 then an_slices_Clone_int_int else if f = 55 then an_slices_Clone_api_Vec_api_Vec else if f = 56 then an_slices_Clone_int_int_v2 else if f = 57 then an_mb_coded else if f = 58 then an_count_exists else if f = 59 then an_count_coefficients else if f = 60 then an_place_step else if f = 61 then an_inc_both_1 else if f = 62 then an_mb_Block else if f = 63 then an_count_luma else if f = 64 then an_place_grid else if f = 65 then an_place_find else if f = 66 then an_slices_Index_api_Coded_api_Coded else ⟨.nil, false, false⟩
noncomputable abbrev Cn (B : CallF) (k : Nat) : CallF := callN (rngC ctlW) Try.prog (fun _ => none) An B k
theorem c_spindlelaw16_IncRanges (B : CallF) (k : Nat) (a0 a1 a2 a3 a4 : AV) (S : Heap) (hB : B f_spindlelaw16_IncRanges 0 [a0, a1, a2, a3, a4] S = none) : Cn B (k + 1) f_spindlelaw16_IncRanges 0 [a0, a1, a2, a3, a4] S = T_spindlelaw16_IncRanges ctlW (fun _ => none) (Cn B k) a0 a1 a2 a3 a4 S :=
  (callN_T hB (by kernel_rfl) (by kernel_rfl) (by decide) (by rfl) (by rfl)).trans (t_spindlelaw16_IncRanges ctlW (fun _ => none) (Cn B k) a0 a1 a2 a3 a4 S)
theorem c_spindlelaw14_Few (B : CallF) (k : Nat) (a0 a1 : AV) (S : Heap) (hB : B f_spindlelaw14_Few 0 [a0, a1] S = none) : Cn B (k + 1) f_spindlelaw14_Few 0 [a0, a1] S = T_spindlelaw14_Few ctlW (fun _ => none) (Cn B k) a0 a1 S :=
  (callN_T hB (by kernel_rfl) (by kernel_rfl) (by decide) (by rfl) (by rfl)).trans (t_spindlelaw14_Few ctlW (fun _ => none) (Cn B k) a0 a1 S)
theorem c_spindlelaw15_Both (B : CallF) (k : Nat) (a0 a1 a2 : AV) (S : Heap) (hB : B f_spindlelaw15_Both 0 [a0, a1, a2] S = none) : Cn B (k + 1) f_spindlelaw15_Both 0 [a0, a1, a2] S = T_spindlelaw15_Both ctlW (fun _ => none) (Cn B k) a0 a1 a2 S :=
  (callN_T hB (by kernel_rfl) (by kernel_rfl) (by decide) (by rfl) (by rfl)).trans (t_spindlelaw15_Both ctlW (fun _ => none) (Cn B k) a0 a1 a2 S)
theorem c_spindlelaw16_awake (B : CallF) (k : Nat) (S : Heap) (hB : B f_spindlelaw16_awake 0 [] S = none) : Cn B (k + 1) f_spindlelaw16_awake 0 [] S = T_spindlelaw16_awake ctlW (fun _ => none) (Cn B k) S :=
  (callN_T hB (by kernel_rfl) (by kernel_rfl) (by decide) (by rfl) (by rfl)).trans (t_spindlelaw16_awake ctlW (fun _ => none) (Cn B k) S)
theorem c_spindlelaw16_IncRanges_1 (B : CallF) (k : Nat) (a0 a1 : AV) (S : Heap) (hB : B f_spindlelaw16_IncRanges_1 0 [a0, a1] S = none) : Cn B (k + 1) f_spindlelaw16_IncRanges_1 0 [a0, a1] S = T_spindlelaw16_IncRanges_1 ctlW (fun _ => none) (Cn B k) a0 a1 S :=
  (callN_T hB (by kernel_rfl) (by kernel_rfl) (by decide) (by rfl) (by rfl)).trans (t_spindlelaw16_IncRanges_1 ctlW (fun _ => none) (Cn B k) a0 a1 S)
theorem c_inc_Skip (B : CallF) (k : Nat) (a0 : AV) (S : Heap) (hB : B f_inc_Skip 0 [a0] S = none) : Cn B (k + 1) f_inc_Skip 0 [a0] S = T_inc_Skip ctlW (fun _ => none) (Cn B k) a0 S :=
  (callN_T hB (by kernel_rfl) (by kernel_rfl) (by decide) (by rfl) (by rfl)).trans (t_inc_Skip ctlW (fun _ => none) (Cn B k) a0 S)
theorem c_inc_Type (B : CallF) (k : Nat) (a0 : AV) (S : Heap) (hB : B f_inc_Type 0 [a0] S = none) : Cn B (k + 1) f_inc_Type 0 [a0] S = T_inc_Type ctlW (fun _ => none) (Cn B k) a0 S :=
  (callN_T hB (by kernel_rfl) (by kernel_rfl) (by decide) (by rfl) (by rfl)).trans (t_inc_Type ctlW (fun _ => none) (Cn B k) a0 S)
theorem c_inc_Mode (B : CallF) (k : Nat) (a0 : AV) (S : Heap) (hB : B f_inc_Mode 0 [a0] S = none) : Cn B (k + 1) f_inc_Mode 0 [a0] S = T_inc_Mode ctlW (fun _ => none) (Cn B k) a0 S :=
  (callN_T hB (by kernel_rfl) (by kernel_rfl) (by decide) (by rfl) (by rfl)).trans (t_inc_Mode ctlW (fun _ => none) (Cn B k) a0 S)
theorem c_inc_Qp (B : CallF) (k : Nat) (a0 : AV) (S : Heap) (hB : B f_inc_Qp 0 [a0] S = none) : Cn B (k + 1) f_inc_Qp 0 [a0] S = T_inc_Qp ctlW (fun _ => none) (Cn B k) a0 S :=
  (callN_T hB (by kernel_rfl) (by kernel_rfl) (by decide) (by rfl) (by rfl)).trans (t_inc_Qp ctlW (fun _ => none) (Cn B k) a0 S)
theorem c_inc_Chroma (B : CallF) (k : Nat) (a0 a1 : AV) (S : Heap) (hB : B f_inc_Chroma 0 [a0, a1] S = none) : Cn B (k + 1) f_inc_Chroma 0 [a0, a1] S = T_inc_Chroma ctlW (fun _ => none) (Cn B k) a0 a1 S :=
  (callN_T hB (by kernel_rfl) (by kernel_rfl) (by decide) (by rfl) (by rfl)).trans (t_inc_Chroma ctlW (fun _ => none) (Cn B k) a0 a1 S)
theorem c_inc_Luma (B : CallF) (k : Nat) (a0 a1 a2 : AV) (S : Heap) (hB : B f_inc_Luma 0 [a0, a1, a2] S = none) : Cn B (k + 1) f_inc_Luma 0 [a0, a1, a2] S = T_inc_Luma ctlW (fun _ => none) (Cn B k) a0 a1 a2 S :=
  (callN_T hB (by kernel_rfl) (by kernel_rfl) (by decide) (by rfl) (by rfl)).trans (t_inc_Luma ctlW (fun _ => none) (Cn B k) a0 a1 a2 S)
theorem c_inc_Ref (B : CallF) (k : Nat) (a0 a1 a2 : AV) (S : Heap) (hB : B f_inc_Ref 0 [a0, a1, a2] S = none) : Cn B (k + 1) f_inc_Ref 0 [a0, a1, a2] S = T_inc_Ref ctlW (fun _ => none) (Cn B k) a0 a1 a2 S :=
  (callN_T hB (by kernel_rfl) (by kernel_rfl) (by decide) (by rfl) (by rfl)).trans (t_inc_Ref ctlW (fun _ => none) (Cn B k) a0 a1 a2 S)
theorem c_spindlelaw15_Blocks (B : CallF) (k : Nat) (a0 : AV) (S : Heap) (hB : B f_spindlelaw15_Blocks 0 [a0] S = none) : Cn B (k + 1) f_spindlelaw15_Blocks 0 [a0] S = T_spindlelaw15_Blocks ctlW (fun _ => none) (Cn B k) a0 S :=
  (callN_T hB (by kernel_rfl) (by kernel_rfl) (by decide) (by rfl) (by rfl)).trans (t_spindlelaw15_Blocks ctlW (fun _ => none) (Cn B k) a0 S)
theorem c_inc_Block (B : CallF) (k : Nat) (a0 a1 a2 : AV) (S : Heap) (hB : B f_inc_Block 0 [a0, a1, a2] S = none) : Cn B (k + 1) f_inc_Block 0 [a0, a1, a2] S = T_inc_Block ctlW (fun _ => none) (Cn B k) a0 a1 a2 S :=
  (callN_T hB (by kernel_rfl) (by kernel_rfl) (by decide) (by rfl) (by rfl)).trans (t_inc_Block ctlW (fun _ => none) (Cn B k) a0 a1 a2 S)
theorem c_near_New (B : CallF) (k : Nat) (a0 a1 : AV) (S : Heap) (hB : B f_near_New 0 [a0, a1] S = none) : Cn B (k + 1) f_near_New 0 [a0, a1] S = T_near_New ctlW (fun _ => none) (Cn B k) a0 a1 S :=
  (callN_T hB (by kernel_rfl) (by kernel_rfl) (by decide) (by rfl) (by rfl)).trans (t_near_New ctlW (fun _ => none) (Cn B k) a0 a1 S)
theorem c_spindleref14_New (B : CallF) (k : Nat) (a0 a1 : AV) (S : Heap) (hB : B f_spindleref14_New 0 [a0, a1] S = none) : Cn B (k + 1) f_spindleref14_New 0 [a0, a1] S = T_spindleref14_New ctlW (fun _ => none) (Cn B k) a0 a1 S :=
  (callN_T hB (by kernel_rfl) (by kernel_rfl) (by decide) (by rfl) (by rfl)).trans (t_spindleref14_New ctlW (fun _ => none) (Cn B k) a0 a1 S)
theorem c_near_Near_Add (B : CallF) (k : Nat) (a0 a1 : AV) (S : Heap) (hB : B f_near_Near_Add 0 [a0, a1] S = none) : Cn B (k + 1) f_near_Near_Add 0 [a0, a1] S = T_near_Near_Add ctlW (fun _ => none) (Cn B k) a0 a1 S :=
  (callN_T hB (by kernel_rfl) (by kernel_rfl) (by decide) (by rfl) (by rfl)).trans (t_near_Near_Add ctlW (fun _ => none) (Cn B k) a0 a1 S)
theorem c_spindlekit_CopyMb (B : CallF) (k : Nat) (a0 : AV) (S : Heap) (hB : B f_spindlekit_CopyMb 0 [a0] S = none) : Cn B (k + 1) f_spindlekit_CopyMb 0 [a0] S = T_spindlekit_CopyMb ctlW (fun _ => none) (Cn B k) a0 S :=
  (callN_T hB (by kernel_rfl) (by kernel_rfl) (by decide) (by rfl) (by rfl)).trans (t_spindlekit_CopyMb ctlW (fun _ => none) (Cn B k) a0 S)
theorem c_spindleref14_Near_Add (B : CallF) (k : Nat) (a0 a1 : AV) (S : Heap) (hB : B f_spindleref14_Near_Add 0 [a0, a1] S = none) : Cn B (k + 1) f_spindleref14_Near_Add 0 [a0, a1] S = T_spindleref14_Near_Add ctlW (fun _ => none) (Cn B k) a0 a1 S :=
  (callN_T hB (by kernel_rfl) (by kernel_rfl) (by decide) (by rfl) (by rfl)).trans (t_spindleref14_Near_Add ctlW (fun _ => none) (Cn B k) a0 a1 S)
theorem c_spindlelaw15_Pcm (B : CallF) (k : Nat) (S : Heap) (hB : B f_spindlelaw15_Pcm 0 [] S = none) : Cn B (k + 1) f_spindlelaw15_Pcm 0 [] S = T_spindlelaw15_Pcm ctlW (fun _ => none) (Cn B k) S :=
  (callN_T hB (by kernel_rfl) (by kernel_rfl) (by decide) (by rfl) (by rfl)).trans (t_spindlelaw15_Pcm ctlW (fun _ => none) (Cn B k) S)
theorem c_spindlelaw16_moved (B : CallF) (k : Nat) (a0 : AV) (S : Heap) (hB : B f_spindlelaw16_moved 0 [a0] S = none) : Cn B (k + 1) f_spindlelaw16_moved 0 [a0] S = T_spindlelaw16_moved ctlW (fun _ => none) (Cn B k) a0 S :=
  (callN_T hB (by kernel_rfl) (by kernel_rfl) (by decide) (by rfl) (by rfl)).trans (t_spindlelaw16_moved ctlW (fun _ => none) (Cn B k) a0 S)
theorem c_inc_weigh (B : CallF) (k : Nat) (a0 a1 a2 : AV) (S : Heap) (hB : B f_inc_weigh 0 [a0, a1, a2] S = none) : Cn B (k + 1) f_inc_weigh 0 [a0, a1, a2] S = T_inc_weigh ctlW (fun _ => none) (Cn B k) a0 a1 a2 S :=
  (callN_T hB (by kernel_rfl) (by kernel_rfl) (by decide) (by rfl) (by rfl)).trans (t_inc_weigh ctlW (fun _ => none) (Cn B k) a0 a1 a2 S)
theorem c_inc_Skip_1 (B : CallF) (k : Nat) (a0 : AV) (S : Heap) (hB : B f_inc_Skip_1 0 [a0] S = none) : Cn B (k + 1) f_inc_Skip_1 0 [a0] S = T_inc_Skip_1 ctlW (fun _ => none) (Cn B k) a0 S :=
  (callN_T hB (by kernel_rfl) (by kernel_rfl) (by decide) (by rfl) (by rfl)).trans (t_inc_Skip_1 ctlW (fun _ => none) (Cn B k) a0 S)
theorem c_inc_Type_1 (B : CallF) (k : Nat) (a0 : AV) (S : Heap) (hB : B f_inc_Type_1 0 [a0] S = none) : Cn B (k + 1) f_inc_Type_1 0 [a0] S = T_inc_Type_1 ctlW (fun _ => none) (Cn B k) a0 S :=
  (callN_T hB (by kernel_rfl) (by kernel_rfl) (by decide) (by rfl) (by rfl)).trans (t_inc_Type_1 ctlW (fun _ => none) (Cn B k) a0 S)
theorem c_inc_Mode_1 (B : CallF) (k : Nat) (a0 : AV) (S : Heap) (hB : B f_inc_Mode_1 0 [a0] S = none) : Cn B (k + 1) f_inc_Mode_1 0 [a0] S = T_inc_Mode_1 ctlW (fun _ => none) (Cn B k) a0 S :=
  (callN_T hB (by kernel_rfl) (by kernel_rfl) (by decide) (by rfl) (by rfl)).trans (t_inc_Mode_1 ctlW (fun _ => none) (Cn B k) a0 S)
theorem c_near_Near_Last (B : CallF) (k : Nat) (a0 : AV) (S : Heap) (hB : B f_near_Near_Last 0 [a0] S = none) : Cn B (k + 1) f_near_Near_Last 0 [a0] S = T_near_Near_Last ctlW (fun _ => none) (Cn B k) a0 S :=
  (callN_T hB (by kernel_rfl) (by kernel_rfl) (by decide) (by rfl) (by rfl)).trans (t_near_Near_Last ctlW (fun _ => none) (Cn B k) a0 S)
theorem c_inc_Chroma_1 (B : CallF) (k : Nat) (a0 a1 : AV) (S : Heap) (hB : B f_inc_Chroma_1 0 [a0, a1] S = none) : Cn B (k + 1) f_inc_Chroma_1 0 [a0, a1] S = T_inc_Chroma_1 ctlW (fun _ => none) (Cn B k) a0 a1 S :=
  (callN_T hB (by kernel_rfl) (by kernel_rfl) (by decide) (by rfl) (by rfl)).trans (t_inc_Chroma_1 ctlW (fun _ => none) (Cn B k) a0 a1 S)
theorem c_inc_Luma_1 (B : CallF) (k : Nat) (a0 : AV) (S : Heap) (hB : B f_inc_Luma_1 0 [a0] S = none) : Cn B (k + 1) f_inc_Luma_1 0 [a0] S = T_inc_Luma_1 ctlW (fun _ => none) (Cn B k) a0 S :=
  (callN_T hB (by kernel_rfl) (by kernel_rfl) (by decide) (by rfl) (by rfl)).trans (t_inc_Luma_1 ctlW (fun _ => none) (Cn B k) a0 S)
theorem c_inc_Luma_1_1 (B : CallF) (k : Nat) (a0 a1 : AV) (S : Heap) (hB : B f_inc_Luma_1_1 0 [a0, a1] S = none) : Cn B (k + 1) f_inc_Luma_1_1 0 [a0, a1] S = T_inc_Luma_1_1 ctlW (fun _ => none) (Cn B k) a0 a1 S :=
  (callN_T hB (by kernel_rfl) (by kernel_rfl) (by decide) (by rfl) (by rfl)).trans (t_inc_Luma_1_1 ctlW (fun _ => none) (Cn B k) a0 a1 S)
theorem c_inc_moves (B : CallF) (k : Nat) (a0 : AV) (S : Heap) (hB : B f_inc_moves 0 [a0] S = none) : Cn B (k + 1) f_inc_moves 0 [a0] S = T_inc_moves ctlW (fun _ => none) (Cn B k) a0 S :=
  (callN_T hB (by kernel_rfl) (by kernel_rfl) (by decide) (by rfl) (by rfl)).trans (t_inc_moves ctlW (fun _ => none) (Cn B k) a0 S)
theorem c_kinds_Parts (B : CallF) (k : Nat) (a0 : AV) (S : Heap) (hB : B f_kinds_Parts 0 [a0] S = none) : Cn B (k + 1) f_kinds_Parts 0 [a0] S = T_kinds_Parts ctlW (fun _ => none) (Cn B k) a0 S :=
  (callN_T hB (by kernel_rfl) (by kernel_rfl) (by decide) (by rfl) (by rfl)).trans (t_kinds_Parts ctlW (fun _ => none) (Cn B k) a0 S)
theorem c_mb_Copy (B : CallF) (k : Nat) (a0 : AV) (S : Heap) (hB : B f_mb_Copy 0 [a0] S = none) : Cn B (k + 1) f_mb_Copy 0 [a0] S = T_mb_Copy ctlW (fun _ => none) (Cn B k) a0 S :=
  (callN_T hB (by kernel_rfl) (by kernel_rfl) (by decide) (by rfl) (by rfl)).trans (t_mb_Copy ctlW (fun _ => none) (Cn B k) a0 S)
theorem c_inc_Ref_1 (B : CallF) (k : Nat) (a0 : AV) (S : Heap) (hB : B f_inc_Ref_1 0 [a0] S = none) : Cn B (k + 1) f_inc_Ref_1 0 [a0] S = T_inc_Ref_1 ctlW (fun _ => none) (Cn B k) a0 S :=
  (callN_T hB (by kernel_rfl) (by kernel_rfl) (by decide) (by rfl) (by rfl)).trans (t_inc_Ref_1 ctlW (fun _ => none) (Cn B k) a0 S)
theorem c_inc_Ref_1_1 (B : CallF) (k : Nat) (a0 a1 : AV) (S : Heap) (hB : B f_inc_Ref_1_1 0 [a0, a1] S = none) : Cn B (k + 1) f_inc_Ref_1_1 0 [a0, a1] S = T_inc_Ref_1_1 ctlW (fun _ => none) (Cn B k) a0 a1 S :=
  (callN_T hB (by kernel_rfl) (by kernel_rfl) (by decide) (by rfl) (by rfl)).trans (t_inc_Ref_1_1 ctlW (fun _ => none) (Cn B k) a0 a1 S)
theorem c_inc_index (B : CallF) (k : Nat) (a0 a1 : AV) (S : Heap) (hB : B f_inc_index 0 [a0, a1] S = none) : Cn B (k + 1) f_inc_index 0 [a0, a1] S = T_inc_index ctlW (fun _ => none) (Cn B k) a0 a1 S :=
  (callN_T hB (by kernel_rfl) (by kernel_rfl) (by decide) (by rfl) (by rfl)).trans (t_inc_index ctlW (fun _ => none) (Cn B k) a0 a1 S)
theorem c_mb_Blocks (B : CallF) (k : Nat) (a0 : AV) (S : Heap) (hB : B f_mb_Blocks 0 [a0] S = none) : Cn B (k + 1) f_mb_Blocks 0 [a0] S = T_mb_Blocks ctlW (fun _ => none) (Cn B k) a0 S :=
  (callN_T hB (by kernel_rfl) (by kernel_rfl) (by decide) (by rfl) (by rfl)).trans (t_mb_Blocks ctlW (fun _ => none) (Cn B k) a0 S)
theorem c_inc_Block_1 (B : CallF) (k : Nat) (a0 a1 a2 a3 a4 a5 a6 : AV) (S : Heap) (hB : B f_inc_Block_1 0 [a0, a1, a2, a3, a4, a5, a6] S = none) : Cn B (k + 1) f_inc_Block_1 0 [a0, a1, a2, a3, a4, a5, a6] S = T_inc_Block_1 ctlW (fun _ => none) (Cn B k) a0 a1 a2 a3 a4 a5 a6 S :=
  (callN_T hB (by kernel_rfl) (by kernel_rfl) (by decide) (by rfl) (by rfl)).trans (t_inc_Block_1 ctlW (fun _ => none) (Cn B k) a0 a1 a2 a3 a4 a5 a6 S)
theorem c_kinds_Intra (B : CallF) (k : Nat) (a0 : AV) (S : Heap) (hB : B f_kinds_Intra 0 [a0] S = none) : Cn B (k + 1) f_kinds_Intra 0 [a0] S = T_kinds_Intra ctlW (fun _ => none) (Cn B k) a0 S :=
  (callN_T hB (by kernel_rfl) (by kernel_rfl) (by decide) (by rfl) (by rfl)).trans (t_kinds_Intra ctlW (fun _ => none) (Cn B k) a0 S)
theorem c_count_Total (B : CallF) (k : Nat) (a0 a1 : AV) (S : Heap) (hB : B f_count_Total 0 [a0, a1] S = none) : Cn B (k + 1) f_count_Total 0 [a0, a1] S = T_count_Total ctlW (fun _ => none) (Cn B k) a0 a1 S :=
  (callN_T hB (by kernel_rfl) (by kernel_rfl) (by decide) (by rfl) (by rfl)).trans (t_count_Total ctlW (fun _ => none) (Cn B k) a0 a1 S)
theorem c_place_Left (B : CallF) (k : Nat) (a0 : AV) (S : Heap) (hB : B f_place_Left 0 [a0] S = none) : Cn B (k + 1) f_place_Left 0 [a0] S = T_place_Left ctlW (fun _ => none) (Cn B k) a0 S :=
  (callN_T hB (by kernel_rfl) (by kernel_rfl) (by decide) (by rfl) (by rfl)).trans (t_place_Left ctlW (fun _ => none) (Cn B k) a0 S)
theorem c_place_ChLeft (B : CallF) (k : Nat) (a0 : AV) (S : Heap) (hB : B f_place_ChLeft 0 [a0] S = none) : Cn B (k + 1) f_place_ChLeft 0 [a0] S = T_place_ChLeft ctlW (fun _ => none) (Cn B k) a0 S :=
  (callN_T hB (by kernel_rfl) (by kernel_rfl) (by decide) (by rfl) (by rfl)).trans (t_place_ChLeft ctlW (fun _ => none) (Cn B k) a0 S)
theorem c_near_Near_Left (B : CallF) (k : Nat) (a0 : AV) (S : Heap) (hB : B f_near_Near_Left 0 [a0] S = none) : Cn B (k + 1) f_near_Near_Left 0 [a0] S = T_near_Near_Left ctlW (fun _ => none) (Cn B k) a0 S :=
  (callN_T hB (by kernel_rfl) (by kernel_rfl) (by decide) (by rfl) (by rfl)).trans (t_near_Near_Left ctlW (fun _ => none) (Cn B k) a0 S)
theorem c_place_Above (B : CallF) (k : Nat) (a0 : AV) (S : Heap) (hB : B f_place_Above 0 [a0] S = none) : Cn B (k + 1) f_place_Above 0 [a0] S = T_place_Above ctlW (fun _ => none) (Cn B k) a0 S :=
  (callN_T hB (by kernel_rfl) (by kernel_rfl) (by decide) (by rfl) (by rfl)).trans (t_place_Above ctlW (fun _ => none) (Cn B k) a0 S)
theorem c_place_ChAbove (B : CallF) (k : Nat) (a0 : AV) (S : Heap) (hB : B f_place_ChAbove 0 [a0] S = none) : Cn B (k + 1) f_place_ChAbove 0 [a0] S = T_place_ChAbove ctlW (fun _ => none) (Cn B k) a0 S :=
  (callN_T hB (by kernel_rfl) (by kernel_rfl) (by decide) (by rfl) (by rfl)).trans (t_place_ChAbove ctlW (fun _ => none) (Cn B k) a0 S)
theorem c_near_Near_Above (B : CallF) (k : Nat) (a0 : AV) (S : Heap) (hB : B f_near_Near_Above 0 [a0] S = none) : Cn B (k + 1) f_near_Near_Above 0 [a0] S = T_near_Near_Above ctlW (fun _ => none) (Cn B k) a0 S :=
  (callN_T hB (by kernel_rfl) (by kernel_rfl) (by decide) (by rfl) (by rfl)).trans (t_near_Near_Above ctlW (fun _ => none) (Cn B k) a0 S)
theorem c_near_Near_Next (B : CallF) (k : Nat) (a0 : AV) (S : Heap) (hB : B f_near_Near_Next 0 [a0] S = none) : Cn B (k + 1) f_near_Near_Next 0 [a0] S = T_near_Near_Next ctlW (fun _ => none) (Cn B k) a0 S :=
  (callN_T hB (by kernel_rfl) (by kernel_rfl) (by decide) (by rfl) (by rfl)).trans (t_near_Near_Next ctlW (fun _ => none) (Cn B k) a0 S)
theorem c_spindlekit_CopyInts (B : CallF) (k : Nat) (a0 : AV) (S : Heap) (hB : B f_spindlekit_CopyInts 0 [a0] S = none) : Cn B (k + 1) f_spindlekit_CopyInts 0 [a0] S = T_spindlekit_CopyInts ctlW (fun _ => none) (Cn B k) a0 S :=
  (callN_T hB (by kernel_rfl) (by kernel_rfl) (by decide) (by rfl) (by rfl)).trans (t_spindlekit_CopyInts ctlW (fun _ => none) (Cn B k) a0 S)
theorem c_spindlekit_CopyBlocks (B : CallF) (k : Nat) (a0 : AV) (S : Heap) (hB : B f_spindlekit_CopyBlocks 0 [a0] S = none) : Cn B (k + 1) f_spindlekit_CopyBlocks 0 [a0] S = T_spindlekit_CopyBlocks ctlW (fun _ => none) (Cn B k) a0 S :=
  (callN_T hB (by kernel_rfl) (by kernel_rfl) (by decide) (by rfl) (by rfl)).trans (t_spindlekit_CopyBlocks ctlW (fun _ => none) (Cn B k) a0 S)
theorem c_spindleref14_Near_Next (B : CallF) (k : Nat) (a0 : AV) (S : Heap) (hB : B f_spindleref14_Near_Next 0 [a0] S = none) : Cn B (k + 1) f_spindleref14_Near_Next 0 [a0] S = T_spindleref14_Near_Next ctlW (fun _ => none) (Cn B k) a0 S :=
  (callN_T hB (by kernel_rfl) (by kernel_rfl) (by decide) (by rfl) (by rfl)).trans (t_spindleref14_Near_Next ctlW (fun _ => none) (Cn B k) a0 S)
theorem c_inc_both (B : CallF) (k : Nat) (a0 : AV) (S : Heap) (hB : B f_inc_both 0 [a0] S = none) : Cn B (k + 1) f_inc_both 0 [a0] S = T_inc_both ctlW (fun _ => none) (Cn B k) a0 S :=
  (callN_T hB (by kernel_rfl) (by kernel_rfl) (by decide) (by rfl) (by rfl)).trans (t_inc_both ctlW (fun _ => none) (Cn B k) a0 S)
theorem c_near_Near_at (B : CallF) (k : Nat) (a0 a1 : AV) (S : Heap) (hB : B f_near_Near_at 0 [a0, a1] S = none) : Cn B (k + 1) f_near_Near_at 0 [a0, a1] S = T_near_Near_at ctlW (fun _ => none) (Cn B k) a0 a1 S :=
  (callN_T hB (by kernel_rfl) (by kernel_rfl) (by decide) (by rfl) (by rfl)).trans (t_near_Near_at ctlW (fun _ => none) (Cn B k) a0 a1 S)
theorem c_slices_Clone_int_int (B : CallF) (k : Nat) (a0 : AV) (S : Heap) (hB : B f_slices_Clone_int_int 0 [a0] S = none) : Cn B (k + 1) f_slices_Clone_int_int 0 [a0] S = T_slices_Clone_int_int ctlW (fun _ => none) (Cn B k) a0 S :=
  (callN_T hB (by kernel_rfl) (by kernel_rfl) (by decide) (by rfl) (by rfl)).trans (t_slices_Clone_int_int ctlW (fun _ => none) (Cn B k) a0 S)
theorem c_slices_Clone_api_Vec_api_Vec (B : CallF) (k : Nat) (a0 : AV) (S : Heap) (hB : B f_slices_Clone_api_Vec_api_Vec 0 [a0] S = none) : Cn B (k + 1) f_slices_Clone_api_Vec_api_Vec 0 [a0] S = T_slices_Clone_api_Vec_api_Vec ctlW (fun _ => none) (Cn B k) a0 S :=
  (callN_T hB (by kernel_rfl) (by kernel_rfl) (by decide) (by rfl) (by rfl)).trans (t_slices_Clone_api_Vec_api_Vec ctlW (fun _ => none) (Cn B k) a0 S)
theorem c_slices_Clone_int_int_v2 (B : CallF) (k : Nat) (a0 : AV) (S : Heap) (hB : B f_slices_Clone_int_int_v2 0 [a0] S = none) : Cn B (k + 1) f_slices_Clone_int_int_v2 0 [a0] S = T_slices_Clone_int_int_v2 ctlW (fun _ => none) (Cn B k) a0 S :=
  (callN_T hB (by kernel_rfl) (by kernel_rfl) (by decide) (by rfl) (by rfl)).trans (t_slices_Clone_int_int_v2 ctlW (fun _ => none) (Cn B k) a0 S)
theorem c_mb_coded (B : CallF) (k : Nat) (a0 : AV) (S : Heap) (hB : B f_mb_coded 0 [a0] S = none) : Cn B (k + 1) f_mb_coded 0 [a0] S = T_mb_coded ctlW (fun _ => none) (Cn B k) a0 S :=
  (callN_T hB (by kernel_rfl) (by kernel_rfl) (by decide) (by rfl) (by rfl)).trans (t_mb_coded ctlW (fun _ => none) (Cn B k) a0 S)
theorem c_count_exists (B : CallF) (k : Nat) (a0 : AV) (S : Heap) (hB : B f_count_exists 0 [a0] S = none) : Cn B (k + 1) f_count_exists 0 [a0] S = T_count_exists ctlW (fun _ => none) (Cn B k) a0 S :=
  (callN_T hB (by kernel_rfl) (by kernel_rfl) (by decide) (by rfl) (by rfl)).trans (t_count_exists ctlW (fun _ => none) (Cn B k) a0 S)
theorem c_count_coefficients (B : CallF) (k : Nat) (a0 a1 : AV) (S : Heap) (hB : B f_count_coefficients 0 [a0, a1] S = none) : Cn B (k + 1) f_count_coefficients 0 [a0, a1] S = T_count_coefficients ctlW (fun _ => none) (Cn B k) a0 a1 S :=
  (callN_T hB (by kernel_rfl) (by kernel_rfl) (by decide) (by rfl) (by rfl)).trans (t_count_coefficients ctlW (fun _ => none) (Cn B k) a0 a1 S)
theorem c_place_step (B : CallF) (k : Nat) (a0 a1 a2 a3 a4 : AV) (S : Heap) (hB : B f_place_step 0 [a0, a1, a2, a3, a4] S = none) : Cn B (k + 1) f_place_step 0 [a0, a1, a2, a3, a4] S = T_place_step ctlW (fun _ => none) (Cn B k) a0 a1 a2 a3 a4 S :=
  (callN_T hB (by kernel_rfl) (by kernel_rfl) (by decide) (by rfl) (by rfl)).trans (t_place_step ctlW (fun _ => none) (Cn B k) a0 a1 a2 a3 a4 S)
theorem c_inc_both_1 (B : CallF) (k : Nat) (a0 a1 : AV) (S : Heap) (hB : B f_inc_both_1 0 [a0, a1] S = none) : Cn B (k + 1) f_inc_both_1 0 [a0, a1] S = T_inc_both_1 ctlW (fun _ => none) (Cn B k) a0 a1 S :=
  (callN_T hB (by kernel_rfl) (by kernel_rfl) (by decide) (by rfl) (by rfl)).trans (t_inc_both_1 ctlW (fun _ => none) (Cn B k) a0 a1 S)
theorem c_mb_Block (B : CallF) (k : Nat) (a0 a1 : AV) (S : Heap) (hB : B f_mb_Block 0 [a0, a1] S = none) : Cn B (k + 1) f_mb_Block 0 [a0, a1] S = T_mb_Block ctlW (fun _ => none) (Cn B k) a0 a1 S :=
  (callN_T hB (by kernel_rfl) (by kernel_rfl) (by decide) (by rfl) (by rfl)).trans (t_mb_Block ctlW (fun _ => none) (Cn B k) a0 a1 S)
theorem c_count_luma (B : CallF) (k : Nat) (a0 : AV) (S : Heap) (hB : B f_count_luma 0 [a0] S = none) : Cn B (k + 1) f_count_luma 0 [a0] S = T_count_luma ctlW (fun _ => none) (Cn B k) a0 S :=
  (callN_T hB (by kernel_rfl) (by kernel_rfl) (by decide) (by rfl) (by rfl)).trans (t_count_luma ctlW (fun _ => none) (Cn B k) a0 S)
theorem c_place_grid (B : CallF) (k : Nat) (a0 : AV) (S : Heap) (hB : B f_place_grid 0 [a0] S = none) : Cn B (k + 1) f_place_grid 0 [a0] S = T_place_grid ctlW (fun _ => none) (Cn B k) a0 S :=
  (callN_T hB (by kernel_rfl) (by kernel_rfl) (by decide) (by rfl) (by rfl)).trans (t_place_grid ctlW (fun _ => none) (Cn B k) a0 S)
theorem c_place_find (B : CallF) (k : Nat) (a0 a1 a2 : AV) (S : Heap) (hB : B f_place_find 0 [a0, a1, a2] S = none) : Cn B (k + 1) f_place_find 0 [a0, a1, a2] S = T_place_find ctlW (fun _ => none) (Cn B k) a0 a1 a2 S :=
  (callN_T hB (by kernel_rfl) (by kernel_rfl) (by decide) (by rfl) (by rfl)).trans (t_place_find ctlW (fun _ => none) (Cn B k) a0 a1 a2 S)
theorem c_slices_Index_api_Coded_api_Coded (B : CallF) (k : Nat) (a0 a1 : AV) (S : Heap) (hB : B f_slices_Index_api_Coded_api_Coded 0 [a0, a1] S = none) : Cn B (k + 1) f_slices_Index_api_Coded_api_Coded 0 [a0, a1] S = T_slices_Index_api_Coded_api_Coded ctlW (fun _ => none) (Cn B k) a0 a1 S :=
  (callN_T hB (by kernel_rfl) (by kernel_rfl) (by decide) (by rfl) (by rfl)).trans (t_slices_Index_api_Coded_api_Coded ctlW (fun _ => none) (Cn B k) a0 a1 S)
end Go.Ab.tNearU
