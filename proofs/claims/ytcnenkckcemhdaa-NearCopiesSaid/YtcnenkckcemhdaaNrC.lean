/- What a call of each function comes to, in the tower of calls. Written by program: no condition. -/
import Derived.Test.YtcnenkckcemhdaaNrT
set_option maxRecDepth 100000
set_option linter.unusedVariables false
namespace Go.Ab.tNearU
open Go Go.Proofs
theorem callN_T {X : Ctl} {P : Program} {G : Nat → Option (List AV)} {A : Nat → Nat → FAn} {B : CallF} {k f way : Nat} {args : List AV} {S : Heap} {fn : Func} {an : FAn} (hB : B f way args S = none) (hf : P.funcs[f]? = some fn)
    (hn : (fn.name == "runtime.NumGoroutine") = false) (hlt : f < yldId) (ha : A f way = an) (hl : an.loc = false) : callN X P G A B (k + 1) f way args S = evFnA X P G (callN X P G A B k) fn an args S := by
  have h1 : ¬ yldId ≤ f := by omega
  simp only [callN, hB, ha, hl, oneC, if_neg h1, hf, hn, Bool.false_eq_true, if_false]
def An : Nat → Nat → FAn := fun f w => if f = 30 ∧ w = 1 then an_near_Near_Mbs_w1 else if f = 47 ∧ w = 1 then an_mb_Copy_w1 else if f = 65 ∧ w = 1 then an_slices_Clone_int_int_w1 else if f = 3 then an_spindlelaw14_NearIgnores else if f = 5 then an_spindlelaw14_NearMatches else if f = 6 then an_spindlelaw14_NearPlaces else if f = 7 then an_spindlelaw14_NearCopies else if f = 12 then an_spindlelaw14_Few else if f = 13 then an_spindlekit_CopyMbs else if f = 14 then an_spindlelaw14_made else if f = 15 then an_spindlelaw14_awake else if f = 16 then an_near_Near_Left else if f = 17 then an_near_Near_Above else if f = 18 then an_spindlekit_EqualMb else if f = 19 then an_near_Near_Next else if f = 20 then an_spindlelaw14_at else if f = 21 then an_spindlelaw14_finds else if f = 22 then an_near_New else if f = 23 then an_spindleref14_New else if f = 24 then an_spindlelaw14_same else if f = 25 then an_near_Near_Add else if f = 26 then an_spindlekit_CopyMb else if f = 27 then an_spindleref14_Near_Add else if f = 28 then an_near_Near_Last else if f = 29 then an_spindlekit_EqualMbs else if f = 30 then an_near_Near_Mbs else if f = 31 then an_near_Near_Copy else if f = 39 then an_near_Near_at else if f = 40 then an_spindlekit_EqualInts else if f = 41 then an_spindlekit_EqualVecs else if f = 42 then an_spindlekit_EqualBlocks else if f = 43 then an_spindleref14_Near_Left else if f = 44 then an_spindleref14_Near_Above else if f = 45 then an_spindleref14_Near_Last else if f = 46 then an_spindleref14_Near_Next else if f = 47 then an_mb_Copy else if f = 48 then an_spindlekit_CopyInts else if f = 49 then an_spindlekit_CopyBlocks else if f = 64 then an_spindleref14_Near_at else if f = 65 then an_slices_Clone_int_int else if f = 66 then an_slices_Clone_api_Vec_api_Vec else if f = 67 then an_slices_Clone_int_int_v2 else ⟨.nil, false, false⟩
noncomputable abbrev Cn (B : CallF) (k : Nat) : CallF := callN (rngC ctlW) Try.prog (fun _ => none) An B k
theorem c_spindlelaw14_NearIgnores (B : CallF) (k : Nat) (a0 a1 a2 a3 a4 : AV) (S : Heap) (hB : B f_spindlelaw14_NearIgnores 0 [a0, a1, a2, a3, a4] S = none) : Cn B (k + 1) f_spindlelaw14_NearIgnores 0 [a0, a1, a2, a3, a4] S = T_spindlelaw14_NearIgnores ctlW (fun _ => none) (Cn B k) a0 a1 a2 a3 a4 S :=
  (callN_T hB (by kernel_rfl) (by kernel_rfl) (by decide) (by rfl) (by rfl)).trans (t_spindlelaw14_NearIgnores ctlW (fun _ => none) (Cn B k) a0 a1 a2 a3 a4 S)
theorem c_spindlelaw14_NearMatches (B : CallF) (k : Nat) (a0 a1 a2 : AV) (S : Heap) (hB : B f_spindlelaw14_NearMatches 0 [a0, a1, a2] S = none) : Cn B (k + 1) f_spindlelaw14_NearMatches 0 [a0, a1, a2] S = T_spindlelaw14_NearMatches ctlW (fun _ => none) (Cn B k) a0 a1 a2 S :=
  (callN_T hB (by kernel_rfl) (by kernel_rfl) (by decide) (by rfl) (by rfl)).trans (t_spindlelaw14_NearMatches ctlW (fun _ => none) (Cn B k) a0 a1 a2 S)
theorem c_spindlelaw14_NearPlaces (B : CallF) (k : Nat) (a0 a1 a2 : AV) (S : Heap) (hB : B f_spindlelaw14_NearPlaces 0 [a0, a1, a2] S = none) : Cn B (k + 1) f_spindlelaw14_NearPlaces 0 [a0, a1, a2] S = T_spindlelaw14_NearPlaces ctlW (fun _ => none) (Cn B k) a0 a1 a2 S :=
  (callN_T hB (by kernel_rfl) (by kernel_rfl) (by decide) (by rfl) (by rfl)).trans (t_spindlelaw14_NearPlaces ctlW (fun _ => none) (Cn B k) a0 a1 a2 S)
theorem c_spindlelaw14_NearCopies (B : CallF) (k : Nat) (a0 a1 a2 a3 : AV) (S : Heap) (hB : B f_spindlelaw14_NearCopies 0 [a0, a1, a2, a3] S = none) : Cn B (k + 1) f_spindlelaw14_NearCopies 0 [a0, a1, a2, a3] S = T_spindlelaw14_NearCopies ctlW (fun _ => none) (Cn B k) a0 a1 a2 a3 S :=
  (callN_T hB (by kernel_rfl) (by kernel_rfl) (by decide) (by rfl) (by rfl)).trans (t_spindlelaw14_NearCopies ctlW (fun _ => none) (Cn B k) a0 a1 a2 a3 S)
theorem c_spindlelaw14_Few (B : CallF) (k : Nat) (a0 a1 : AV) (S : Heap) (hB : B f_spindlelaw14_Few 0 [a0, a1] S = none) : Cn B (k + 1) f_spindlelaw14_Few 0 [a0, a1] S = T_spindlelaw14_Few ctlW (fun _ => none) (Cn B k) a0 a1 S :=
  (callN_T hB (by kernel_rfl) (by kernel_rfl) (by decide) (by rfl) (by rfl)).trans (t_spindlelaw14_Few ctlW (fun _ => none) (Cn B k) a0 a1 S)
theorem c_spindlekit_CopyMbs (B : CallF) (k : Nat) (a0 : AV) (S : Heap) (hB : B f_spindlekit_CopyMbs 0 [a0] S = none) : Cn B (k + 1) f_spindlekit_CopyMbs 0 [a0] S = T_spindlekit_CopyMbs ctlW (fun _ => none) (Cn B k) a0 S :=
  (callN_T hB (by kernel_rfl) (by kernel_rfl) (by decide) (by rfl) (by rfl)).trans (t_spindlekit_CopyMbs ctlW (fun _ => none) (Cn B k) a0 S)
theorem c_spindlelaw14_made (B : CallF) (k : Nat) (a0 a1 a2 : AV) (S : Heap) (hB : B f_spindlelaw14_made 0 [a0, a1, a2] S = none) : Cn B (k + 1) f_spindlelaw14_made 0 [a0, a1, a2] S = T_spindlelaw14_made ctlW (fun _ => none) (Cn B k) a0 a1 a2 S :=
  (callN_T hB (by kernel_rfl) (by kernel_rfl) (by decide) (by rfl) (by rfl)).trans (t_spindlelaw14_made ctlW (fun _ => none) (Cn B k) a0 a1 a2 S)
theorem c_spindlelaw14_awake (B : CallF) (k : Nat) (S : Heap) (hB : B f_spindlelaw14_awake 0 [] S = none) : Cn B (k + 1) f_spindlelaw14_awake 0 [] S = T_spindlelaw14_awake ctlW (fun _ => none) (Cn B k) S :=
  (callN_T hB (by kernel_rfl) (by kernel_rfl) (by decide) (by rfl) (by rfl)).trans (t_spindlelaw14_awake ctlW (fun _ => none) (Cn B k) S)
theorem c_near_Near_Left (B : CallF) (k : Nat) (a0 : AV) (S : Heap) (hB : B f_near_Near_Left 0 [a0] S = none) : Cn B (k + 1) f_near_Near_Left 0 [a0] S = T_near_Near_Left ctlW (fun _ => none) (Cn B k) a0 S :=
  (callN_T hB (by kernel_rfl) (by kernel_rfl) (by decide) (by rfl) (by rfl)).trans (t_near_Near_Left ctlW (fun _ => none) (Cn B k) a0 S)
theorem c_near_Near_Above (B : CallF) (k : Nat) (a0 : AV) (S : Heap) (hB : B f_near_Near_Above 0 [a0] S = none) : Cn B (k + 1) f_near_Near_Above 0 [a0] S = T_near_Near_Above ctlW (fun _ => none) (Cn B k) a0 S :=
  (callN_T hB (by kernel_rfl) (by kernel_rfl) (by decide) (by rfl) (by rfl)).trans (t_near_Near_Above ctlW (fun _ => none) (Cn B k) a0 S)
theorem c_spindlekit_EqualMb (B : CallF) (k : Nat) (a0 a1 : AV) (S : Heap) (hB : B f_spindlekit_EqualMb 0 [a0, a1] S = none) : Cn B (k + 1) f_spindlekit_EqualMb 0 [a0, a1] S = T_spindlekit_EqualMb ctlW (fun _ => none) (Cn B k) a0 a1 S :=
  (callN_T hB (by kernel_rfl) (by kernel_rfl) (by decide) (by rfl) (by rfl)).trans (t_spindlekit_EqualMb ctlW (fun _ => none) (Cn B k) a0 a1 S)
theorem c_near_Near_Next (B : CallF) (k : Nat) (a0 : AV) (S : Heap) (hB : B f_near_Near_Next 0 [a0] S = none) : Cn B (k + 1) f_near_Near_Next 0 [a0] S = T_near_Near_Next ctlW (fun _ => none) (Cn B k) a0 S :=
  (callN_T hB (by kernel_rfl) (by kernel_rfl) (by decide) (by rfl) (by rfl)).trans (t_near_Near_Next ctlW (fun _ => none) (Cn B k) a0 S)
theorem c_spindlelaw14_at (B : CallF) (k : Nat) (a0 a1 a2 : AV) (S : Heap) (hB : B f_spindlelaw14_at 0 [a0, a1, a2] S = none) : Cn B (k + 1) f_spindlelaw14_at 0 [a0, a1, a2] S = T_spindlelaw14_at ctlW (fun _ => none) (Cn B k) a0 a1 a2 S :=
  (callN_T hB (by kernel_rfl) (by kernel_rfl) (by decide) (by rfl) (by rfl)).trans (t_spindlelaw14_at ctlW (fun _ => none) (Cn B k) a0 a1 a2 S)
theorem c_spindlelaw14_finds (B : CallF) (k : Nat) (a0 a1 a2 : AV) (S : Heap) (hB : B f_spindlelaw14_finds 0 [a0, a1, a2] S = none) : Cn B (k + 1) f_spindlelaw14_finds 0 [a0, a1, a2] S = T_spindlelaw14_finds ctlW (fun _ => none) (Cn B k) a0 a1 a2 S :=
  (callN_T hB (by kernel_rfl) (by kernel_rfl) (by decide) (by rfl) (by rfl)).trans (t_spindlelaw14_finds ctlW (fun _ => none) (Cn B k) a0 a1 a2 S)
theorem c_near_New (B : CallF) (k : Nat) (a0 a1 : AV) (S : Heap) (hB : B f_near_New 0 [a0, a1] S = none) : Cn B (k + 1) f_near_New 0 [a0, a1] S = T_near_New ctlW (fun _ => none) (Cn B k) a0 a1 S :=
  (callN_T hB (by kernel_rfl) (by kernel_rfl) (by decide) (by rfl) (by rfl)).trans (t_near_New ctlW (fun _ => none) (Cn B k) a0 a1 S)
theorem c_spindleref14_New (B : CallF) (k : Nat) (a0 a1 : AV) (S : Heap) (hB : B f_spindleref14_New 0 [a0, a1] S = none) : Cn B (k + 1) f_spindleref14_New 0 [a0, a1] S = T_spindleref14_New ctlW (fun _ => none) (Cn B k) a0 a1 S :=
  (callN_T hB (by kernel_rfl) (by kernel_rfl) (by decide) (by rfl) (by rfl)).trans (t_spindleref14_New ctlW (fun _ => none) (Cn B k) a0 a1 S)
theorem c_spindlelaw14_same (B : CallF) (k : Nat) (a0 a1 : AV) (S : Heap) (hB : B f_spindlelaw14_same 0 [a0, a1] S = none) : Cn B (k + 1) f_spindlelaw14_same 0 [a0, a1] S = T_spindlelaw14_same ctlW (fun _ => none) (Cn B k) a0 a1 S :=
  (callN_T hB (by kernel_rfl) (by kernel_rfl) (by decide) (by rfl) (by rfl)).trans (t_spindlelaw14_same ctlW (fun _ => none) (Cn B k) a0 a1 S)
theorem c_near_Near_Add (B : CallF) (k : Nat) (a0 a1 : AV) (S : Heap) (hB : B f_near_Near_Add 0 [a0, a1] S = none) : Cn B (k + 1) f_near_Near_Add 0 [a0, a1] S = T_near_Near_Add ctlW (fun _ => none) (Cn B k) a0 a1 S :=
  (callN_T hB (by kernel_rfl) (by kernel_rfl) (by decide) (by rfl) (by rfl)).trans (t_near_Near_Add ctlW (fun _ => none) (Cn B k) a0 a1 S)
theorem c_spindlekit_CopyMb (B : CallF) (k : Nat) (a0 : AV) (S : Heap) (hB : B f_spindlekit_CopyMb 0 [a0] S = none) : Cn B (k + 1) f_spindlekit_CopyMb 0 [a0] S = T_spindlekit_CopyMb ctlW (fun _ => none) (Cn B k) a0 S :=
  (callN_T hB (by kernel_rfl) (by kernel_rfl) (by decide) (by rfl) (by rfl)).trans (t_spindlekit_CopyMb ctlW (fun _ => none) (Cn B k) a0 S)
theorem c_spindleref14_Near_Add (B : CallF) (k : Nat) (a0 a1 : AV) (S : Heap) (hB : B f_spindleref14_Near_Add 0 [a0, a1] S = none) : Cn B (k + 1) f_spindleref14_Near_Add 0 [a0, a1] S = T_spindleref14_Near_Add ctlW (fun _ => none) (Cn B k) a0 a1 S :=
  (callN_T hB (by kernel_rfl) (by kernel_rfl) (by decide) (by rfl) (by rfl)).trans (t_spindleref14_Near_Add ctlW (fun _ => none) (Cn B k) a0 a1 S)
theorem c_near_Near_Last (B : CallF) (k : Nat) (a0 : AV) (S : Heap) (hB : B f_near_Near_Last 0 [a0] S = none) : Cn B (k + 1) f_near_Near_Last 0 [a0] S = T_near_Near_Last ctlW (fun _ => none) (Cn B k) a0 S :=
  (callN_T hB (by kernel_rfl) (by kernel_rfl) (by decide) (by rfl) (by rfl)).trans (t_near_Near_Last ctlW (fun _ => none) (Cn B k) a0 S)
theorem c_spindlekit_EqualMbs (B : CallF) (k : Nat) (a0 a1 : AV) (S : Heap) (hB : B f_spindlekit_EqualMbs 0 [a0, a1] S = none) : Cn B (k + 1) f_spindlekit_EqualMbs 0 [a0, a1] S = T_spindlekit_EqualMbs ctlW (fun _ => none) (Cn B k) a0 a1 S :=
  (callN_T hB (by kernel_rfl) (by kernel_rfl) (by decide) (by rfl) (by rfl)).trans (t_spindlekit_EqualMbs ctlW (fun _ => none) (Cn B k) a0 a1 S)
theorem c_near_Near_Mbs (B : CallF) (k : Nat) (a0 : AV) (S : Heap) (hB : B f_near_Near_Mbs 0 [a0] S = none) : Cn B (k + 1) f_near_Near_Mbs 0 [a0] S = T_near_Near_Mbs ctlW (fun _ => none) (Cn B k) a0 S :=
  (callN_T hB (by kernel_rfl) (by kernel_rfl) (by decide) (by rfl) (by rfl)).trans (t_near_Near_Mbs ctlW (fun _ => none) (Cn B k) a0 S)
theorem c_near_Near_Copy (B : CallF) (k : Nat) (a0 : AV) (S : Heap) (hB : B f_near_Near_Copy 0 [a0] S = none) : Cn B (k + 1) f_near_Near_Copy 0 [a0] S = T_near_Near_Copy ctlW (fun _ => none) (Cn B k) a0 S :=
  (callN_T hB (by kernel_rfl) (by kernel_rfl) (by decide) (by rfl) (by rfl)).trans (t_near_Near_Copy ctlW (fun _ => none) (Cn B k) a0 S)
theorem c_near_Near_at (B : CallF) (k : Nat) (a0 a1 : AV) (S : Heap) (hB : B f_near_Near_at 0 [a0, a1] S = none) : Cn B (k + 1) f_near_Near_at 0 [a0, a1] S = T_near_Near_at ctlW (fun _ => none) (Cn B k) a0 a1 S :=
  (callN_T hB (by kernel_rfl) (by kernel_rfl) (by decide) (by rfl) (by rfl)).trans (t_near_Near_at ctlW (fun _ => none) (Cn B k) a0 a1 S)
theorem c_spindlekit_EqualInts (B : CallF) (k : Nat) (a0 a1 : AV) (S : Heap) (hB : B f_spindlekit_EqualInts 0 [a0, a1] S = none) : Cn B (k + 1) f_spindlekit_EqualInts 0 [a0, a1] S = T_spindlekit_EqualInts ctlW (fun _ => none) (Cn B k) a0 a1 S :=
  (callN_T hB (by kernel_rfl) (by kernel_rfl) (by decide) (by rfl) (by rfl)).trans (t_spindlekit_EqualInts ctlW (fun _ => none) (Cn B k) a0 a1 S)
theorem c_spindlekit_EqualVecs (B : CallF) (k : Nat) (a0 a1 : AV) (S : Heap) (hB : B f_spindlekit_EqualVecs 0 [a0, a1] S = none) : Cn B (k + 1) f_spindlekit_EqualVecs 0 [a0, a1] S = T_spindlekit_EqualVecs ctlW (fun _ => none) (Cn B k) a0 a1 S :=
  (callN_T hB (by kernel_rfl) (by kernel_rfl) (by decide) (by rfl) (by rfl)).trans (t_spindlekit_EqualVecs ctlW (fun _ => none) (Cn B k) a0 a1 S)
theorem c_spindlekit_EqualBlocks (B : CallF) (k : Nat) (a0 a1 : AV) (S : Heap) (hB : B f_spindlekit_EqualBlocks 0 [a0, a1] S = none) : Cn B (k + 1) f_spindlekit_EqualBlocks 0 [a0, a1] S = T_spindlekit_EqualBlocks ctlW (fun _ => none) (Cn B k) a0 a1 S :=
  (callN_T hB (by kernel_rfl) (by kernel_rfl) (by decide) (by rfl) (by rfl)).trans (t_spindlekit_EqualBlocks ctlW (fun _ => none) (Cn B k) a0 a1 S)
theorem c_spindleref14_Near_Left (B : CallF) (k : Nat) (a0 : AV) (S : Heap) (hB : B f_spindleref14_Near_Left 0 [a0] S = none) : Cn B (k + 1) f_spindleref14_Near_Left 0 [a0] S = T_spindleref14_Near_Left ctlW (fun _ => none) (Cn B k) a0 S :=
  (callN_T hB (by kernel_rfl) (by kernel_rfl) (by decide) (by rfl) (by rfl)).trans (t_spindleref14_Near_Left ctlW (fun _ => none) (Cn B k) a0 S)
theorem c_spindleref14_Near_Above (B : CallF) (k : Nat) (a0 : AV) (S : Heap) (hB : B f_spindleref14_Near_Above 0 [a0] S = none) : Cn B (k + 1) f_spindleref14_Near_Above 0 [a0] S = T_spindleref14_Near_Above ctlW (fun _ => none) (Cn B k) a0 S :=
  (callN_T hB (by kernel_rfl) (by kernel_rfl) (by decide) (by rfl) (by rfl)).trans (t_spindleref14_Near_Above ctlW (fun _ => none) (Cn B k) a0 S)
theorem c_spindleref14_Near_Last (B : CallF) (k : Nat) (a0 : AV) (S : Heap) (hB : B f_spindleref14_Near_Last 0 [a0] S = none) : Cn B (k + 1) f_spindleref14_Near_Last 0 [a0] S = T_spindleref14_Near_Last ctlW (fun _ => none) (Cn B k) a0 S :=
  (callN_T hB (by kernel_rfl) (by kernel_rfl) (by decide) (by rfl) (by rfl)).trans (t_spindleref14_Near_Last ctlW (fun _ => none) (Cn B k) a0 S)
theorem c_spindleref14_Near_Next (B : CallF) (k : Nat) (a0 : AV) (S : Heap) (hB : B f_spindleref14_Near_Next 0 [a0] S = none) : Cn B (k + 1) f_spindleref14_Near_Next 0 [a0] S = T_spindleref14_Near_Next ctlW (fun _ => none) (Cn B k) a0 S :=
  (callN_T hB (by kernel_rfl) (by kernel_rfl) (by decide) (by rfl) (by rfl)).trans (t_spindleref14_Near_Next ctlW (fun _ => none) (Cn B k) a0 S)
theorem c_mb_Copy (B : CallF) (k : Nat) (a0 : AV) (S : Heap) (hB : B f_mb_Copy 0 [a0] S = none) : Cn B (k + 1) f_mb_Copy 0 [a0] S = T_mb_Copy ctlW (fun _ => none) (Cn B k) a0 S :=
  (callN_T hB (by kernel_rfl) (by kernel_rfl) (by decide) (by rfl) (by rfl)).trans (t_mb_Copy ctlW (fun _ => none) (Cn B k) a0 S)
theorem c_spindlekit_CopyInts (B : CallF) (k : Nat) (a0 : AV) (S : Heap) (hB : B f_spindlekit_CopyInts 0 [a0] S = none) : Cn B (k + 1) f_spindlekit_CopyInts 0 [a0] S = T_spindlekit_CopyInts ctlW (fun _ => none) (Cn B k) a0 S :=
  (callN_T hB (by kernel_rfl) (by kernel_rfl) (by decide) (by rfl) (by rfl)).trans (t_spindlekit_CopyInts ctlW (fun _ => none) (Cn B k) a0 S)
theorem c_spindlekit_CopyBlocks (B : CallF) (k : Nat) (a0 : AV) (S : Heap) (hB : B f_spindlekit_CopyBlocks 0 [a0] S = none) : Cn B (k + 1) f_spindlekit_CopyBlocks 0 [a0] S = T_spindlekit_CopyBlocks ctlW (fun _ => none) (Cn B k) a0 S :=
  (callN_T hB (by kernel_rfl) (by kernel_rfl) (by decide) (by rfl) (by rfl)).trans (t_spindlekit_CopyBlocks ctlW (fun _ => none) (Cn B k) a0 S)
theorem c_spindleref14_Near_at (B : CallF) (k : Nat) (a0 a1 : AV) (S : Heap) (hB : B f_spindleref14_Near_at 0 [a0, a1] S = none) : Cn B (k + 1) f_spindleref14_Near_at 0 [a0, a1] S = T_spindleref14_Near_at ctlW (fun _ => none) (Cn B k) a0 a1 S :=
  (callN_T hB (by kernel_rfl) (by kernel_rfl) (by decide) (by rfl) (by rfl)).trans (t_spindleref14_Near_at ctlW (fun _ => none) (Cn B k) a0 a1 S)
theorem c_slices_Clone_int_int (B : CallF) (k : Nat) (a0 : AV) (S : Heap) (hB : B f_slices_Clone_int_int 0 [a0] S = none) : Cn B (k + 1) f_slices_Clone_int_int 0 [a0] S = T_slices_Clone_int_int ctlW (fun _ => none) (Cn B k) a0 S :=
  (callN_T hB (by kernel_rfl) (by kernel_rfl) (by decide) (by rfl) (by rfl)).trans (t_slices_Clone_int_int ctlW (fun _ => none) (Cn B k) a0 S)
theorem c_slices_Clone_api_Vec_api_Vec (B : CallF) (k : Nat) (a0 : AV) (S : Heap) (hB : B f_slices_Clone_api_Vec_api_Vec 0 [a0] S = none) : Cn B (k + 1) f_slices_Clone_api_Vec_api_Vec 0 [a0] S = T_slices_Clone_api_Vec_api_Vec ctlW (fun _ => none) (Cn B k) a0 S :=
  (callN_T hB (by kernel_rfl) (by kernel_rfl) (by decide) (by rfl) (by rfl)).trans (t_slices_Clone_api_Vec_api_Vec ctlW (fun _ => none) (Cn B k) a0 S)
theorem c_slices_Clone_int_int_v2 (B : CallF) (k : Nat) (a0 : AV) (S : Heap) (hB : B f_slices_Clone_int_int_v2 0 [a0] S = none) : Cn B (k + 1) f_slices_Clone_int_int_v2 0 [a0] S = T_slices_Clone_int_int_v2 ctlW (fun _ => none) (Cn B k) a0 S :=
  (callN_T hB (by kernel_rfl) (by kernel_rfl) (by decide) (by rfl) (by rfl)).trans (t_slices_Clone_int_int_v2 ctlW (fun _ => none) (Cn B k) a0 S)
theorem c_near_Near_Mbs_w1 (B : CallF) (k : Nat) (a0 : AV) (S : Heap) (hB : B f_near_Near_Mbs 1 [a0] S = none) : Cn B (k + 1) f_near_Near_Mbs 1 [a0] S = T_near_Near_Mbs_w1 ctlW (fun _ => none) (Cn B k) a0 S :=
  (callN_T hB (by kernel_rfl) (by kernel_rfl) (by decide) (by rfl) (by rfl)).trans (t_near_Near_Mbs_w1 ctlW (fun _ => none) (Cn B k) a0 S)
theorem c_mb_Copy_w1 (B : CallF) (k : Nat) (a0 : AV) (S : Heap) (hB : B f_mb_Copy 1 [a0] S = none) : Cn B (k + 1) f_mb_Copy 1 [a0] S = T_mb_Copy_w1 ctlW (fun _ => none) (Cn B k) a0 S :=
  (callN_T hB (by kernel_rfl) (by kernel_rfl) (by decide) (by rfl) (by rfl)).trans (t_mb_Copy_w1 ctlW (fun _ => none) (Cn B k) a0 S)
theorem c_slices_Clone_int_int_w1 (B : CallF) (k : Nat) (a0 : AV) (S : Heap) (hB : B f_slices_Clone_int_int 1 [a0] S = none) : Cn B (k + 1) f_slices_Clone_int_int 1 [a0] S = T_slices_Clone_int_int_w1 ctlW (fun _ => none) (Cn B k) a0 S :=
  (callN_T hB (by kernel_rfl) (by kernel_rfl) (by decide) (by rfl) (by rfl)).trans (t_slices_Clone_int_int_w1 ctlW (fun _ => none) (Cn B k) a0 S)
end Go.Ab.tNearU
