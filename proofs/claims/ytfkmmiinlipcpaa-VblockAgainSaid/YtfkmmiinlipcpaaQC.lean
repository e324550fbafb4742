/- What a call of each function comes to, in the tower of calls. Written by program: no condition. -/
import Derived.Test.YtfkmmiinlipcpaaQT
import Derived.Test.YtfkmmiinlipcpaaVA
set_option maxRecDepth 100000
set_option linter.unusedVariables false
namespace Go.Ab.tV
open Go Go.Proofs
open Classical in
noncomputable def ctlV : Ctl := { loop := loopW, same := fun ps => decide (∀ p ∈ ps, p.ok), tr := fun _ v S' => (v, S') }
theorem ctlV_ok : CtlOk ctlV where
  loop := fun _ _ _ h => loopW_some h
  same := fun ps h => by simpa [ctlV] using h
  tr := fun _ _ _ => .inl rfl
theorem callN_T {X : Ctl} {P : Program} {G : Nat → Option (List AV)} {A : Nat → Nat → FAn} {B : CallF} {k f way : Nat} {args : List AV} {S : Heap} {fn : Func} {an : FAn} (hB : B f way args S = none) (hf : P.funcs[f]? = some fn)
    (hn : (fn.name == "runtime.NumGoroutine") = false) (hlt : f < yldId) (ha : A f way = an) (hl : an.loc = false) : callN X P G A B (k + 1) f way args S = evFnA X P G (callN X P G A B k) fn an args S := by
  have h1 : ¬ yldId ≤ f := by omega
  simp only [callN, hB, ha, hl, oneC, if_neg h1, hf, hn, Bool.false_eq_true, if_false]
def An : Nat → Nat → FAn := fun f _ => if f = 20 then an_spindlelaw20_VblockAgain else if f = 22 then an_vlc_Symbol else if f = 24 then an_vlc_Pair else if f = 28 then an_bits_Write else if f = 29 then an_vlc_PutToken else if f = 30 then an_bits_Writer_Len else if f = 31 then an_bits_Writer_Bits else if f = 34 then an_vlc_PutZeros else if f = 36 then an_vlc_PutRun else if f = 43 then an_bits_Read else if f = 44 then an_bits_Reader_Pos else if f = 45 then an_vlc_Zeros else if f = 46 then an_vlc_Run else if f = 47 then an_bits_Reader_Left else if f = 49 then an_bits_Writer_Bytes else if f = 50 then an_bits_Reader_Bit else if f = 52 then an_vlc_Token else if f = 61 then an_spindlekit_EqualInts else if f = 63 then an_vblock_Put else if f = 64 then an_vblock_Read else if f = 65 then an_spindlelaw20_known else if f = 69 then an_spindlelaw20_mod else if f = 71 then an_bits_Writer_Put else if f = 74 then an_vblock_Fits else if f = 76 then an_vlc_before else if f = 78 then an_vlc_classes else if f = 79 then an_vlc_sized else if f = 82 then an_vlc_cut else if f = 84 then an_bits_Reader_Copy else if f = 85 then an_bits_Reader_U else if f = 89 then an_vblock_sized else if f = 90 then an_runs_Of else if f = 91 then an_vblock_write else if f = 92 then an_vblock_Read_1 else if f = 93 then an_vblock_skip else if f = 94 then an_vblock_levels else if f = 95 then an_runs_Block else if f = 102 then an_vlc_order else if f = 103 then an_vlc_classes_1 else if f = 104 then an_vlc_classes_2 else if f = 105 then an_golomb_Ue else if f = 106 then an_golomb_PutUe else if f = 108 then an_math_bits_Len else if f = 111 then an_runs_sized else if f = 112 then an_runs_ranged else if f = 113 then an_runs_backwards else if f = 114 then an_runs_Ones else if f = 115 then an_level_New else if f = 116 then an_level_Coder_Put else if f = 117 then an_level_Coder_Read else if f = 126 then an_vlc_order_1 else if f = 127 then an_golomb_Uk else if f = 128 then an_vlc_order_2 else if f = 129 then an_golomb_PutUk else if f = 130 then an_golomb_length else if f = 131 then an_math_bits_Len64 else if f = 132 then an_math_bits_Len32 else if f = 135 then an_runs_backwards_1 else if f = 136 then an_level_Coder_Most else if f = 137 then an_level_length_most else if f = 138 then an_level_length_split else if f = 139 then an_level_Coder_next else if f = 140 then an_level_Coder_Read_1 else if f = 141 then an_level_length_escape else if f = 143 then an_golomb_Uk_1 else if f = 144 then an_level_length_after else ⟨.nil, false, false⟩
noncomputable abbrev Cn (B : CallF) (k : Nat) : CallF := callN (rngC ctlV) Try.prog (fun _ => none) An B k
theorem c_spindlelaw20_VblockAgain (B : CallF) (k : Nat) (a0 a1 a2 : AV) (S : Heap) (hB : B f_spindlelaw20_VblockAgain 0 [a0, a1, a2] S = none) : Cn B (k + 1) f_spindlelaw20_VblockAgain 0 [a0, a1, a2] S = T_spindlelaw20_VblockAgain ctlV (fun _ => none) (Cn B k) a0 a1 a2 S :=
  (callN_T hB (by kernel_rfl) (by kernel_rfl) (by decide) (by rfl) (by rfl)).trans (t_spindlelaw20_VblockAgain ctlV (fun _ => none) (Cn B k) a0 a1 a2 S)
theorem c_vlc_Symbol (B : CallF) (k : Nat) (a0 a1 : AV) (S : Heap) (hB : B f_vlc_Symbol 0 [a0, a1] S = none) : Cn B (k + 1) f_vlc_Symbol 0 [a0, a1] S = T_vlc_Symbol ctlV (fun _ => none) (Cn B k) a0 a1 S :=
  (callN_T hB (by kernel_rfl) (by kernel_rfl) (by decide) (by rfl) (by rfl)).trans (t_vlc_Symbol ctlV (fun _ => none) (Cn B k) a0 a1 S)
theorem c_vlc_Pair (B : CallF) (k : Nat) (a0 : AV) (S : Heap) (hB : B f_vlc_Pair 0 [a0] S = none) : Cn B (k + 1) f_vlc_Pair 0 [a0] S = T_vlc_Pair ctlV (fun _ => none) (Cn B k) a0 S :=
  (callN_T hB (by kernel_rfl) (by kernel_rfl) (by decide) (by rfl) (by rfl)).trans (t_vlc_Pair ctlV (fun _ => none) (Cn B k) a0 S)
theorem c_bits_Write (B : CallF) (k : Nat) (S : Heap) (hB : B f_bits_Write 0 [] S = none) : Cn B (k + 1) f_bits_Write 0 [] S = T_bits_Write ctlV (fun _ => none) (Cn B k) S :=
  (callN_T hB (by kernel_rfl) (by kernel_rfl) (by decide) (by rfl) (by rfl)).trans (t_bits_Write ctlV (fun _ => none) (Cn B k) S)
theorem c_vlc_PutToken (B : CallF) (k : Nat) (a0 a1 a2 a3 a4 : AV) (S : Heap) (hB : B f_vlc_PutToken 0 [a0, a1, a2, a3, a4] S = none) : Cn B (k + 1) f_vlc_PutToken 0 [a0, a1, a2, a3, a4] S = T_vlc_PutToken ctlV (fun _ => none) (Cn B k) a0 a1 a2 a3 a4 S :=
  (callN_T hB (by kernel_rfl) (by kernel_rfl) (by decide) (by rfl) (by rfl)).trans (t_vlc_PutToken ctlV (fun _ => none) (Cn B k) a0 a1 a2 a3 a4 S)
theorem c_bits_Writer_Len (B : CallF) (k : Nat) (a0 : AV) (S : Heap) (hB : B f_bits_Writer_Len 0 [a0] S = none) : Cn B (k + 1) f_bits_Writer_Len 0 [a0] S = T_bits_Writer_Len ctlV (fun _ => none) (Cn B k) a0 S :=
  (callN_T hB (by kernel_rfl) (by kernel_rfl) (by decide) (by rfl) (by rfl)).trans (t_bits_Writer_Len ctlV (fun _ => none) (Cn B k) a0 S)
theorem c_bits_Writer_Bits (B : CallF) (k : Nat) (a0 : AV) (S : Heap) (hB : B f_bits_Writer_Bits 0 [a0] S = none) : Cn B (k + 1) f_bits_Writer_Bits 0 [a0] S = T_bits_Writer_Bits ctlV (fun _ => none) (Cn B k) a0 S :=
  (callN_T hB (by kernel_rfl) (by kernel_rfl) (by decide) (by rfl) (by rfl)).trans (t_bits_Writer_Bits ctlV (fun _ => none) (Cn B k) a0 S)
theorem c_vlc_PutZeros (B : CallF) (k : Nat) (a0 a1 a2 a3 : AV) (S : Heap) (hB : B f_vlc_PutZeros 0 [a0, a1, a2, a3] S = none) : Cn B (k + 1) f_vlc_PutZeros 0 [a0, a1, a2, a3] S = T_vlc_PutZeros ctlV (fun _ => none) (Cn B k) a0 a1 a2 a3 S :=
  (callN_T hB (by kernel_rfl) (by kernel_rfl) (by decide) (by rfl) (by rfl)).trans (t_vlc_PutZeros ctlV (fun _ => none) (Cn B k) a0 a1 a2 a3 S)
theorem c_vlc_PutRun (B : CallF) (k : Nat) (a0 a1 a2 : AV) (S : Heap) (hB : B f_vlc_PutRun 0 [a0, a1, a2] S = none) : Cn B (k + 1) f_vlc_PutRun 0 [a0, a1, a2] S = T_vlc_PutRun ctlV (fun _ => none) (Cn B k) a0 a1 a2 S :=
  (callN_T hB (by kernel_rfl) (by kernel_rfl) (by decide) (by rfl) (by rfl)).trans (t_vlc_PutRun ctlV (fun _ => none) (Cn B k) a0 a1 a2 S)
theorem c_bits_Read (B : CallF) (k : Nat) (a0 : AV) (S : Heap) (hB : B f_bits_Read 0 [a0] S = none) : Cn B (k + 1) f_bits_Read 0 [a0] S = T_bits_Read ctlV (fun _ => none) (Cn B k) a0 S :=
  (callN_T hB (by kernel_rfl) (by kernel_rfl) (by decide) (by rfl) (by rfl)).trans (t_bits_Read ctlV (fun _ => none) (Cn B k) a0 S)
theorem c_bits_Reader_Pos (B : CallF) (k : Nat) (a0 : AV) (S : Heap) (hB : B f_bits_Reader_Pos 0 [a0] S = none) : Cn B (k + 1) f_bits_Reader_Pos 0 [a0] S = T_bits_Reader_Pos ctlV (fun _ => none) (Cn B k) a0 S :=
  (callN_T hB (by kernel_rfl) (by kernel_rfl) (by decide) (by rfl) (by rfl)).trans (t_bits_Reader_Pos ctlV (fun _ => none) (Cn B k) a0 S)
theorem c_vlc_Zeros (B : CallF) (k : Nat) (a0 a1 a2 : AV) (S : Heap) (hB : B f_vlc_Zeros 0 [a0, a1, a2] S = none) : Cn B (k + 1) f_vlc_Zeros 0 [a0, a1, a2] S = T_vlc_Zeros ctlV (fun _ => none) (Cn B k) a0 a1 a2 S :=
  (callN_T hB (by kernel_rfl) (by kernel_rfl) (by decide) (by rfl) (by rfl)).trans (t_vlc_Zeros ctlV (fun _ => none) (Cn B k) a0 a1 a2 S)
theorem c_vlc_Run (B : CallF) (k : Nat) (a0 a1 : AV) (S : Heap) (hB : B f_vlc_Run 0 [a0, a1] S = none) : Cn B (k + 1) f_vlc_Run 0 [a0, a1] S = T_vlc_Run ctlV (fun _ => none) (Cn B k) a0 a1 S :=
  (callN_T hB (by kernel_rfl) (by kernel_rfl) (by decide) (by rfl) (by rfl)).trans (t_vlc_Run ctlV (fun _ => none) (Cn B k) a0 a1 S)
theorem c_bits_Reader_Left (B : CallF) (k : Nat) (a0 : AV) (S : Heap) (hB : B f_bits_Reader_Left 0 [a0] S = none) : Cn B (k + 1) f_bits_Reader_Left 0 [a0] S = T_bits_Reader_Left ctlV (fun _ => none) (Cn B k) a0 S :=
  (callN_T hB (by kernel_rfl) (by kernel_rfl) (by decide) (by rfl) (by rfl)).trans (t_bits_Reader_Left ctlV (fun _ => none) (Cn B k) a0 S)
theorem c_bits_Writer_Bytes (B : CallF) (k : Nat) (a0 : AV) (S : Heap) (hB : B f_bits_Writer_Bytes 0 [a0] S = none) : Cn B (k + 1) f_bits_Writer_Bytes 0 [a0] S = T_bits_Writer_Bytes ctlV (fun _ => none) (Cn B k) a0 S :=
  (callN_T hB (by kernel_rfl) (by kernel_rfl) (by decide) (by rfl) (by rfl)).trans (t_bits_Writer_Bytes ctlV (fun _ => none) (Cn B k) a0 S)
theorem c_bits_Reader_Bit (B : CallF) (k : Nat) (a0 : AV) (S : Heap) (hB : B f_bits_Reader_Bit 0 [a0] S = none) : Cn B (k + 1) f_bits_Reader_Bit 0 [a0] S = T_bits_Reader_Bit ctlV (fun _ => none) (Cn B k) a0 S :=
  (callN_T hB (by kernel_rfl) (by kernel_rfl) (by decide) (by rfl) (by rfl)).trans (t_bits_Reader_Bit ctlV (fun _ => none) (Cn B k) a0 S)
theorem c_vlc_Token (B : CallF) (k : Nat) (a0 a1 a2 : AV) (S : Heap) (hB : B f_vlc_Token 0 [a0, a1, a2] S = none) : Cn B (k + 1) f_vlc_Token 0 [a0, a1, a2] S = T_vlc_Token ctlV (fun _ => none) (Cn B k) a0 a1 a2 S :=
  (callN_T hB (by kernel_rfl) (by kernel_rfl) (by decide) (by rfl) (by rfl)).trans (t_vlc_Token ctlV (fun _ => none) (Cn B k) a0 a1 a2 S)
theorem c_spindlekit_EqualInts (B : CallF) (k : Nat) (a0 a1 : AV) (S : Heap) (hB : B f_spindlekit_EqualInts 0 [a0, a1] S = none) : Cn B (k + 1) f_spindlekit_EqualInts 0 [a0, a1] S = T_spindlekit_EqualInts ctlV (fun _ => none) (Cn B k) a0 a1 S :=
  (callN_T hB (by kernel_rfl) (by kernel_rfl) (by decide) (by rfl) (by rfl)).trans (t_spindlekit_EqualInts ctlV (fun _ => none) (Cn B k) a0 a1 S)
theorem c_vblock_Put (B : CallF) (k : Nat) (a0 a1 a2 : AV) (S : Heap) (hB : B f_vblock_Put 0 [a0, a1, a2] S = none) : Cn B (k + 1) f_vblock_Put 0 [a0, a1, a2] S = T_vblock_Put ctlV (fun _ => none) (Cn B k) a0 a1 a2 S :=
  (callN_T hB (by kernel_rfl) (by kernel_rfl) (by decide) (by rfl) (by rfl)).trans (t_vblock_Put ctlV (fun _ => none) (Cn B k) a0 a1 a2 S)
theorem c_vblock_Read (B : CallF) (k : Nat) (a0 a1 a2 : AV) (S : Heap) (hB : B f_vblock_Read 0 [a0, a1, a2] S = none) : Cn B (k + 1) f_vblock_Read 0 [a0, a1, a2] S = T_vblock_Read ctlV (fun _ => none) (Cn B k) a0 a1 a2 S :=
  (callN_T hB (by kernel_rfl) (by kernel_rfl) (by decide) (by rfl) (by rfl)).trans (t_vblock_Read ctlV (fun _ => none) (Cn B k) a0 a1 a2 S)
theorem c_spindlelaw20_known (B : CallF) (k : Nat) (S : Heap) (hB : B f_spindlelaw20_known 0 [] S = none) : Cn B (k + 1) f_spindlelaw20_known 0 [] S = T_spindlelaw20_known ctlV (fun _ => none) (Cn B k) S :=
  (callN_T hB (by kernel_rfl) (by kernel_rfl) (by decide) (by rfl) (by rfl)).trans (t_spindlelaw20_known ctlV (fun _ => none) (Cn B k) S)
theorem c_spindlelaw20_mod (B : CallF) (k : Nat) (a0 a1 : AV) (S : Heap) (hB : B f_spindlelaw20_mod 0 [a0, a1] S = none) : Cn B (k + 1) f_spindlelaw20_mod 0 [a0, a1] S = T_spindlelaw20_mod ctlV (fun _ => none) (Cn B k) a0 a1 S :=
  (callN_T hB (by kernel_rfl) (by kernel_rfl) (by decide) (by rfl) (by rfl)).trans (t_spindlelaw20_mod ctlV (fun _ => none) (Cn B k) a0 a1 S)
theorem c_bits_Writer_Put (B : CallF) (k : Nat) (a0 a1 a2 : AV) (S : Heap) (hB : B f_bits_Writer_Put 0 [a0, a1, a2] S = none) : Cn B (k + 1) f_bits_Writer_Put 0 [a0, a1, a2] S = T_bits_Writer_Put ctlV (fun _ => none) (Cn B k) a0 a1 a2 S :=
  (callN_T hB (by kernel_rfl) (by kernel_rfl) (by decide) (by rfl) (by rfl)).trans (t_bits_Writer_Put ctlV (fun _ => none) (Cn B k) a0 a1 a2 S)
theorem c_vblock_Fits (B : CallF) (k : Nat) (a0 : AV) (S : Heap) (hB : B f_vblock_Fits 0 [a0] S = none) : Cn B (k + 1) f_vblock_Fits 0 [a0] S = T_vblock_Fits ctlV (fun _ => none) (Cn B k) a0 S :=
  (callN_T hB (by kernel_rfl) (by kernel_rfl) (by decide) (by rfl) (by rfl)).trans (t_vblock_Fits ctlV (fun _ => none) (Cn B k) a0 S)
theorem c_vlc_before (B : CallF) (k : Nat) (a0 : AV) (S : Heap) (hB : B f_vlc_before 0 [a0] S = none) : Cn B (k + 1) f_vlc_before 0 [a0] S = T_vlc_before ctlV (fun _ => none) (Cn B k) a0 S :=
  (callN_T hB (by kernel_rfl) (by kernel_rfl) (by decide) (by rfl) (by rfl)).trans (t_vlc_before ctlV (fun _ => none) (Cn B k) a0 S)
theorem c_vlc_classes (B : CallF) (k : Nat) (S : Heap) (hB : B f_vlc_classes 0 [] S = none) : Cn B (k + 1) f_vlc_classes 0 [] S = T_vlc_classes ctlV (fun _ => none) (Cn B k) S :=
  (callN_T hB (by kernel_rfl) (by kernel_rfl) (by decide) (by rfl) (by rfl)).trans (t_vlc_classes ctlV (fun _ => none) (Cn B k) S)
theorem c_vlc_sized (B : CallF) (k : Nat) (a0 : AV) (S : Heap) (hB : B f_vlc_sized 0 [a0] S = none) : Cn B (k + 1) f_vlc_sized 0 [a0] S = T_vlc_sized ctlV (fun _ => none) (Cn B k) a0 S :=
  (callN_T hB (by kernel_rfl) (by kernel_rfl) (by decide) (by rfl) (by rfl)).trans (t_vlc_sized ctlV (fun _ => none) (Cn B k) a0 S)
theorem c_vlc_cut (B : CallF) (k : Nat) (a0 : AV) (S : Heap) (hB : B f_vlc_cut 0 [a0] S = none) : Cn B (k + 1) f_vlc_cut 0 [a0] S = T_vlc_cut ctlV (fun _ => none) (Cn B k) a0 S :=
  (callN_T hB (by kernel_rfl) (by kernel_rfl) (by decide) (by rfl) (by rfl)).trans (t_vlc_cut ctlV (fun _ => none) (Cn B k) a0 S)
theorem c_bits_Reader_Copy (B : CallF) (k : Nat) (a0 : AV) (S : Heap) (hB : B f_bits_Reader_Copy 0 [a0] S = none) : Cn B (k + 1) f_bits_Reader_Copy 0 [a0] S = T_bits_Reader_Copy ctlV (fun _ => none) (Cn B k) a0 S :=
  (callN_T hB (by kernel_rfl) (by kernel_rfl) (by decide) (by rfl) (by rfl)).trans (t_bits_Reader_Copy ctlV (fun _ => none) (Cn B k) a0 S)
theorem c_bits_Reader_U (B : CallF) (k : Nat) (a0 a1 : AV) (S : Heap) (hB : B f_bits_Reader_U 0 [a0, a1] S = none) : Cn B (k + 1) f_bits_Reader_U 0 [a0, a1] S = T_bits_Reader_U ctlV (fun _ => none) (Cn B k) a0 a1 S :=
  (callN_T hB (by kernel_rfl) (by kernel_rfl) (by decide) (by rfl) (by rfl)).trans (t_bits_Reader_U ctlV (fun _ => none) (Cn B k) a0 a1 S)
theorem c_vblock_sized (B : CallF) (k : Nat) (a0 : AV) (S : Heap) (hB : B f_vblock_sized 0 [a0] S = none) : Cn B (k + 1) f_vblock_sized 0 [a0] S = T_vblock_sized ctlV (fun _ => none) (Cn B k) a0 S :=
  (callN_T hB (by kernel_rfl) (by kernel_rfl) (by decide) (by rfl) (by rfl)).trans (t_vblock_sized ctlV (fun _ => none) (Cn B k) a0 S)
theorem c_runs_Of (B : CallF) (k : Nat) (a0 : AV) (S : Heap) (hB : B f_runs_Of 0 [a0] S = none) : Cn B (k + 1) f_runs_Of 0 [a0] S = T_runs_Of ctlV (fun _ => none) (Cn B k) a0 S :=
  (callN_T hB (by kernel_rfl) (by kernel_rfl) (by decide) (by rfl) (by rfl)).trans (t_runs_Of ctlV (fun _ => none) (Cn B k) a0 S)
theorem c_vblock_write (B : CallF) (k : Nat) (a0 a1 a2 a3 : AV) (S : Heap) (hB : B f_vblock_write 0 [a0, a1, a2, a3] S = none) : Cn B (k + 1) f_vblock_write 0 [a0, a1, a2, a3] S = T_vblock_write ctlV (fun _ => none) (Cn B k) a0 a1 a2 a3 S :=
  (callN_T hB (by kernel_rfl) (by kernel_rfl) (by decide) (by rfl) (by rfl)).trans (t_vblock_write ctlV (fun _ => none) (Cn B k) a0 a1 a2 a3 S)
theorem c_vblock_Read_1 (B : CallF) (k : Nat) (a0 a1 a2 a3 : AV) (S : Heap) (hB : B f_vblock_Read_1 0 [a0, a1, a2, a3] S = none) : Cn B (k + 1) f_vblock_Read_1 0 [a0, a1, a2, a3] S = T_vblock_Read_1 ctlV (fun _ => none) (Cn B k) a0 a1 a2 a3 S :=
  (callN_T hB (by kernel_rfl) (by kernel_rfl) (by decide) (by rfl) (by rfl)).trans (t_vblock_Read_1 ctlV (fun _ => none) (Cn B k) a0 a1 a2 a3 S)
theorem c_vblock_skip (B : CallF) (k : Nat) (a0 a1 : AV) (S : Heap) (hB : B f_vblock_skip 0 [a0, a1] S = none) : Cn B (k + 1) f_vblock_skip 0 [a0, a1] S = T_vblock_skip ctlV (fun _ => none) (Cn B k) a0 a1 S :=
  (callN_T hB (by kernel_rfl) (by kernel_rfl) (by decide) (by rfl) (by rfl)).trans (t_vblock_skip ctlV (fun _ => none) (Cn B k) a0 a1 S)
theorem c_vblock_levels (B : CallF) (k : Nat) (a0 a1 a2 : AV) (S : Heap) (hB : B f_vblock_levels 0 [a0, a1, a2] S = none) : Cn B (k + 1) f_vblock_levels 0 [a0, a1, a2] S = T_vblock_levels ctlV (fun _ => none) (Cn B k) a0 a1 a2 S :=
  (callN_T hB (by kernel_rfl) (by kernel_rfl) (by decide) (by rfl) (by rfl)).trans (t_vblock_levels ctlV (fun _ => none) (Cn B k) a0 a1 a2 S)
theorem c_runs_Block (B : CallF) (k : Nat) (a0 a1 : AV) (S : Heap) (hB : B f_runs_Block 0 [a0, a1] S = none) : Cn B (k + 1) f_runs_Block 0 [a0, a1] S = T_runs_Block ctlV (fun _ => none) (Cn B k) a0 a1 S :=
  (callN_T hB (by kernel_rfl) (by kernel_rfl) (by decide) (by rfl) (by rfl)).trans (t_runs_Block ctlV (fun _ => none) (Cn B k) a0 a1 S)
theorem c_vlc_order (B : CallF) (k : Nat) (a0 : AV) (S : Heap) (hB : B f_vlc_order 0 [a0] S = none) : Cn B (k + 1) f_vlc_order 0 [a0] S = T_vlc_order ctlV (fun _ => none) (Cn B k) a0 S :=
  (callN_T hB (by kernel_rfl) (by kernel_rfl) (by decide) (by rfl) (by rfl)).trans (t_vlc_order ctlV (fun _ => none) (Cn B k) a0 S)
theorem c_vlc_classes_1 (B : CallF) (k : Nat) (a0 : AV) (S : Heap) (hB : B f_vlc_classes_1 0 [a0] S = none) : Cn B (k + 1) f_vlc_classes_1 0 [a0] S = T_vlc_classes_1 ctlV (fun _ => none) (Cn B k) a0 S :=
  (callN_T hB (by kernel_rfl) (by kernel_rfl) (by decide) (by rfl) (by rfl)).trans (t_vlc_classes_1 ctlV (fun _ => none) (Cn B k) a0 S)
theorem c_vlc_classes_2 (B : CallF) (k : Nat) (a0 a1 : AV) (S : Heap) (hB : B f_vlc_classes_2 0 [a0, a1] S = none) : Cn B (k + 1) f_vlc_classes_2 0 [a0, a1] S = T_vlc_classes_2 ctlV (fun _ => none) (Cn B k) a0 a1 S :=
  (callN_T hB (by kernel_rfl) (by kernel_rfl) (by decide) (by rfl) (by rfl)).trans (t_vlc_classes_2 ctlV (fun _ => none) (Cn B k) a0 a1 S)
theorem c_golomb_Ue (B : CallF) (k : Nat) (a0 : AV) (S : Heap) (hB : B f_golomb_Ue 0 [a0] S = none) : Cn B (k + 1) f_golomb_Ue 0 [a0] S = T_golomb_Ue ctlV (fun _ => none) (Cn B k) a0 S :=
  (callN_T hB (by kernel_rfl) (by kernel_rfl) (by decide) (by rfl) (by rfl)).trans (t_golomb_Ue ctlV (fun _ => none) (Cn B k) a0 S)
theorem c_golomb_PutUe (B : CallF) (k : Nat) (a0 a1 : AV) (S : Heap) (hB : B f_golomb_PutUe 0 [a0, a1] S = none) : Cn B (k + 1) f_golomb_PutUe 0 [a0, a1] S = T_golomb_PutUe ctlV (fun _ => none) (Cn B k) a0 a1 S :=
  (callN_T hB (by kernel_rfl) (by kernel_rfl) (by decide) (by rfl) (by rfl)).trans (t_golomb_PutUe ctlV (fun _ => none) (Cn B k) a0 a1 S)
theorem c_math_bits_Len (B : CallF) (k : Nat) (a0 : AV) (S : Heap) (hB : B f_math_bits_Len 0 [a0] S = none) : Cn B (k + 1) f_math_bits_Len 0 [a0] S = T_math_bits_Len ctlV (fun _ => none) (Cn B k) a0 S :=
  (callN_T hB (by kernel_rfl) (by kernel_rfl) (by decide) (by rfl) (by rfl)).trans (t_math_bits_Len ctlV (fun _ => none) (Cn B k) a0 S)
theorem c_runs_sized (B : CallF) (k : Nat) (a0 : AV) (S : Heap) (hB : B f_runs_sized 0 [a0] S = none) : Cn B (k + 1) f_runs_sized 0 [a0] S = T_runs_sized ctlV (fun _ => none) (Cn B k) a0 S :=
  (callN_T hB (by kernel_rfl) (by kernel_rfl) (by decide) (by rfl) (by rfl)).trans (t_runs_sized ctlV (fun _ => none) (Cn B k) a0 S)
theorem c_runs_ranged (B : CallF) (k : Nat) (a0 : AV) (S : Heap) (hB : B f_runs_ranged 0 [a0] S = none) : Cn B (k + 1) f_runs_ranged 0 [a0] S = T_runs_ranged ctlV (fun _ => none) (Cn B k) a0 S :=
  (callN_T hB (by kernel_rfl) (by kernel_rfl) (by decide) (by rfl) (by rfl)).trans (t_runs_ranged ctlV (fun _ => none) (Cn B k) a0 S)
theorem c_runs_backwards (B : CallF) (k : Nat) (a0 : AV) (S : Heap) (hB : B f_runs_backwards 0 [a0] S = none) : Cn B (k + 1) f_runs_backwards 0 [a0] S = T_runs_backwards ctlV (fun _ => none) (Cn B k) a0 S :=
  (callN_T hB (by kernel_rfl) (by kernel_rfl) (by decide) (by rfl) (by rfl)).trans (t_runs_backwards ctlV (fun _ => none) (Cn B k) a0 S)
theorem c_runs_Ones (B : CallF) (k : Nat) (a0 : AV) (S : Heap) (hB : B f_runs_Ones 0 [a0] S = none) : Cn B (k + 1) f_runs_Ones 0 [a0] S = T_runs_Ones ctlV (fun _ => none) (Cn B k) a0 S :=
  (callN_T hB (by kernel_rfl) (by kernel_rfl) (by decide) (by rfl) (by rfl)).trans (t_runs_Ones ctlV (fun _ => none) (Cn B k) a0 S)
theorem c_level_New (B : CallF) (k : Nat) (a0 a1 : AV) (S : Heap) (hB : B f_level_New 0 [a0, a1] S = none) : Cn B (k + 1) f_level_New 0 [a0, a1] S = T_level_New ctlV (fun _ => none) (Cn B k) a0 a1 S :=
  (callN_T hB (by kernel_rfl) (by kernel_rfl) (by decide) (by rfl) (by rfl)).trans (t_level_New ctlV (fun _ => none) (Cn B k) a0 a1 S)
theorem c_level_Coder_Put (B : CallF) (k : Nat) (a0 a1 a2 : AV) (S : Heap) (hB : B f_level_Coder_Put 0 [a0, a1, a2] S = none) : Cn B (k + 1) f_level_Coder_Put 0 [a0, a1, a2] S = T_level_Coder_Put ctlV (fun _ => none) (Cn B k) a0 a1 a2 S :=
  (callN_T hB (by kernel_rfl) (by kernel_rfl) (by decide) (by rfl) (by rfl)).trans (t_level_Coder_Put ctlV (fun _ => none) (Cn B k) a0 a1 a2 S)
theorem c_level_Coder_Read (B : CallF) (k : Nat) (a0 a1 : AV) (S : Heap) (hB : B f_level_Coder_Read 0 [a0, a1] S = none) : Cn B (k + 1) f_level_Coder_Read 0 [a0, a1] S = T_level_Coder_Read ctlV (fun _ => none) (Cn B k) a0 a1 S :=
  (callN_T hB (by kernel_rfl) (by kernel_rfl) (by decide) (by rfl) (by rfl)).trans (t_level_Coder_Read ctlV (fun _ => none) (Cn B k) a0 a1 S)
theorem c_vlc_order_1 (B : CallF) (k : Nat) (a0 a1 : AV) (S : Heap) (hB : B f_vlc_order_1 0 [a0, a1] S = none) : Cn B (k + 1) f_vlc_order_1 0 [a0, a1] S = T_vlc_order_1 ctlV (fun _ => none) (Cn B k) a0 a1 S :=
  (callN_T hB (by kernel_rfl) (by kernel_rfl) (by decide) (by rfl) (by rfl)).trans (t_vlc_order_1 ctlV (fun _ => none) (Cn B k) a0 a1 S)
theorem c_golomb_Uk (B : CallF) (k : Nat) (a0 a1 : AV) (S : Heap) (hB : B f_golomb_Uk 0 [a0, a1] S = none) : Cn B (k + 1) f_golomb_Uk 0 [a0, a1] S = T_golomb_Uk ctlV (fun _ => none) (Cn B k) a0 a1 S :=
  (callN_T hB (by kernel_rfl) (by kernel_rfl) (by decide) (by rfl) (by rfl)).trans (t_golomb_Uk ctlV (fun _ => none) (Cn B k) a0 a1 S)
theorem c_vlc_order_2 (B : CallF) (k : Nat) (a0 a1 a2 : AV) (S : Heap) (hB : B f_vlc_order_2 0 [a0, a1, a2] S = none) : Cn B (k + 1) f_vlc_order_2 0 [a0, a1, a2] S = T_vlc_order_2 ctlV (fun _ => none) (Cn B k) a0 a1 a2 S :=
  (callN_T hB (by kernel_rfl) (by kernel_rfl) (by decide) (by rfl) (by rfl)).trans (t_vlc_order_2 ctlV (fun _ => none) (Cn B k) a0 a1 a2 S)
theorem c_golomb_PutUk (B : CallF) (k : Nat) (a0 a1 a2 : AV) (S : Heap) (hB : B f_golomb_PutUk 0 [a0, a1, a2] S = none) : Cn B (k + 1) f_golomb_PutUk 0 [a0, a1, a2] S = T_golomb_PutUk ctlV (fun _ => none) (Cn B k) a0 a1 a2 S :=
  (callN_T hB (by kernel_rfl) (by kernel_rfl) (by decide) (by rfl) (by rfl)).trans (t_golomb_PutUk ctlV (fun _ => none) (Cn B k) a0 a1 a2 S)
theorem c_golomb_length (B : CallF) (k : Nat) (a0 : AV) (S : Heap) (hB : B f_golomb_length 0 [a0] S = none) : Cn B (k + 1) f_golomb_length 0 [a0] S = T_golomb_length ctlV (fun _ => none) (Cn B k) a0 S :=
  (callN_T hB (by kernel_rfl) (by kernel_rfl) (by decide) (by rfl) (by rfl)).trans (t_golomb_length ctlV (fun _ => none) (Cn B k) a0 S)
theorem c_math_bits_Len64 (B : CallF) (k : Nat) (a0 : AV) (S : Heap) (hB : B f_math_bits_Len64 0 [a0] S = none) : Cn B (k + 1) f_math_bits_Len64 0 [a0] S = T_math_bits_Len64 ctlV (fun _ => none) (Cn B k) a0 S :=
  (callN_T hB (by kernel_rfl) (by kernel_rfl) (by decide) (by rfl) (by rfl)).trans (t_math_bits_Len64 ctlV (fun _ => none) (Cn B k) a0 S)
theorem c_math_bits_Len32 (B : CallF) (k : Nat) (a0 : AV) (S : Heap) (hB : B f_math_bits_Len32 0 [a0] S = none) : Cn B (k + 1) f_math_bits_Len32 0 [a0] S = T_math_bits_Len32 ctlV (fun _ => none) (Cn B k) a0 S :=
  (callN_T hB (by kernel_rfl) (by kernel_rfl) (by decide) (by rfl) (by rfl)).trans (t_math_bits_Len32 ctlV (fun _ => none) (Cn B k) a0 S)
theorem c_runs_backwards_1 (B : CallF) (k : Nat) (a0 a1 : AV) (S : Heap) (hB : B f_runs_backwards_1 0 [a0, a1] S = none) : Cn B (k + 1) f_runs_backwards_1 0 [a0, a1] S = T_runs_backwards_1 ctlV (fun _ => none) (Cn B k) a0 a1 S :=
  (callN_T hB (by kernel_rfl) (by kernel_rfl) (by decide) (by rfl) (by rfl)).trans (t_runs_backwards_1 ctlV (fun _ => none) (Cn B k) a0 a1 S)
theorem c_level_Coder_Most (B : CallF) (k : Nat) (a0 : AV) (S : Heap) (hB : B f_level_Coder_Most 0 [a0] S = none) : Cn B (k + 1) f_level_Coder_Most 0 [a0] S = T_level_Coder_Most ctlV (fun _ => none) (Cn B k) a0 S :=
  (callN_T hB (by kernel_rfl) (by kernel_rfl) (by decide) (by rfl) (by rfl)).trans (t_level_Coder_Most ctlV (fun _ => none) (Cn B k) a0 S)
theorem c_level_length_most (B : CallF) (k : Nat) (a0 : AV) (S : Heap) (hB : B f_level_length_most 0 [a0] S = none) : Cn B (k + 1) f_level_length_most 0 [a0] S = T_level_length_most ctlV (fun _ => none) (Cn B k) a0 S :=
  (callN_T hB (by kernel_rfl) (by kernel_rfl) (by decide) (by rfl) (by rfl)).trans (t_level_length_most ctlV (fun _ => none) (Cn B k) a0 S)
theorem c_level_length_split (B : CallF) (k : Nat) (a0 a1 : AV) (S : Heap) (hB : B f_level_length_split 0 [a0, a1] S = none) : Cn B (k + 1) f_level_length_split 0 [a0, a1] S = T_level_length_split ctlV (fun _ => none) (Cn B k) a0 a1 S :=
  (callN_T hB (by kernel_rfl) (by kernel_rfl) (by decide) (by rfl) (by rfl)).trans (t_level_length_split ctlV (fun _ => none) (Cn B k) a0 a1 S)
theorem c_level_Coder_next (B : CallF) (k : Nat) (a0 a1 : AV) (S : Heap) (hB : B f_level_Coder_next 0 [a0, a1] S = none) : Cn B (k + 1) f_level_Coder_next 0 [a0, a1] S = T_level_Coder_next ctlV (fun _ => none) (Cn B k) a0 a1 S :=
  (callN_T hB (by kernel_rfl) (by kernel_rfl) (by decide) (by rfl) (by rfl)).trans (t_level_Coder_next ctlV (fun _ => none) (Cn B k) a0 a1 S)
theorem c_level_Coder_Read_1 (B : CallF) (k : Nat) (a0 a1 : AV) (S : Heap) (hB : B f_level_Coder_Read_1 0 [a0, a1] S = none) : Cn B (k + 1) f_level_Coder_Read_1 0 [a0, a1] S = T_level_Coder_Read_1 ctlV (fun _ => none) (Cn B k) a0 a1 S :=
  (callN_T hB (by kernel_rfl) (by kernel_rfl) (by decide) (by rfl) (by rfl)).trans (t_level_Coder_Read_1 ctlV (fun _ => none) (Cn B k) a0 a1 S)
theorem c_level_length_escape (B : CallF) (k : Nat) (a0 : AV) (S : Heap) (hB : B f_level_length_escape 0 [a0] S = none) : Cn B (k + 1) f_level_length_escape 0 [a0] S = T_level_length_escape ctlV (fun _ => none) (Cn B k) a0 S :=
  (callN_T hB (by kernel_rfl) (by kernel_rfl) (by decide) (by rfl) (by rfl)).trans (t_level_length_escape ctlV (fun _ => none) (Cn B k) a0 S)
theorem c_golomb_Uk_1 (B : CallF) (k : Nat) (a0 a1 : AV) (S : Heap) (hB : B f_golomb_Uk_1 0 [a0, a1] S = none) : Cn B (k + 1) f_golomb_Uk_1 0 [a0, a1] S = T_golomb_Uk_1 ctlV (fun _ => none) (Cn B k) a0 a1 S :=
  (callN_T hB (by kernel_rfl) (by kernel_rfl) (by decide) (by rfl) (by rfl)).trans (t_golomb_Uk_1 ctlV (fun _ => none) (Cn B k) a0 a1 S)
theorem c_level_length_after (B : CallF) (k : Nat) (a0 a1 : AV) (S : Heap) (hB : B f_level_length_after 0 [a0, a1] S = none) : Cn B (k + 1) f_level_length_after 0 [a0, a1] S = T_level_length_after ctlV (fun _ => none) (Cn B k) a0 a1 S :=
  (callN_T hB (by kernel_rfl) (by kernel_rfl) (by decide) (by rfl) (by rfl)).trans (t_level_length_after ctlV (fun _ => none) (Cn B k) a0 a1 S)
end Go.Ab.tV
