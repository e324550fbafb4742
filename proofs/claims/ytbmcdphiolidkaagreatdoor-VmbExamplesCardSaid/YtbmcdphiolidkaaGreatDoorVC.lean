/- What a call of each function comes to, in the tower of calls. Written by program: no condition. -/
import Derived.Test.YtbmcdphiolidkaaGreatDoorVT1
import Derived.Test.YtbmcdphiolidkaaGreatDoorVA
set_option maxRecDepth 100000
set_option linter.unusedVariables false
namespace Go.Ab.tV
open Go Go.Proofs
open Classical in
noncomputable def ctlV : Ctl := { loop := loopW, same := fun ps => decide (∀ p ∈ ps, p.ok), tr := fun _ v S' => (v, S') }
theorem ctlV_ok : CtlOk ctlV where
  loop := fun _ _ _ h => loopW_some h
  same := fun ps h => by simpa [ctlV] using h
  tr := fun _ _ _ => .inl rfl
theorem callN_T {X : Ctl} {P : Program} {G : Nat → Option (List AV)} {A : Nat → Nat → FAn} {B : CallF} {k f way : Nat} {args : List AV} {S : Heap} {fn : Func} {an : FAn} (hB : B f way args S = none) (hf : P.funcs[f]? = some fn)
    (hn : (fn.name == "runtime.NumGoroutine") = false) (hlt : f < yldId) (ha : A f way = an) (hl : an.loc = false) : callN X P G A B (k + 1) f way args S = evFnA X P G (callN X P G A B k) fn an args S := by
  have h1 : ¬ yldId ≤ f := by omega
  simp only [callN, hB, ha, hl, oneC, if_neg h1, hf, hn, Bool.false_eq_true, if_false]
def An : Nat → Nat → FAn := fun f w => if f = 5 then an_spindlelaw21_VmbExamples else if f = 22 then an_bits_Write else if f = 23 then an_bits_Writer_Put else if f = 24 then an_near_New else if f = 25 then an_vmb_Put else if f = 26 then an_bits_Writer_Len else if f = 27 then an_bits_Writer_Bits else if f = 29 then an_spindlekit_CopyMb else if f = 30 then an_spindlelaw21_plain else if f = 31 then an_spindlelaw21_begin else if f = 32 then an_vmb_Read else if f = 33 then an_bits_Read else if f = 34 then an_bits_Writer_Bytes else if f = 35 then an_spindlekit_EqualMb else if f = 36 then an_spindlelaw21_known else if f = 40 then an_bits_Reader_Bit else if f = 43 then an_bits_Reader_Pos else if f = 45 then an_near_Near_Next else if f = 53 then an_bits_Reader_U else if f = 54 then an_bits_Reader_Left else if f = 55 then an_mb_Check else if f = 56 then an_vblock_Fits else if f = 63 then an_bits_Reader_Copy else if f = 69 then an_kinds_Type else if f = 70 then an_golomb_PutUe else if f = 71 then an_vmb_run else if f = 72 then an_vmb_order else if f = 73 then an_vmb_writer_pcm else if f = 74 then an_vmb_writer_preds else if f = 75 then an_vmb_writer_chroma else if f = 76 then an_vmb_writer_sub else if f = 77 then an_vmb_writer_refers else if f = 78 then an_vmb_writer_mvds else if f = 79 then an_vmb_writer_cbp else if f = 80 then an_vmb_writer_qp else if f = 81 then an_vmb_writer_blocks else if f = 82 then an_spindlekit_CopyInts else if f = 83 then an_spindlekit_CopyBlocks else if f = 84 then an_vmb_indices else if f = 85 then an_golomb_Ue else if f = 86 then an_kinds_Of else if f = 87 then an_vmb_reader_pcm else if f = 88 then an_vmb_reader_preds else if f = 89 then an_vmb_reader_chroma else if f = 90 then an_vmb_reader_sub else if f = 91 then an_vmb_reader_refers else if f = 92 then an_vmb_reader_mvds else if f = 93 then an_vmb_reader_cbp else if f = 94 then an_vmb_reader_qp else if f = 95 then an_vmb_reader_blocks else if f = 96 then an_spindlekit_EqualInts else if f = 97 then an_spindlekit_EqualVecs else if f = 98 then an_spindlekit_EqualBlocks else if f = 116 then an_kinds_Intra else if f = 117 then an_kinds_Parts else if f = 118 then an_mb_one_uint8 else if f = 119 then an_mb_Check_1 else if f = 120 then an_mb_ranged_uint8 else if f = 121 then an_mb_Check_2 else if f = 122 then an_mb_Check_3 else if f = 123 then an_mb_ranged_int else if f = 124 then an_mb_Check_4 else if f = 125 then an_mb_vectors else if f = 126 then an_mb_coded else if f = 127 then an_mb_Check_5 else if f = 128 then an_mb_cbp else if f = 129 then an_mb_one_int else if f = 130 then an_mb_Check_6 else if f = 131 then an_mb_blocks else if f = 132 then an_mb_Check_7 else if f = 133 then an_vblock_Put else if f = 145 then an_math_bits_Len64 else if f = 146 then an_vmb_order_1 else if f = 147 then an_vmb_order_1_1 else if f = 148 then an_vmb_order_2 else if f = 149 then an_vmb_order_3 else if f = 150 then an_vmb_order_4 else if f = 151 then an_vmb_order_5 else if f = 152 then an_golomb_PutTe else if f = 153 then an_golomb_PutSe else if f = 154 then an_mb_Blocks else if f = 155 then an_count_Class else if f = 156 then an_golomb_length else if f = 157 then an_vmb_reader_part else if f = 158 then an_golomb_Te else if f = 159 then an_kinds_Pieces else if f = 160 then an_vmb_reader_signed else if f = 161 then an_mb_Size else if f = 162 then an_vblock_Read else if f = 163 then an_mb_Copy else if f = 186 then an_mb_one_uint8_1 else if f = 187 then an_mb_one_int_1 else if f = 188 then an_vblock_sized else if f = 189 then an_runs_Of else if f = 190 then an_vblock_write else if f = 204 then an_count_Class_1 else if f = 205 then an_count_Total else if f = 206 then an_place_Left else if f = 207 then an_place_ChLeft else if f = 208 then an_near_Near_Left else if f = 209 then an_place_Above else if f = 210 then an_place_ChAbove else if f = 211 then an_near_Near_Above else if f = 212 then an_kinds_parts else if f = 213 then an_golomb_Se else if f = 214 then an_vblock_Read_1 else if f = 215 then an_vblock_skip else if f = 216 then an_vlc_Token else if f = 217 then an_vblock_levels else if f = 218 then an_vlc_Zeros else if f = 219 then an_vlc_Run else if f = 220 then an_runs_Block else if f = 221 then an_slices_Clone_int_int else if f = 222 then an_slices_Clone_api_Vec_api_Vec else if f = 223 then an_slices_Clone_int_int_v2 else if f = 251 then an_runs_sized else if f = 252 then an_runs_ranged else if f = 253 then an_runs_backwards else if f = 254 then an_runs_Ones else if f = 255 then an_vlc_PutToken else if f = 256 then an_level_New else if f = 257 then an_level_Coder_Put else if f = 258 then an_vlc_PutZeros else if f = 259 then an_vlc_PutRun else if f = 263 then an_count_exists else if f = 264 then an_count_coefficients else if f = 265 then an_place_step else if f = 266 then an_near_Near_at else if f = 267 then an_vlc_classes else if f = 268 then an_vlc_sized else if f = 269 then an_vlc_before else if f = 270 then an_vlc_Pair else if f = 271 then an_level_Coder_Read else if f = 272 then an_vlc_cut else if f = 283 then an_runs_backwards_1 else if f = 284 then an_vlc_Symbol else if f = 285 then an_level_Coder_Most else if f = 286 then an_level_length_most else if f = 287 then an_level_length_split else if f = 288 then an_level_Coder_next else if f = 291 then an_mb_Block else if f = 292 then an_count_luma else if f = 293 then an_place_grid else if f = 294 then an_place_find else if f = 295 then an_vlc_order else if f = 296 then an_vlc_classes_1 else if f = 297 then an_vlc_classes_2 else if f = 298 then an_level_Coder_Read_1 else if f = 299 then an_level_length_escape else if f = 300 then an_math_bits_Len else if f = 306 then an_level_length_after else if f = 307 then an_slices_Index_api_Coded_api_Coded else if f = 308 then an_vlc_order_1 else if f = 309 then an_golomb_Uk else if f = 310 then an_vlc_order_2 else if f = 311 then an_golomb_PutUk else if f = 312 then an_math_bits_Len32 else if f = 316 then an_golomb_Uk_1 else ⟨.nil, false, false⟩
noncomputable abbrev Cn (B : CallF) (k : Nat) : CallF := callN (rngC ctlV) Tryz.prog Gk An B k
theorem c_spindlelaw21_VmbExamples (B : CallF) (k : Nat) (S : Heap) (hB : B f_spindlelaw21_VmbExamples 0 [] S = none) : Cn B (k + 1) f_spindlelaw21_VmbExamples 0 [] S = T_spindlelaw21_VmbExamples ctlV Gk (Cn B k) S :=
  (callN_T hB (by kernel_rfl) (by kernel_rfl) (by decide) (by rfl) (by rfl)).trans (t_spindlelaw21_VmbExamples ctlV Gk (Cn B k) S)
theorem c_bits_Write (B : CallF) (k : Nat) (S : Heap) (hB : B f_bits_Write 0 [] S = none) : Cn B (k + 1) f_bits_Write 0 [] S = T_bits_Write ctlV Gk (Cn B k) S :=
  (callN_T hB (by kernel_rfl) (by kernel_rfl) (by decide) (by rfl) (by rfl)).trans (t_bits_Write ctlV Gk (Cn B k) S)
theorem c_bits_Writer_Put (B : CallF) (k : Nat) (a0 a1 a2 : AV) (S : Heap) (hB : B f_bits_Writer_Put 0 [a0, a1, a2] S = none) : Cn B (k + 1) f_bits_Writer_Put 0 [a0, a1, a2] S = T_bits_Writer_Put ctlV Gk (Cn B k) a0 a1 a2 S :=
  (callN_T hB (by kernel_rfl) (by kernel_rfl) (by decide) (by rfl) (by rfl)).trans (t_bits_Writer_Put ctlV Gk (Cn B k) a0 a1 a2 S)
theorem c_near_New (B : CallF) (k : Nat) (a0 a1 : AV) (S : Heap) (hB : B f_near_New 0 [a0, a1] S = none) : Cn B (k + 1) f_near_New 0 [a0, a1] S = T_near_New ctlV Gk (Cn B k) a0 a1 S :=
  (callN_T hB (by kernel_rfl) (by kernel_rfl) (by decide) (by rfl) (by rfl)).trans (t_near_New ctlV Gk (Cn B k) a0 a1 S)
theorem c_vmb_Put (B : CallF) (k : Nat) (a0 a1 a2 a3 a4 : AV) (S : Heap) (hB : B f_vmb_Put 0 [a0, a1, a2, a3, a4] S = none) : Cn B (k + 1) f_vmb_Put 0 [a0, a1, a2, a3, a4] S = T_vmb_Put ctlV Gk (Cn B k) a0 a1 a2 a3 a4 S :=
  (callN_T hB (by kernel_rfl) (by kernel_rfl) (by decide) (by rfl) (by rfl)).trans (t_vmb_Put ctlV Gk (Cn B k) a0 a1 a2 a3 a4 S)
theorem c_bits_Writer_Len (B : CallF) (k : Nat) (a0 : AV) (S : Heap) (hB : B f_bits_Writer_Len 0 [a0] S = none) : Cn B (k + 1) f_bits_Writer_Len 0 [a0] S = T_bits_Writer_Len ctlV Gk (Cn B k) a0 S :=
  (callN_T hB (by kernel_rfl) (by kernel_rfl) (by decide) (by rfl) (by rfl)).trans (t_bits_Writer_Len ctlV Gk (Cn B k) a0 S)
theorem c_bits_Writer_Bits (B : CallF) (k : Nat) (a0 : AV) (S : Heap) (hB : B f_bits_Writer_Bits 0 [a0] S = none) : Cn B (k + 1) f_bits_Writer_Bits 0 [a0] S = T_bits_Writer_Bits ctlV Gk (Cn B k) a0 S :=
  (callN_T hB (by kernel_rfl) (by kernel_rfl) (by decide) (by rfl) (by rfl)).trans (t_bits_Writer_Bits ctlV Gk (Cn B k) a0 S)
theorem c_spindlekit_CopyMb (B : CallF) (k : Nat) (a0 : AV) (S : Heap) (hB : B f_spindlekit_CopyMb 0 [a0] S = none) : Cn B (k + 1) f_spindlekit_CopyMb 0 [a0] S = T_spindlekit_CopyMb ctlV Gk (Cn B k) a0 S :=
  (callN_T hB (by kernel_rfl) (by kernel_rfl) (by decide) (by rfl) (by rfl)).trans (t_spindlekit_CopyMb ctlV Gk (Cn B k) a0 S)
theorem c_spindlelaw21_plain (B : CallF) (k : Nat) (S : Heap) (hB : B f_spindlelaw21_plain 0 [] S = none) : Cn B (k + 1) f_spindlelaw21_plain 0 [] S = T_spindlelaw21_plain ctlV Gk (Cn B k) S :=
  (callN_T hB (by kernel_rfl) (by kernel_rfl) (by decide) (by rfl) (by rfl)).trans (t_spindlelaw21_plain ctlV Gk (Cn B k) S)
theorem c_spindlelaw21_begin (B : CallF) (k : Nat) (S : Heap) (hB : B f_spindlelaw21_begin 0 [] S = none) : Cn B (k + 1) f_spindlelaw21_begin 0 [] S = T_spindlelaw21_begin ctlV Gk (Cn B k) S :=
  (callN_T hB (by kernel_rfl) (by kernel_rfl) (by decide) (by rfl) (by rfl)).trans (t_spindlelaw21_begin ctlV Gk (Cn B k) S)
theorem c_vmb_Read (B : CallF) (k : Nat) (a0 a1 a2 a3 : AV) (S : Heap) (hB : B f_vmb_Read 0 [a0, a1, a2, a3] S = none) : Cn B (k + 1) f_vmb_Read 0 [a0, a1, a2, a3] S = T_vmb_Read ctlV Gk (Cn B k) a0 a1 a2 a3 S :=
  (callN_T hB (by kernel_rfl) (by kernel_rfl) (by decide) (by rfl) (by rfl)).trans (t_vmb_Read ctlV Gk (Cn B k) a0 a1 a2 a3 S)
theorem c_bits_Read (B : CallF) (k : Nat) (a0 : AV) (S : Heap) (hB : B f_bits_Read 0 [a0] S = none) : Cn B (k + 1) f_bits_Read 0 [a0] S = T_bits_Read ctlV Gk (Cn B k) a0 S :=
  (callN_T hB (by kernel_rfl) (by kernel_rfl) (by decide) (by rfl) (by rfl)).trans (t_bits_Read ctlV Gk (Cn B k) a0 S)
theorem c_bits_Writer_Bytes (B : CallF) (k : Nat) (a0 : AV) (S : Heap) (hB : B f_bits_Writer_Bytes 0 [a0] S = none) : Cn B (k + 1) f_bits_Writer_Bytes 0 [a0] S = T_bits_Writer_Bytes ctlV Gk (Cn B k) a0 S :=
  (callN_T hB (by kernel_rfl) (by kernel_rfl) (by decide) (by rfl) (by rfl)).trans (t_bits_Writer_Bytes ctlV Gk (Cn B k) a0 S)
theorem c_spindlekit_EqualMb (B : CallF) (k : Nat) (a0 a1 : AV) (S : Heap) (hB : B f_spindlekit_EqualMb 0 [a0, a1] S = none) : Cn B (k + 1) f_spindlekit_EqualMb 0 [a0, a1] S = T_spindlekit_EqualMb ctlV Gk (Cn B k) a0 a1 S :=
  (callN_T hB (by kernel_rfl) (by kernel_rfl) (by decide) (by rfl) (by rfl)).trans (t_spindlekit_EqualMb ctlV Gk (Cn B k) a0 a1 S)
theorem c_spindlelaw21_known (B : CallF) (k : Nat) (S : Heap) (hB : B f_spindlelaw21_known 0 [] S = none) : Cn B (k + 1) f_spindlelaw21_known 0 [] S = T_spindlelaw21_known ctlV Gk (Cn B k) S :=
  (callN_T hB (by kernel_rfl) (by kernel_rfl) (by decide) (by rfl) (by rfl)).trans (t_spindlelaw21_known ctlV Gk (Cn B k) S)
theorem c_bits_Reader_Bit (B : CallF) (k : Nat) (a0 : AV) (S : Heap) (hB : B f_bits_Reader_Bit 0 [a0] S = none) : Cn B (k + 1) f_bits_Reader_Bit 0 [a0] S = T_bits_Reader_Bit ctlV Gk (Cn B k) a0 S :=
  (callN_T hB (by kernel_rfl) (by kernel_rfl) (by decide) (by rfl) (by rfl)).trans (t_bits_Reader_Bit ctlV Gk (Cn B k) a0 S)
theorem c_bits_Reader_Pos (B : CallF) (k : Nat) (a0 : AV) (S : Heap) (hB : B f_bits_Reader_Pos 0 [a0] S = none) : Cn B (k + 1) f_bits_Reader_Pos 0 [a0] S = T_bits_Reader_Pos ctlV Gk (Cn B k) a0 S :=
  (callN_T hB (by kernel_rfl) (by kernel_rfl) (by decide) (by rfl) (by rfl)).trans (t_bits_Reader_Pos ctlV Gk (Cn B k) a0 S)
theorem c_near_Near_Next (B : CallF) (k : Nat) (a0 : AV) (S : Heap) (hB : B f_near_Near_Next 0 [a0] S = none) : Cn B (k + 1) f_near_Near_Next 0 [a0] S = T_near_Near_Next ctlV Gk (Cn B k) a0 S :=
  (callN_T hB (by kernel_rfl) (by kernel_rfl) (by decide) (by rfl) (by rfl)).trans (t_near_Near_Next ctlV Gk (Cn B k) a0 S)
theorem c_bits_Reader_U (B : CallF) (k : Nat) (a0 a1 : AV) (S : Heap) (hB : B f_bits_Reader_U 0 [a0, a1] S = none) : Cn B (k + 1) f_bits_Reader_U 0 [a0, a1] S = T_bits_Reader_U ctlV Gk (Cn B k) a0 a1 S :=
  (callN_T hB (by kernel_rfl) (by kernel_rfl) (by decide) (by rfl) (by rfl)).trans (t_bits_Reader_U ctlV Gk (Cn B k) a0 a1 S)
theorem c_bits_Reader_Left (B : CallF) (k : Nat) (a0 : AV) (S : Heap) (hB : B f_bits_Reader_Left 0 [a0] S = none) : Cn B (k + 1) f_bits_Reader_Left 0 [a0] S = T_bits_Reader_Left ctlV Gk (Cn B k) a0 S :=
  (callN_T hB (by kernel_rfl) (by kernel_rfl) (by decide) (by rfl) (by rfl)).trans (t_bits_Reader_Left ctlV Gk (Cn B k) a0 S)
theorem c_mb_Check (B : CallF) (k : Nat) (a0 a1 a2 : AV) (S : Heap) (hB : B f_mb_Check 0 [a0, a1, a2] S = none) : Cn B (k + 1) f_mb_Check 0 [a0, a1, a2] S = T_mb_Check ctlV Gk (Cn B k) a0 a1 a2 S :=
  (callN_T hB (by kernel_rfl) (by kernel_rfl) (by decide) (by rfl) (by rfl)).trans (t_mb_Check ctlV Gk (Cn B k) a0 a1 a2 S)
theorem c_vblock_Fits (B : CallF) (k : Nat) (a0 : AV) (S : Heap) (hB : B f_vblock_Fits 0 [a0] S = none) : Cn B (k + 1) f_vblock_Fits 0 [a0] S = T_vblock_Fits ctlV Gk (Cn B k) a0 S :=
  (callN_T hB (by kernel_rfl) (by kernel_rfl) (by decide) (by rfl) (by rfl)).trans (t_vblock_Fits ctlV Gk (Cn B k) a0 S)
theorem c_bits_Reader_Copy (B : CallF) (k : Nat) (a0 : AV) (S : Heap) (hB : B f_bits_Reader_Copy 0 [a0] S = none) : Cn B (k + 1) f_bits_Reader_Copy 0 [a0] S = T_bits_Reader_Copy ctlV Gk (Cn B k) a0 S :=
  (callN_T hB (by kernel_rfl) (by kernel_rfl) (by decide) (by rfl) (by rfl)).trans (t_bits_Reader_Copy ctlV Gk (Cn B k) a0 S)
theorem c_kinds_Type (B : CallF) (k : Nat) (a0 a1 : AV) (S : Heap) (hB : B f_kinds_Type 0 [a0, a1] S = none) : Cn B (k + 1) f_kinds_Type 0 [a0, a1] S = T_kinds_Type ctlV Gk (Cn B k) a0 a1 S :=
  (callN_T hB (by kernel_rfl) (by kernel_rfl) (by decide) (by rfl) (by rfl)).trans (t_kinds_Type ctlV Gk (Cn B k) a0 a1 S)
theorem c_golomb_PutUe (B : CallF) (k : Nat) (a0 a1 : AV) (S : Heap) (hB : B f_golomb_PutUe 0 [a0, a1] S = none) : Cn B (k + 1) f_golomb_PutUe 0 [a0, a1] S = T_golomb_PutUe ctlV Gk (Cn B k) a0 a1 S :=
  (callN_T hB (by kernel_rfl) (by kernel_rfl) (by decide) (by rfl) (by rfl)).trans (t_golomb_PutUe ctlV Gk (Cn B k) a0 a1 S)
theorem c_vmb_run (B : CallF) (k : Nat) (a0 a1 : AV) (S : Heap) (hB : B f_vmb_run 0 [a0, a1] S = none) : Cn B (k + 1) f_vmb_run 0 [a0, a1] S = T_vmb_run ctlV Gk (Cn B k) a0 a1 S :=
  (callN_T hB (by kernel_rfl) (by kernel_rfl) (by decide) (by rfl) (by rfl)).trans (t_vmb_run ctlV Gk (Cn B k) a0 a1 S)
theorem c_vmb_order (B : CallF) (k : Nat) (a0 a1 a2 a3 a4 a5 a6 a7 a8 : AV) (S : Heap) (hB : B f_vmb_order 0 [a0, a1, a2, a3, a4, a5, a6, a7, a8] S = none) : Cn B (k + 1) f_vmb_order 0 [a0, a1, a2, a3, a4, a5, a6, a7, a8] S = T_vmb_order ctlV Gk (Cn B k) a0 a1 a2 a3 a4 a5 a6 a7 a8 S :=
  (callN_T hB (by kernel_rfl) (by kernel_rfl) (by decide) (by rfl) (by rfl)).trans (t_vmb_order ctlV Gk (Cn B k) a0 a1 a2 a3 a4 a5 a6 a7 a8 S)
theorem c_vmb_writer_pcm (B : CallF) (k : Nat) (a0 a1 : AV) (S : Heap) (hB : B f_vmb_writer_pcm 0 [a0, a1] S = none) : Cn B (k + 1) f_vmb_writer_pcm 0 [a0, a1] S = T_vmb_writer_pcm ctlV Gk (Cn B k) a0 a1 S :=
  (callN_T hB (by kernel_rfl) (by kernel_rfl) (by decide) (by rfl) (by rfl)).trans (t_vmb_writer_pcm ctlV Gk (Cn B k) a0 a1 S)
theorem c_vmb_writer_preds (B : CallF) (k : Nat) (a0 a1 : AV) (S : Heap) (hB : B f_vmb_writer_preds 0 [a0, a1] S = none) : Cn B (k + 1) f_vmb_writer_preds 0 [a0, a1] S = T_vmb_writer_preds ctlV Gk (Cn B k) a0 a1 S :=
  (callN_T hB (by kernel_rfl) (by kernel_rfl) (by decide) (by rfl) (by rfl)).trans (t_vmb_writer_preds ctlV Gk (Cn B k) a0 a1 S)
theorem c_vmb_writer_chroma (B : CallF) (k : Nat) (a0 a1 : AV) (S : Heap) (hB : B f_vmb_writer_chroma 0 [a0, a1] S = none) : Cn B (k + 1) f_vmb_writer_chroma 0 [a0, a1] S = T_vmb_writer_chroma ctlV Gk (Cn B k) a0 a1 S :=
  (callN_T hB (by kernel_rfl) (by kernel_rfl) (by decide) (by rfl) (by rfl)).trans (t_vmb_writer_chroma ctlV Gk (Cn B k) a0 a1 S)
theorem c_vmb_writer_sub (B : CallF) (k : Nat) (a0 a1 : AV) (S : Heap) (hB : B f_vmb_writer_sub 0 [a0, a1] S = none) : Cn B (k + 1) f_vmb_writer_sub 0 [a0, a1] S = T_vmb_writer_sub ctlV Gk (Cn B k) a0 a1 S :=
  (callN_T hB (by kernel_rfl) (by kernel_rfl) (by decide) (by rfl) (by rfl)).trans (t_vmb_writer_sub ctlV Gk (Cn B k) a0 a1 S)
theorem c_vmb_writer_refers (B : CallF) (k : Nat) (a0 a1 : AV) (S : Heap) (hB : B f_vmb_writer_refers 0 [a0, a1] S = none) : Cn B (k + 1) f_vmb_writer_refers 0 [a0, a1] S = T_vmb_writer_refers ctlV Gk (Cn B k) a0 a1 S :=
  (callN_T hB (by kernel_rfl) (by kernel_rfl) (by decide) (by rfl) (by rfl)).trans (t_vmb_writer_refers ctlV Gk (Cn B k) a0 a1 S)
theorem c_vmb_writer_mvds (B : CallF) (k : Nat) (a0 a1 : AV) (S : Heap) (hB : B f_vmb_writer_mvds 0 [a0, a1] S = none) : Cn B (k + 1) f_vmb_writer_mvds 0 [a0, a1] S = T_vmb_writer_mvds ctlV Gk (Cn B k) a0 a1 S :=
  (callN_T hB (by kernel_rfl) (by kernel_rfl) (by decide) (by rfl) (by rfl)).trans (t_vmb_writer_mvds ctlV Gk (Cn B k) a0 a1 S)
theorem c_vmb_writer_cbp (B : CallF) (k : Nat) (a0 a1 : AV) (S : Heap) (hB : B f_vmb_writer_cbp 0 [a0, a1] S = none) : Cn B (k + 1) f_vmb_writer_cbp 0 [a0, a1] S = T_vmb_writer_cbp ctlV Gk (Cn B k) a0 a1 S :=
  (callN_T hB (by kernel_rfl) (by kernel_rfl) (by decide) (by rfl) (by rfl)).trans (t_vmb_writer_cbp ctlV Gk (Cn B k) a0 a1 S)
theorem c_vmb_writer_qp (B : CallF) (k : Nat) (a0 a1 : AV) (S : Heap) (hB : B f_vmb_writer_qp 0 [a0, a1] S = none) : Cn B (k + 1) f_vmb_writer_qp 0 [a0, a1] S = T_vmb_writer_qp ctlV Gk (Cn B k) a0 a1 S :=
  (callN_T hB (by kernel_rfl) (by kernel_rfl) (by decide) (by rfl) (by rfl)).trans (t_vmb_writer_qp ctlV Gk (Cn B k) a0 a1 S)
theorem c_vmb_writer_blocks (B : CallF) (k : Nat) (a0 a1 : AV) (S : Heap) (hB : B f_vmb_writer_blocks 0 [a0, a1] S = none) : Cn B (k + 1) f_vmb_writer_blocks 0 [a0, a1] S = T_vmb_writer_blocks ctlV Gk (Cn B k) a0 a1 S :=
  (callN_T hB (by kernel_rfl) (by kernel_rfl) (by decide) (by rfl) (by rfl)).trans (t_vmb_writer_blocks ctlV Gk (Cn B k) a0 a1 S)
theorem c_spindlekit_CopyInts (B : CallF) (k : Nat) (a0 : AV) (S : Heap) (hB : B f_spindlekit_CopyInts 0 [a0] S = none) : Cn B (k + 1) f_spindlekit_CopyInts 0 [a0] S = T_spindlekit_CopyInts ctlV Gk (Cn B k) a0 S :=
  (callN_T hB (by kernel_rfl) (by kernel_rfl) (by decide) (by rfl) (by rfl)).trans (t_spindlekit_CopyInts ctlV Gk (Cn B k) a0 S)
theorem c_spindlekit_CopyBlocks (B : CallF) (k : Nat) (a0 : AV) (S : Heap) (hB : B f_spindlekit_CopyBlocks 0 [a0] S = none) : Cn B (k + 1) f_spindlekit_CopyBlocks 0 [a0] S = T_spindlekit_CopyBlocks ctlV Gk (Cn B k) a0 S :=
  (callN_T hB (by kernel_rfl) (by kernel_rfl) (by decide) (by rfl) (by rfl)).trans (t_spindlekit_CopyBlocks ctlV Gk (Cn B k) a0 S)
theorem c_vmb_indices (B : CallF) (k : Nat) (a0 a1 : AV) (S : Heap) (hB : B f_vmb_indices 0 [a0, a1] S = none) : Cn B (k + 1) f_vmb_indices 0 [a0, a1] S = T_vmb_indices ctlV Gk (Cn B k) a0 a1 S :=
  (callN_T hB (by kernel_rfl) (by kernel_rfl) (by decide) (by rfl) (by rfl)).trans (t_vmb_indices ctlV Gk (Cn B k) a0 a1 S)
theorem c_golomb_Ue (B : CallF) (k : Nat) (a0 : AV) (S : Heap) (hB : B f_golomb_Ue 0 [a0] S = none) : Cn B (k + 1) f_golomb_Ue 0 [a0] S = T_golomb_Ue ctlV Gk (Cn B k) a0 S :=
  (callN_T hB (by kernel_rfl) (by kernel_rfl) (by decide) (by rfl) (by rfl)).trans (t_golomb_Ue ctlV Gk (Cn B k) a0 S)
theorem c_kinds_Of (B : CallF) (k : Nat) (a0 a1 : AV) (S : Heap) (hB : B f_kinds_Of 0 [a0, a1] S = none) : Cn B (k + 1) f_kinds_Of 0 [a0, a1] S = T_kinds_Of ctlV Gk (Cn B k) a0 a1 S :=
  (callN_T hB (by kernel_rfl) (by kernel_rfl) (by decide) (by rfl) (by rfl)).trans (t_kinds_Of ctlV Gk (Cn B k) a0 a1 S)
theorem c_vmb_reader_pcm (B : CallF) (k : Nat) (a0 a1 : AV) (S : Heap) (hB : B f_vmb_reader_pcm 0 [a0, a1] S = none) : Cn B (k + 1) f_vmb_reader_pcm 0 [a0, a1] S = T_vmb_reader_pcm ctlV Gk (Cn B k) a0 a1 S :=
  (callN_T hB (by kernel_rfl) (by kernel_rfl) (by decide) (by rfl) (by rfl)).trans (t_vmb_reader_pcm ctlV Gk (Cn B k) a0 a1 S)
theorem c_vmb_reader_preds (B : CallF) (k : Nat) (a0 a1 : AV) (S : Heap) (hB : B f_vmb_reader_preds 0 [a0, a1] S = none) : Cn B (k + 1) f_vmb_reader_preds 0 [a0, a1] S = T_vmb_reader_preds ctlV Gk (Cn B k) a0 a1 S :=
  (callN_T hB (by kernel_rfl) (by kernel_rfl) (by decide) (by rfl) (by rfl)).trans (t_vmb_reader_preds ctlV Gk (Cn B k) a0 a1 S)
theorem c_vmb_reader_chroma (B : CallF) (k : Nat) (a0 a1 : AV) (S : Heap) (hB : B f_vmb_reader_chroma 0 [a0, a1] S = none) : Cn B (k + 1) f_vmb_reader_chroma 0 [a0, a1] S = T_vmb_reader_chroma ctlV Gk (Cn B k) a0 a1 S :=
  (callN_T hB (by kernel_rfl) (by kernel_rfl) (by decide) (by rfl) (by rfl)).trans (t_vmb_reader_chroma ctlV Gk (Cn B k) a0 a1 S)
theorem c_vmb_reader_sub (B : CallF) (k : Nat) (a0 a1 : AV) (S : Heap) (hB : B f_vmb_reader_sub 0 [a0, a1] S = none) : Cn B (k + 1) f_vmb_reader_sub 0 [a0, a1] S = T_vmb_reader_sub ctlV Gk (Cn B k) a0 a1 S :=
  (callN_T hB (by kernel_rfl) (by kernel_rfl) (by decide) (by rfl) (by rfl)).trans (t_vmb_reader_sub ctlV Gk (Cn B k) a0 a1 S)
theorem c_vmb_reader_refers (B : CallF) (k : Nat) (a0 a1 : AV) (S : Heap) (hB : B f_vmb_reader_refers 0 [a0, a1] S = none) : Cn B (k + 1) f_vmb_reader_refers 0 [a0, a1] S = T_vmb_reader_refers ctlV Gk (Cn B k) a0 a1 S :=
  (callN_T hB (by kernel_rfl) (by kernel_rfl) (by decide) (by rfl) (by rfl)).trans (t_vmb_reader_refers ctlV Gk (Cn B k) a0 a1 S)
theorem c_vmb_reader_mvds (B : CallF) (k : Nat) (a0 a1 : AV) (S : Heap) (hB : B f_vmb_reader_mvds 0 [a0, a1] S = none) : Cn B (k + 1) f_vmb_reader_mvds 0 [a0, a1] S = T_vmb_reader_mvds ctlV Gk (Cn B k) a0 a1 S :=
  (callN_T hB (by kernel_rfl) (by kernel_rfl) (by decide) (by rfl) (by rfl)).trans (t_vmb_reader_mvds ctlV Gk (Cn B k) a0 a1 S)
theorem c_vmb_reader_cbp (B : CallF) (k : Nat) (a0 a1 : AV) (S : Heap) (hB : B f_vmb_reader_cbp 0 [a0, a1] S = none) : Cn B (k + 1) f_vmb_reader_cbp 0 [a0, a1] S = T_vmb_reader_cbp ctlV Gk (Cn B k) a0 a1 S :=
  (callN_T hB (by kernel_rfl) (by kernel_rfl) (by decide) (by rfl) (by rfl)).trans (t_vmb_reader_cbp ctlV Gk (Cn B k) a0 a1 S)
theorem c_vmb_reader_qp (B : CallF) (k : Nat) (a0 a1 : AV) (S : Heap) (hB : B f_vmb_reader_qp 0 [a0, a1] S = none) : Cn B (k + 1) f_vmb_reader_qp 0 [a0, a1] S = T_vmb_reader_qp ctlV Gk (Cn B k) a0 a1 S :=
  (callN_T hB (by kernel_rfl) (by kernel_rfl) (by decide) (by rfl) (by rfl)).trans (t_vmb_reader_qp ctlV Gk (Cn B k) a0 a1 S)
theorem c_vmb_reader_blocks (B : CallF) (k : Nat) (a0 a1 : AV) (S : Heap) (hB : B f_vmb_reader_blocks 0 [a0, a1] S = none) : Cn B (k + 1) f_vmb_reader_blocks 0 [a0, a1] S = T_vmb_reader_blocks ctlV Gk (Cn B k) a0 a1 S :=
  (callN_T hB (by kernel_rfl) (by kernel_rfl) (by decide) (by rfl) (by rfl)).trans (t_vmb_reader_blocks ctlV Gk (Cn B k) a0 a1 S)
theorem c_spindlekit_EqualInts (B : CallF) (k : Nat) (a0 a1 : AV) (S : Heap) (hB : B f_spindlekit_EqualInts 0 [a0, a1] S = none) : Cn B (k + 1) f_spindlekit_EqualInts 0 [a0, a1] S = T_spindlekit_EqualInts ctlV Gk (Cn B k) a0 a1 S :=
  (callN_T hB (by kernel_rfl) (by kernel_rfl) (by decide) (by rfl) (by rfl)).trans (t_spindlekit_EqualInts ctlV Gk (Cn B k) a0 a1 S)
theorem c_spindlekit_EqualVecs (B : CallF) (k : Nat) (a0 a1 : AV) (S : Heap) (hB : B f_spindlekit_EqualVecs 0 [a0, a1] S = none) : Cn B (k + 1) f_spindlekit_EqualVecs 0 [a0, a1] S = T_spindlekit_EqualVecs ctlV Gk (Cn B k) a0 a1 S :=
  (callN_T hB (by kernel_rfl) (by kernel_rfl) (by decide) (by rfl) (by rfl)).trans (t_spindlekit_EqualVecs ctlV Gk (Cn B k) a0 a1 S)
theorem c_spindlekit_EqualBlocks (B : CallF) (k : Nat) (a0 a1 : AV) (S : Heap) (hB : B f_spindlekit_EqualBlocks 0 [a0, a1] S = none) : Cn B (k + 1) f_spindlekit_EqualBlocks 0 [a0, a1] S = T_spindlekit_EqualBlocks ctlV Gk (Cn B k) a0 a1 S :=
  (callN_T hB (by kernel_rfl) (by kernel_rfl) (by decide) (by rfl) (by rfl)).trans (t_spindlekit_EqualBlocks ctlV Gk (Cn B k) a0 a1 S)
theorem c_kinds_Intra (B : CallF) (k : Nat) (a0 : AV) (S : Heap) (hB : B f_kinds_Intra 0 [a0] S = none) : Cn B (k + 1) f_kinds_Intra 0 [a0] S = T_kinds_Intra ctlV Gk (Cn B k) a0 S :=
  (callN_T hB (by kernel_rfl) (by kernel_rfl) (by decide) (by rfl) (by rfl)).trans (t_kinds_Intra ctlV Gk (Cn B k) a0 S)
theorem c_kinds_Parts (B : CallF) (k : Nat) (a0 : AV) (S : Heap) (hB : B f_kinds_Parts 0 [a0] S = none) : Cn B (k + 1) f_kinds_Parts 0 [a0] S = T_kinds_Parts ctlV Gk (Cn B k) a0 S :=
  (callN_T hB (by kernel_rfl) (by kernel_rfl) (by decide) (by rfl) (by rfl)).trans (t_kinds_Parts ctlV Gk (Cn B k) a0 S)
theorem c_mb_one_uint8 (B : CallF) (k : Nat) (a0 a1 a2 : AV) (S : Heap) (hB : B f_mb_one_uint8 0 [a0, a1, a2] S = none) : Cn B (k + 1) f_mb_one_uint8 0 [a0, a1, a2] S = T_mb_one_uint8 ctlV Gk (Cn B k) a0 a1 a2 S :=
  (callN_T hB (by kernel_rfl) (by kernel_rfl) (by decide) (by rfl) (by rfl)).trans (t_mb_one_uint8 ctlV Gk (Cn B k) a0 a1 a2 S)
theorem c_mb_Check_1 (B : CallF) (k : Nat) (a0 : AV) (S : Heap) (hB : B f_mb_Check_1 0 [a0] S = none) : Cn B (k + 1) f_mb_Check_1 0 [a0] S = T_mb_Check_1 ctlV Gk (Cn B k) a0 S :=
  (callN_T hB (by kernel_rfl) (by kernel_rfl) (by decide) (by rfl) (by rfl)).trans (t_mb_Check_1 ctlV Gk (Cn B k) a0 S)
theorem c_mb_ranged_uint8 (B : CallF) (k : Nat) (a0 a1 a2 a3 : AV) (S : Heap) (hB : B f_mb_ranged_uint8 0 [a0, a1, a2, a3] S = none) : Cn B (k + 1) f_mb_ranged_uint8 0 [a0, a1, a2, a3] S = T_mb_ranged_uint8 ctlV Gk (Cn B k) a0 a1 a2 a3 S :=
  (callN_T hB (by kernel_rfl) (by kernel_rfl) (by decide) (by rfl) (by rfl)).trans (t_mb_ranged_uint8 ctlV Gk (Cn B k) a0 a1 a2 a3 S)
theorem c_mb_Check_2 (B : CallF) (k : Nat) (a0 : AV) (S : Heap) (hB : B f_mb_Check_2 0 [a0] S = none) : Cn B (k + 1) f_mb_Check_2 0 [a0] S = T_mb_Check_2 ctlV Gk (Cn B k) a0 S :=
  (callN_T hB (by kernel_rfl) (by kernel_rfl) (by decide) (by rfl) (by rfl)).trans (t_mb_Check_2 ctlV Gk (Cn B k) a0 S)
theorem c_mb_Check_3 (B : CallF) (k : Nat) (a0 a1 : AV) (S : Heap) (hB : B f_mb_Check_3 0 [a0, a1] S = none) : Cn B (k + 1) f_mb_Check_3 0 [a0, a1] S = T_mb_Check_3 ctlV Gk (Cn B k) a0 a1 S :=
  (callN_T hB (by kernel_rfl) (by kernel_rfl) (by decide) (by rfl) (by rfl)).trans (t_mb_Check_3 ctlV Gk (Cn B k) a0 a1 S)
theorem c_mb_ranged_int (B : CallF) (k : Nat) (a0 a1 a2 a3 : AV) (S : Heap) (hB : B f_mb_ranged_int 0 [a0, a1, a2, a3] S = none) : Cn B (k + 1) f_mb_ranged_int 0 [a0, a1, a2, a3] S = T_mb_ranged_int ctlV Gk (Cn B k) a0 a1 a2 a3 S :=
  (callN_T hB (by kernel_rfl) (by kernel_rfl) (by decide) (by rfl) (by rfl)).trans (t_mb_ranged_int ctlV Gk (Cn B k) a0 a1 a2 a3 S)
theorem c_mb_Check_4 (B : CallF) (k : Nat) (a0 : AV) (S : Heap) (hB : B f_mb_Check_4 0 [a0] S = none) : Cn B (k + 1) f_mb_Check_4 0 [a0] S = T_mb_Check_4 ctlV Gk (Cn B k) a0 S :=
  (callN_T hB (by kernel_rfl) (by kernel_rfl) (by decide) (by rfl) (by rfl)).trans (t_mb_Check_4 ctlV Gk (Cn B k) a0 S)
theorem c_mb_vectors (B : CallF) (k : Nat) (a0 : AV) (S : Heap) (hB : B f_mb_vectors 0 [a0] S = none) : Cn B (k + 1) f_mb_vectors 0 [a0] S = T_mb_vectors ctlV Gk (Cn B k) a0 S :=
  (callN_T hB (by kernel_rfl) (by kernel_rfl) (by decide) (by rfl) (by rfl)).trans (t_mb_vectors ctlV Gk (Cn B k) a0 S)
theorem c_mb_coded (B : CallF) (k : Nat) (a0 : AV) (S : Heap) (hB : B f_mb_coded 0 [a0] S = none) : Cn B (k + 1) f_mb_coded 0 [a0] S = T_mb_coded ctlV Gk (Cn B k) a0 S :=
  (callN_T hB (by kernel_rfl) (by kernel_rfl) (by decide) (by rfl) (by rfl)).trans (t_mb_coded ctlV Gk (Cn B k) a0 S)
theorem c_mb_Check_5 (B : CallF) (k : Nat) (a0 : AV) (S : Heap) (hB : B f_mb_Check_5 0 [a0] S = none) : Cn B (k + 1) f_mb_Check_5 0 [a0] S = T_mb_Check_5 ctlV Gk (Cn B k) a0 S :=
  (callN_T hB (by kernel_rfl) (by kernel_rfl) (by decide) (by rfl) (by rfl)).trans (t_mb_Check_5 ctlV Gk (Cn B k) a0 S)
theorem c_mb_cbp (B : CallF) (k : Nat) (a0 : AV) (S : Heap) (hB : B f_mb_cbp 0 [a0] S = none) : Cn B (k + 1) f_mb_cbp 0 [a0] S = T_mb_cbp ctlV Gk (Cn B k) a0 S :=
  (callN_T hB (by kernel_rfl) (by kernel_rfl) (by decide) (by rfl) (by rfl)).trans (t_mb_cbp ctlV Gk (Cn B k) a0 S)
theorem c_mb_one_int (B : CallF) (k : Nat) (a0 a1 a2 : AV) (S : Heap) (hB : B f_mb_one_int 0 [a0, a1, a2] S = none) : Cn B (k + 1) f_mb_one_int 0 [a0, a1, a2] S = T_mb_one_int ctlV Gk (Cn B k) a0 a1 a2 S :=
  (callN_T hB (by kernel_rfl) (by kernel_rfl) (by decide) (by rfl) (by rfl)).trans (t_mb_one_int ctlV Gk (Cn B k) a0 a1 a2 S)
theorem c_mb_Check_6 (B : CallF) (k : Nat) (a0 : AV) (S : Heap) (hB : B f_mb_Check_6 0 [a0] S = none) : Cn B (k + 1) f_mb_Check_6 0 [a0] S = T_mb_Check_6 ctlV Gk (Cn B k) a0 S :=
  (callN_T hB (by kernel_rfl) (by kernel_rfl) (by decide) (by rfl) (by rfl)).trans (t_mb_Check_6 ctlV Gk (Cn B k) a0 S)
theorem c_mb_blocks (B : CallF) (k : Nat) (a0 : AV) (S : Heap) (hB : B f_mb_blocks 0 [a0] S = none) : Cn B (k + 1) f_mb_blocks 0 [a0] S = T_mb_blocks ctlV Gk (Cn B k) a0 S :=
  (callN_T hB (by kernel_rfl) (by kernel_rfl) (by decide) (by rfl) (by rfl)).trans (t_mb_blocks ctlV Gk (Cn B k) a0 S)
theorem c_mb_Check_7 (B : CallF) (k : Nat) (a0 : AV) (S : Heap) (hB : B f_mb_Check_7 0 [a0] S = none) : Cn B (k + 1) f_mb_Check_7 0 [a0] S = T_mb_Check_7 ctlV Gk (Cn B k) a0 S :=
  (callN_T hB (by kernel_rfl) (by kernel_rfl) (by decide) (by rfl) (by rfl)).trans (t_mb_Check_7 ctlV Gk (Cn B k) a0 S)
theorem c_vblock_Put (B : CallF) (k : Nat) (a0 a1 a2 : AV) (S : Heap) (hB : B f_vblock_Put 0 [a0, a1, a2] S = none) : Cn B (k + 1) f_vblock_Put 0 [a0, a1, a2] S = T_vblock_Put ctlV Gk (Cn B k) a0 a1 a2 S :=
  (callN_T hB (by kernel_rfl) (by kernel_rfl) (by decide) (by rfl) (by rfl)).trans (t_vblock_Put ctlV Gk (Cn B k) a0 a1 a2 S)
theorem c_math_bits_Len64 (B : CallF) (k : Nat) (a0 : AV) (S : Heap) (hB : B f_math_bits_Len64 0 [a0] S = none) : Cn B (k + 1) f_math_bits_Len64 0 [a0] S = T_math_bits_Len64 ctlV Gk (Cn B k) a0 S :=
  (callN_T hB (by kernel_rfl) (by kernel_rfl) (by decide) (by rfl) (by rfl)).trans (t_math_bits_Len64 ctlV Gk (Cn B k) a0 S)
theorem c_vmb_order_1 (B : CallF) (k : Nat) (a0 : AV) (S : Heap) (hB : B f_vmb_order_1 0 [a0] S = none) : Cn B (k + 1) f_vmb_order_1 0 [a0] S = T_vmb_order_1 ctlV Gk (Cn B k) a0 S :=
  (callN_T hB (by kernel_rfl) (by kernel_rfl) (by decide) (by rfl) (by rfl)).trans (t_vmb_order_1 ctlV Gk (Cn B k) a0 S)
theorem c_vmb_order_1_1 (B : CallF) (k : Nat) (a0 a1 : AV) (S : Heap) (hB : B f_vmb_order_1_1 0 [a0, a1] S = none) : Cn B (k + 1) f_vmb_order_1_1 0 [a0, a1] S = T_vmb_order_1_1 ctlV Gk (Cn B k) a0 a1 S :=
  (callN_T hB (by kernel_rfl) (by kernel_rfl) (by decide) (by rfl) (by rfl)).trans (t_vmb_order_1_1 ctlV Gk (Cn B k) a0 a1 S)
theorem c_vmb_order_2 (B : CallF) (k : Nat) (a0 : AV) (S : Heap) (hB : B f_vmb_order_2 0 [a0] S = none) : Cn B (k + 1) f_vmb_order_2 0 [a0] S = T_vmb_order_2 ctlV Gk (Cn B k) a0 S :=
  (callN_T hB (by kernel_rfl) (by kernel_rfl) (by decide) (by rfl) (by rfl)).trans (t_vmb_order_2 ctlV Gk (Cn B k) a0 S)
theorem c_vmb_order_3 (B : CallF) (k : Nat) (a0 : AV) (S : Heap) (hB : B f_vmb_order_3 0 [a0] S = none) : Cn B (k + 1) f_vmb_order_3 0 [a0] S = T_vmb_order_3 ctlV Gk (Cn B k) a0 S :=
  (callN_T hB (by kernel_rfl) (by kernel_rfl) (by decide) (by rfl) (by rfl)).trans (t_vmb_order_3 ctlV Gk (Cn B k) a0 S)
theorem c_vmb_order_4 (B : CallF) (k : Nat) (a0 a1 : AV) (S : Heap) (hB : B f_vmb_order_4 0 [a0, a1] S = none) : Cn B (k + 1) f_vmb_order_4 0 [a0, a1] S = T_vmb_order_4 ctlV Gk (Cn B k) a0 a1 S :=
  (callN_T hB (by kernel_rfl) (by kernel_rfl) (by decide) (by rfl) (by rfl)).trans (t_vmb_order_4 ctlV Gk (Cn B k) a0 a1 S)
theorem c_vmb_order_5 (B : CallF) (k : Nat) (a0 a1 : AV) (S : Heap) (hB : B f_vmb_order_5 0 [a0, a1] S = none) : Cn B (k + 1) f_vmb_order_5 0 [a0, a1] S = T_vmb_order_5 ctlV Gk (Cn B k) a0 a1 S :=
  (callN_T hB (by kernel_rfl) (by kernel_rfl) (by decide) (by rfl) (by rfl)).trans (t_vmb_order_5 ctlV Gk (Cn B k) a0 a1 S)
theorem c_golomb_PutTe (B : CallF) (k : Nat) (a0 a1 a2 : AV) (S : Heap) (hB : B f_golomb_PutTe 0 [a0, a1, a2] S = none) : Cn B (k + 1) f_golomb_PutTe 0 [a0, a1, a2] S = T_golomb_PutTe ctlV Gk (Cn B k) a0 a1 a2 S :=
  (callN_T hB (by kernel_rfl) (by kernel_rfl) (by decide) (by rfl) (by rfl)).trans (t_golomb_PutTe ctlV Gk (Cn B k) a0 a1 a2 S)
theorem c_golomb_PutSe (B : CallF) (k : Nat) (a0 a1 : AV) (S : Heap) (hB : B f_golomb_PutSe 0 [a0, a1] S = none) : Cn B (k + 1) f_golomb_PutSe 0 [a0, a1] S = T_golomb_PutSe ctlV Gk (Cn B k) a0 a1 S :=
  (callN_T hB (by kernel_rfl) (by kernel_rfl) (by decide) (by rfl) (by rfl)).trans (t_golomb_PutSe ctlV Gk (Cn B k) a0 a1 S)
theorem c_mb_Blocks (B : CallF) (k : Nat) (a0 : AV) (S : Heap) (hB : B f_mb_Blocks 0 [a0] S = none) : Cn B (k + 1) f_mb_Blocks 0 [a0] S = T_mb_Blocks ctlV Gk (Cn B k) a0 S :=
  (callN_T hB (by kernel_rfl) (by kernel_rfl) (by decide) (by rfl) (by rfl)).trans (t_mb_Blocks ctlV Gk (Cn B k) a0 S)
theorem c_count_Class (B : CallF) (k : Nat) (a0 a1 a2 : AV) (S : Heap) (hB : B f_count_Class 0 [a0, a1, a2] S = none) : Cn B (k + 1) f_count_Class 0 [a0, a1, a2] S = T_count_Class ctlV Gk (Cn B k) a0 a1 a2 S :=
  (callN_T hB (by kernel_rfl) (by kernel_rfl) (by decide) (by rfl) (by rfl)).trans (t_count_Class ctlV Gk (Cn B k) a0 a1 a2 S)
theorem c_golomb_length (B : CallF) (k : Nat) (a0 : AV) (S : Heap) (hB : B f_golomb_length 0 [a0] S = none) : Cn B (k + 1) f_golomb_length 0 [a0] S = T_golomb_length ctlV Gk (Cn B k) a0 S :=
  (callN_T hB (by kernel_rfl) (by kernel_rfl) (by decide) (by rfl) (by rfl)).trans (t_golomb_length ctlV Gk (Cn B k) a0 S)
theorem c_vmb_reader_part (B : CallF) (k : Nat) (a0 : AV) (S : Heap) (hB : B f_vmb_reader_part 0 [a0] S = none) : Cn B (k + 1) f_vmb_reader_part 0 [a0] S = T_vmb_reader_part ctlV Gk (Cn B k) a0 S :=
  (callN_T hB (by kernel_rfl) (by kernel_rfl) (by decide) (by rfl) (by rfl)).trans (t_vmb_reader_part ctlV Gk (Cn B k) a0 S)
theorem c_golomb_Te (B : CallF) (k : Nat) (a0 a1 : AV) (S : Heap) (hB : B f_golomb_Te 0 [a0, a1] S = none) : Cn B (k + 1) f_golomb_Te 0 [a0, a1] S = T_golomb_Te ctlV Gk (Cn B k) a0 a1 S :=
  (callN_T hB (by kernel_rfl) (by kernel_rfl) (by decide) (by rfl) (by rfl)).trans (t_golomb_Te ctlV Gk (Cn B k) a0 a1 S)
theorem c_kinds_Pieces (B : CallF) (k : Nat) (a0 a1 : AV) (S : Heap) (hB : B f_kinds_Pieces 0 [a0, a1] S = none) : Cn B (k + 1) f_kinds_Pieces 0 [a0, a1] S = T_kinds_Pieces ctlV Gk (Cn B k) a0 a1 S :=
  (callN_T hB (by kernel_rfl) (by kernel_rfl) (by decide) (by rfl) (by rfl)).trans (t_kinds_Pieces ctlV Gk (Cn B k) a0 a1 S)
theorem c_vmb_reader_signed (B : CallF) (k : Nat) (a0 a1 a2 : AV) (S : Heap) (hB : B f_vmb_reader_signed 0 [a0, a1, a2] S = none) : Cn B (k + 1) f_vmb_reader_signed 0 [a0, a1, a2] S = T_vmb_reader_signed ctlV Gk (Cn B k) a0 a1 a2 S :=
  (callN_T hB (by kernel_rfl) (by kernel_rfl) (by decide) (by rfl) (by rfl)).trans (t_vmb_reader_signed ctlV Gk (Cn B k) a0 a1 a2 S)
theorem c_mb_Size (B : CallF) (k : Nat) (a0 : AV) (S : Heap) (hB : B f_mb_Size 0 [a0] S = none) : Cn B (k + 1) f_mb_Size 0 [a0] S = T_mb_Size ctlV Gk (Cn B k) a0 S :=
  (callN_T hB (by kernel_rfl) (by kernel_rfl) (by decide) (by rfl) (by rfl)).trans (t_mb_Size ctlV Gk (Cn B k) a0 S)
theorem c_vblock_Read (B : CallF) (k : Nat) (a0 a1 a2 : AV) (S : Heap) (hB : B f_vblock_Read 0 [a0, a1, a2] S = none) : Cn B (k + 1) f_vblock_Read 0 [a0, a1, a2] S = T_vblock_Read ctlV Gk (Cn B k) a0 a1 a2 S :=
  (callN_T hB (by kernel_rfl) (by kernel_rfl) (by decide) (by rfl) (by rfl)).trans (t_vblock_Read ctlV Gk (Cn B k) a0 a1 a2 S)
theorem c_mb_Copy (B : CallF) (k : Nat) (a0 : AV) (S : Heap) (hB : B f_mb_Copy 0 [a0] S = none) : Cn B (k + 1) f_mb_Copy 0 [a0] S = T_mb_Copy ctlV Gk (Cn B k) a0 S :=
  (callN_T hB (by kernel_rfl) (by kernel_rfl) (by decide) (by rfl) (by rfl)).trans (t_mb_Copy ctlV Gk (Cn B k) a0 S)
theorem c_mb_one_uint8_1 (B : CallF) (k : Nat) (a0 a1 a2 : AV) (S : Heap) (hB : B f_mb_one_uint8_1 0 [a0, a1, a2] S = none) : Cn B (k + 1) f_mb_one_uint8_1 0 [a0, a1, a2] S = T_mb_one_uint8_1 ctlV Gk (Cn B k) a0 a1 a2 S :=
  (callN_T hB (by kernel_rfl) (by kernel_rfl) (by decide) (by rfl) (by rfl)).trans (t_mb_one_uint8_1 ctlV Gk (Cn B k) a0 a1 a2 S)
theorem c_mb_one_int_1 (B : CallF) (k : Nat) (a0 a1 a2 : AV) (S : Heap) (hB : B f_mb_one_int_1 0 [a0, a1, a2] S = none) : Cn B (k + 1) f_mb_one_int_1 0 [a0, a1, a2] S = T_mb_one_int_1 ctlV Gk (Cn B k) a0 a1 a2 S :=
  (callN_T hB (by kernel_rfl) (by kernel_rfl) (by decide) (by rfl) (by rfl)).trans (t_mb_one_int_1 ctlV Gk (Cn B k) a0 a1 a2 S)
theorem c_vblock_sized (B : CallF) (k : Nat) (a0 : AV) (S : Heap) (hB : B f_vblock_sized 0 [a0] S = none) : Cn B (k + 1) f_vblock_sized 0 [a0] S = T_vblock_sized ctlV Gk (Cn B k) a0 S :=
  (callN_T hB (by kernel_rfl) (by kernel_rfl) (by decide) (by rfl) (by rfl)).trans (t_vblock_sized ctlV Gk (Cn B k) a0 S)
theorem c_runs_Of (B : CallF) (k : Nat) (a0 : AV) (S : Heap) (hB : B f_runs_Of 0 [a0] S = none) : Cn B (k + 1) f_runs_Of 0 [a0] S = T_runs_Of ctlV Gk (Cn B k) a0 S :=
  (callN_T hB (by kernel_rfl) (by kernel_rfl) (by decide) (by rfl) (by rfl)).trans (t_runs_Of ctlV Gk (Cn B k) a0 S)
theorem c_vblock_write (B : CallF) (k : Nat) (a0 a1 a2 a3 : AV) (S : Heap) (hB : B f_vblock_write 0 [a0, a1, a2, a3] S = none) : Cn B (k + 1) f_vblock_write 0 [a0, a1, a2, a3] S = T_vblock_write ctlV Gk (Cn B k) a0 a1 a2 a3 S :=
  (callN_T hB (by kernel_rfl) (by kernel_rfl) (by decide) (by rfl) (by rfl)).trans (t_vblock_write ctlV Gk (Cn B k) a0 a1 a2 a3 S)
theorem c_count_Class_1 (B : CallF) (k : Nat) (a0 a1 a2 a3 a4 a5 a6 : AV) (S : Heap) (hB : B f_count_Class_1 0 [a0, a1, a2, a3, a4, a5, a6] S = none) : Cn B (k + 1) f_count_Class_1 0 [a0, a1, a2, a3, a4, a5, a6] S = T_count_Class_1 ctlV Gk (Cn B k) a0 a1 a2 a3 a4 a5 a6 S :=
  (callN_T hB (by kernel_rfl) (by kernel_rfl) (by decide) (by rfl) (by rfl)).trans (t_count_Class_1 ctlV Gk (Cn B k) a0 a1 a2 a3 a4 a5 a6 S)
theorem c_count_Total (B : CallF) (k : Nat) (a0 a1 : AV) (S : Heap) (hB : B f_count_Total 0 [a0, a1] S = none) : Cn B (k + 1) f_count_Total 0 [a0, a1] S = T_count_Total ctlV Gk (Cn B k) a0 a1 S :=
  (callN_T hB (by kernel_rfl) (by kernel_rfl) (by decide) (by rfl) (by rfl)).trans (t_count_Total ctlV Gk (Cn B k) a0 a1 S)
theorem c_place_Left (B : CallF) (k : Nat) (a0 : AV) (S : Heap) (hB : B f_place_Left 0 [a0] S = none) : Cn B (k + 1) f_place_Left 0 [a0] S = T_place_Left ctlV Gk (Cn B k) a0 S :=
  (callN_T hB (by kernel_rfl) (by kernel_rfl) (by decide) (by rfl) (by rfl)).trans (t_place_Left ctlV Gk (Cn B k) a0 S)
theorem c_place_ChLeft (B : CallF) (k : Nat) (a0 : AV) (S : Heap) (hB : B f_place_ChLeft 0 [a0] S = none) : Cn B (k + 1) f_place_ChLeft 0 [a0] S = T_place_ChLeft ctlV Gk (Cn B k) a0 S :=
  (callN_T hB (by kernel_rfl) (by kernel_rfl) (by decide) (by rfl) (by rfl)).trans (t_place_ChLeft ctlV Gk (Cn B k) a0 S)
theorem c_near_Near_Left (B : CallF) (k : Nat) (a0 : AV) (S : Heap) (hB : B f_near_Near_Left 0 [a0] S = none) : Cn B (k + 1) f_near_Near_Left 0 [a0] S = T_near_Near_Left ctlV Gk (Cn B k) a0 S :=
  (callN_T hB (by kernel_rfl) (by kernel_rfl) (by decide) (by rfl) (by rfl)).trans (t_near_Near_Left ctlV Gk (Cn B k) a0 S)
theorem c_place_Above (B : CallF) (k : Nat) (a0 : AV) (S : Heap) (hB : B f_place_Above 0 [a0] S = none) : Cn B (k + 1) f_place_Above 0 [a0] S = T_place_Above ctlV Gk (Cn B k) a0 S :=
  (callN_T hB (by kernel_rfl) (by kernel_rfl) (by decide) (by rfl) (by rfl)).trans (t_place_Above ctlV Gk (Cn B k) a0 S)
theorem c_place_ChAbove (B : CallF) (k : Nat) (a0 : AV) (S : Heap) (hB : B f_place_ChAbove 0 [a0] S = none) : Cn B (k + 1) f_place_ChAbove 0 [a0] S = T_place_ChAbove ctlV Gk (Cn B k) a0 S :=
  (callN_T hB (by kernel_rfl) (by kernel_rfl) (by decide) (by rfl) (by rfl)).trans (t_place_ChAbove ctlV Gk (Cn B k) a0 S)
theorem c_near_Near_Above (B : CallF) (k : Nat) (a0 : AV) (S : Heap) (hB : B f_near_Near_Above 0 [a0] S = none) : Cn B (k + 1) f_near_Near_Above 0 [a0] S = T_near_Near_Above ctlV Gk (Cn B k) a0 S :=
  (callN_T hB (by kernel_rfl) (by kernel_rfl) (by decide) (by rfl) (by rfl)).trans (t_near_Near_Above ctlV Gk (Cn B k) a0 S)
theorem c_kinds_parts (B : CallF) (k : Nat) (a0 a1 : AV) (S : Heap) (hB : B f_kinds_parts 0 [a0, a1] S = none) : Cn B (k + 1) f_kinds_parts 0 [a0, a1] S = T_kinds_parts ctlV Gk (Cn B k) a0 a1 S :=
  (callN_T hB (by kernel_rfl) (by kernel_rfl) (by decide) (by rfl) (by rfl)).trans (t_kinds_parts ctlV Gk (Cn B k) a0 a1 S)
theorem c_golomb_Se (B : CallF) (k : Nat) (a0 : AV) (S : Heap) (hB : B f_golomb_Se 0 [a0] S = none) : Cn B (k + 1) f_golomb_Se 0 [a0] S = T_golomb_Se ctlV Gk (Cn B k) a0 S :=
  (callN_T hB (by kernel_rfl) (by kernel_rfl) (by decide) (by rfl) (by rfl)).trans (t_golomb_Se ctlV Gk (Cn B k) a0 S)
theorem c_vblock_Read_1 (B : CallF) (k : Nat) (a0 a1 a2 a3 : AV) (S : Heap) (hB : B f_vblock_Read_1 0 [a0, a1, a2, a3] S = none) : Cn B (k + 1) f_vblock_Read_1 0 [a0, a1, a2, a3] S = T_vblock_Read_1 ctlV Gk (Cn B k) a0 a1 a2 a3 S :=
  (callN_T hB (by kernel_rfl) (by kernel_rfl) (by decide) (by rfl) (by rfl)).trans (t_vblock_Read_1 ctlV Gk (Cn B k) a0 a1 a2 a3 S)
theorem c_vblock_skip (B : CallF) (k : Nat) (a0 a1 : AV) (S : Heap) (hB : B f_vblock_skip 0 [a0, a1] S = none) : Cn B (k + 1) f_vblock_skip 0 [a0, a1] S = T_vblock_skip ctlV Gk (Cn B k) a0 a1 S :=
  (callN_T hB (by kernel_rfl) (by kernel_rfl) (by decide) (by rfl) (by rfl)).trans (t_vblock_skip ctlV Gk (Cn B k) a0 a1 S)
theorem c_vlc_Token (B : CallF) (k : Nat) (a0 a1 a2 : AV) (S : Heap) (hB : B f_vlc_Token 0 [a0, a1, a2] S = none) : Cn B (k + 1) f_vlc_Token 0 [a0, a1, a2] S = T_vlc_Token ctlV Gk (Cn B k) a0 a1 a2 S :=
  (callN_T hB (by kernel_rfl) (by kernel_rfl) (by decide) (by rfl) (by rfl)).trans (t_vlc_Token ctlV Gk (Cn B k) a0 a1 a2 S)
theorem c_vblock_levels (B : CallF) (k : Nat) (a0 a1 a2 : AV) (S : Heap) (hB : B f_vblock_levels 0 [a0, a1, a2] S = none) : Cn B (k + 1) f_vblock_levels 0 [a0, a1, a2] S = T_vblock_levels ctlV Gk (Cn B k) a0 a1 a2 S :=
  (callN_T hB (by kernel_rfl) (by kernel_rfl) (by decide) (by rfl) (by rfl)).trans (t_vblock_levels ctlV Gk (Cn B k) a0 a1 a2 S)
theorem c_vlc_Zeros (B : CallF) (k : Nat) (a0 a1 a2 : AV) (S : Heap) (hB : B f_vlc_Zeros 0 [a0, a1, a2] S = none) : Cn B (k + 1) f_vlc_Zeros 0 [a0, a1, a2] S = T_vlc_Zeros ctlV Gk (Cn B k) a0 a1 a2 S :=
  (callN_T hB (by kernel_rfl) (by kernel_rfl) (by decide) (by rfl) (by rfl)).trans (t_vlc_Zeros ctlV Gk (Cn B k) a0 a1 a2 S)
theorem c_vlc_Run (B : CallF) (k : Nat) (a0 a1 : AV) (S : Heap) (hB : B f_vlc_Run 0 [a0, a1] S = none) : Cn B (k + 1) f_vlc_Run 0 [a0, a1] S = T_vlc_Run ctlV Gk (Cn B k) a0 a1 S :=
  (callN_T hB (by kernel_rfl) (by kernel_rfl) (by decide) (by rfl) (by rfl)).trans (t_vlc_Run ctlV Gk (Cn B k) a0 a1 S)
theorem c_runs_Block (B : CallF) (k : Nat) (a0 a1 : AV) (S : Heap) (hB : B f_runs_Block 0 [a0, a1] S = none) : Cn B (k + 1) f_runs_Block 0 [a0, a1] S = T_runs_Block ctlV Gk (Cn B k) a0 a1 S :=
  (callN_T hB (by kernel_rfl) (by kernel_rfl) (by decide) (by rfl) (by rfl)).trans (t_runs_Block ctlV Gk (Cn B k) a0 a1 S)
theorem c_slices_Clone_int_int (B : CallF) (k : Nat) (a0 : AV) (S : Heap) (hB : B f_slices_Clone_int_int 0 [a0] S = none) : Cn B (k + 1) f_slices_Clone_int_int 0 [a0] S = T_slices_Clone_int_int ctlV Gk (Cn B k) a0 S :=
  (callN_T hB (by kernel_rfl) (by kernel_rfl) (by decide) (by rfl) (by rfl)).trans (t_slices_Clone_int_int ctlV Gk (Cn B k) a0 S)
theorem c_slices_Clone_api_Vec_api_Vec (B : CallF) (k : Nat) (a0 : AV) (S : Heap) (hB : B f_slices_Clone_api_Vec_api_Vec 0 [a0] S = none) : Cn B (k + 1) f_slices_Clone_api_Vec_api_Vec 0 [a0] S = T_slices_Clone_api_Vec_api_Vec ctlV Gk (Cn B k) a0 S :=
  (callN_T hB (by kernel_rfl) (by kernel_rfl) (by decide) (by rfl) (by rfl)).trans (t_slices_Clone_api_Vec_api_Vec ctlV Gk (Cn B k) a0 S)
theorem c_slices_Clone_int_int_v2 (B : CallF) (k : Nat) (a0 : AV) (S : Heap) (hB : B f_slices_Clone_int_int_v2 0 [a0] S = none) : Cn B (k + 1) f_slices_Clone_int_int_v2 0 [a0] S = T_slices_Clone_int_int_v2 ctlV Gk (Cn B k) a0 S :=
  (callN_T hB (by kernel_rfl) (by kernel_rfl) (by decide) (by rfl) (by rfl)).trans (t_slices_Clone_int_int_v2 ctlV Gk (Cn B k) a0 S)
theorem c_runs_sized (B : CallF) (k : Nat) (a0 : AV) (S : Heap) (hB : B f_runs_sized 0 [a0] S = none) : Cn B (k + 1) f_runs_sized 0 [a0] S = T_runs_sized ctlV Gk (Cn B k) a0 S :=
  (callN_T hB (by kernel_rfl) (by kernel_rfl) (by decide) (by rfl) (by rfl)).trans (t_runs_sized ctlV Gk (Cn B k) a0 S)
theorem c_runs_ranged (B : CallF) (k : Nat) (a0 : AV) (S : Heap) (hB : B f_runs_ranged 0 [a0] S = none) : Cn B (k + 1) f_runs_ranged 0 [a0] S = T_runs_ranged ctlV Gk (Cn B k) a0 S :=
  (callN_T hB (by kernel_rfl) (by kernel_rfl) (by decide) (by rfl) (by rfl)).trans (t_runs_ranged ctlV Gk (Cn B k) a0 S)
theorem c_runs_backwards (B : CallF) (k : Nat) (a0 : AV) (S : Heap) (hB : B f_runs_backwards 0 [a0] S = none) : Cn B (k + 1) f_runs_backwards 0 [a0] S = T_runs_backwards ctlV Gk (Cn B k) a0 S :=
  (callN_T hB (by kernel_rfl) (by kernel_rfl) (by decide) (by rfl) (by rfl)).trans (t_runs_backwards ctlV Gk (Cn B k) a0 S)
theorem c_runs_Ones (B : CallF) (k : Nat) (a0 : AV) (S : Heap) (hB : B f_runs_Ones 0 [a0] S = none) : Cn B (k + 1) f_runs_Ones 0 [a0] S = T_runs_Ones ctlV Gk (Cn B k) a0 S :=
  (callN_T hB (by kernel_rfl) (by kernel_rfl) (by decide) (by rfl) (by rfl)).trans (t_runs_Ones ctlV Gk (Cn B k) a0 S)
theorem c_vlc_PutToken (B : CallF) (k : Nat) (a0 a1 a2 a3 a4 : AV) (S : Heap) (hB : B f_vlc_PutToken 0 [a0, a1, a2, a3, a4] S = none) : Cn B (k + 1) f_vlc_PutToken 0 [a0, a1, a2, a3, a4] S = T_vlc_PutToken ctlV Gk (Cn B k) a0 a1 a2 a3 a4 S :=
  (callN_T hB (by kernel_rfl) (by kernel_rfl) (by decide) (by rfl) (by rfl)).trans (t_vlc_PutToken ctlV Gk (Cn B k) a0 a1 a2 a3 a4 S)
theorem c_level_New (B : CallF) (k : Nat) (a0 a1 : AV) (S : Heap) (hB : B f_level_New 0 [a0, a1] S = none) : Cn B (k + 1) f_level_New 0 [a0, a1] S = T_level_New ctlV Gk (Cn B k) a0 a1 S :=
  (callN_T hB (by kernel_rfl) (by kernel_rfl) (by decide) (by rfl) (by rfl)).trans (t_level_New ctlV Gk (Cn B k) a0 a1 S)
theorem c_level_Coder_Put (B : CallF) (k : Nat) (a0 a1 a2 : AV) (S : Heap) (hB : B f_level_Coder_Put 0 [a0, a1, a2] S = none) : Cn B (k + 1) f_level_Coder_Put 0 [a0, a1, a2] S = T_level_Coder_Put ctlV Gk (Cn B k) a0 a1 a2 S :=
  (callN_T hB (by kernel_rfl) (by kernel_rfl) (by decide) (by rfl) (by rfl)).trans (t_level_Coder_Put ctlV Gk (Cn B k) a0 a1 a2 S)
theorem c_vlc_PutZeros (B : CallF) (k : Nat) (a0 a1 a2 a3 : AV) (S : Heap) (hB : B f_vlc_PutZeros 0 [a0, a1, a2, a3] S = none) : Cn B (k + 1) f_vlc_PutZeros 0 [a0, a1, a2, a3] S = T_vlc_PutZeros ctlV Gk (Cn B k) a0 a1 a2 a3 S :=
  (callN_T hB (by kernel_rfl) (by kernel_rfl) (by decide) (by rfl) (by rfl)).trans (t_vlc_PutZeros ctlV Gk (Cn B k) a0 a1 a2 a3 S)
theorem c_vlc_PutRun (B : CallF) (k : Nat) (a0 a1 a2 : AV) (S : Heap) (hB : B f_vlc_PutRun 0 [a0, a1, a2] S = none) : Cn B (k + 1) f_vlc_PutRun 0 [a0, a1, a2] S = T_vlc_PutRun ctlV Gk (Cn B k) a0 a1 a2 S :=
  (callN_T hB (by kernel_rfl) (by kernel_rfl) (by decide) (by rfl) (by rfl)).trans (t_vlc_PutRun ctlV Gk (Cn B k) a0 a1 a2 S)
theorem c_count_exists (B : CallF) (k : Nat) (a0 : AV) (S : Heap) (hB : B f_count_exists 0 [a0] S = none) : Cn B (k + 1) f_count_exists 0 [a0] S = T_count_exists ctlV Gk (Cn B k) a0 S :=
  (callN_T hB (by kernel_rfl) (by kernel_rfl) (by decide) (by rfl) (by rfl)).trans (t_count_exists ctlV Gk (Cn B k) a0 S)
theorem c_count_coefficients (B : CallF) (k : Nat) (a0 a1 : AV) (S : Heap) (hB : B f_count_coefficients 0 [a0, a1] S = none) : Cn B (k + 1) f_count_coefficients 0 [a0, a1] S = T_count_coefficients ctlV Gk (Cn B k) a0 a1 S :=
  (callN_T hB (by kernel_rfl) (by kernel_rfl) (by decide) (by rfl) (by rfl)).trans (t_count_coefficients ctlV Gk (Cn B k) a0 a1 S)
theorem c_place_step (B : CallF) (k : Nat) (a0 a1 a2 a3 a4 : AV) (S : Heap) (hB : B f_place_step 0 [a0, a1, a2, a3, a4] S = none) : Cn B (k + 1) f_place_step 0 [a0, a1, a2, a3, a4] S = T_place_step ctlV Gk (Cn B k) a0 a1 a2 a3 a4 S :=
  (callN_T hB (by kernel_rfl) (by kernel_rfl) (by decide) (by rfl) (by rfl)).trans (t_place_step ctlV Gk (Cn B k) a0 a1 a2 a3 a4 S)
theorem c_near_Near_at (B : CallF) (k : Nat) (a0 a1 : AV) (S : Heap) (hB : B f_near_Near_at 0 [a0, a1] S = none) : Cn B (k + 1) f_near_Near_at 0 [a0, a1] S = T_near_Near_at ctlV Gk (Cn B k) a0 a1 S :=
  (callN_T hB (by kernel_rfl) (by kernel_rfl) (by decide) (by rfl) (by rfl)).trans (t_near_Near_at ctlV Gk (Cn B k) a0 a1 S)
theorem c_vlc_classes (B : CallF) (k : Nat) (S : Heap) (hB : B f_vlc_classes 0 [] S = none) : Cn B (k + 1) f_vlc_classes 0 [] S = T_vlc_classes ctlV Gk (Cn B k) S :=
  (callN_T hB (by kernel_rfl) (by kernel_rfl) (by decide) (by rfl) (by rfl)).trans (t_vlc_classes ctlV Gk (Cn B k) S)
theorem c_vlc_sized (B : CallF) (k : Nat) (a0 : AV) (S : Heap) (hB : B f_vlc_sized 0 [a0] S = none) : Cn B (k + 1) f_vlc_sized 0 [a0] S = T_vlc_sized ctlV Gk (Cn B k) a0 S :=
  (callN_T hB (by kernel_rfl) (by kernel_rfl) (by decide) (by rfl) (by rfl)).trans (t_vlc_sized ctlV Gk (Cn B k) a0 S)
theorem c_vlc_before (B : CallF) (k : Nat) (a0 : AV) (S : Heap) (hB : B f_vlc_before 0 [a0] S = none) : Cn B (k + 1) f_vlc_before 0 [a0] S = T_vlc_before ctlV Gk (Cn B k) a0 S :=
  (callN_T hB (by kernel_rfl) (by kernel_rfl) (by decide) (by rfl) (by rfl)).trans (t_vlc_before ctlV Gk (Cn B k) a0 S)
theorem c_vlc_Pair (B : CallF) (k : Nat) (a0 : AV) (S : Heap) (hB : B f_vlc_Pair 0 [a0] S = none) : Cn B (k + 1) f_vlc_Pair 0 [a0] S = T_vlc_Pair ctlV Gk (Cn B k) a0 S :=
  (callN_T hB (by kernel_rfl) (by kernel_rfl) (by decide) (by rfl) (by rfl)).trans (t_vlc_Pair ctlV Gk (Cn B k) a0 S)
theorem c_level_Coder_Read (B : CallF) (k : Nat) (a0 a1 : AV) (S : Heap) (hB : B f_level_Coder_Read 0 [a0, a1] S = none) : Cn B (k + 1) f_level_Coder_Read 0 [a0, a1] S = T_level_Coder_Read ctlV Gk (Cn B k) a0 a1 S :=
  (callN_T hB (by kernel_rfl) (by kernel_rfl) (by decide) (by rfl) (by rfl)).trans (t_level_Coder_Read ctlV Gk (Cn B k) a0 a1 S)
theorem c_vlc_cut (B : CallF) (k : Nat) (a0 : AV) (S : Heap) (hB : B f_vlc_cut 0 [a0] S = none) : Cn B (k + 1) f_vlc_cut 0 [a0] S = T_vlc_cut ctlV Gk (Cn B k) a0 S :=
  (callN_T hB (by kernel_rfl) (by kernel_rfl) (by decide) (by rfl) (by rfl)).trans (t_vlc_cut ctlV Gk (Cn B k) a0 S)
theorem c_runs_backwards_1 (B : CallF) (k : Nat) (a0 a1 : AV) (S : Heap) (hB : B f_runs_backwards_1 0 [a0, a1] S = none) : Cn B (k + 1) f_runs_backwards_1 0 [a0, a1] S = T_runs_backwards_1 ctlV Gk (Cn B k) a0 a1 S :=
  (callN_T hB (by kernel_rfl) (by kernel_rfl) (by decide) (by rfl) (by rfl)).trans (t_runs_backwards_1 ctlV Gk (Cn B k) a0 a1 S)
theorem c_vlc_Symbol (B : CallF) (k : Nat) (a0 a1 : AV) (S : Heap) (hB : B f_vlc_Symbol 0 [a0, a1] S = none) : Cn B (k + 1) f_vlc_Symbol 0 [a0, a1] S = T_vlc_Symbol ctlV Gk (Cn B k) a0 a1 S :=
  (callN_T hB (by kernel_rfl) (by kernel_rfl) (by decide) (by rfl) (by rfl)).trans (t_vlc_Symbol ctlV Gk (Cn B k) a0 a1 S)
theorem c_level_Coder_Most (B : CallF) (k : Nat) (a0 : AV) (S : Heap) (hB : B f_level_Coder_Most 0 [a0] S = none) : Cn B (k + 1) f_level_Coder_Most 0 [a0] S = T_level_Coder_Most ctlV Gk (Cn B k) a0 S :=
  (callN_T hB (by kernel_rfl) (by kernel_rfl) (by decide) (by rfl) (by rfl)).trans (t_level_Coder_Most ctlV Gk (Cn B k) a0 S)
theorem c_level_length_most (B : CallF) (k : Nat) (a0 : AV) (S : Heap) (hB : B f_level_length_most 0 [a0] S = none) : Cn B (k + 1) f_level_length_most 0 [a0] S = T_level_length_most ctlV Gk (Cn B k) a0 S :=
  (callN_T hB (by kernel_rfl) (by kernel_rfl) (by decide) (by rfl) (by rfl)).trans (t_level_length_most ctlV Gk (Cn B k) a0 S)
theorem c_level_length_split (B : CallF) (k : Nat) (a0 a1 : AV) (S : Heap) (hB : B f_level_length_split 0 [a0, a1] S = none) : Cn B (k + 1) f_level_length_split 0 [a0, a1] S = T_level_length_split ctlV Gk (Cn B k) a0 a1 S :=
  (callN_T hB (by kernel_rfl) (by kernel_rfl) (by decide) (by rfl) (by rfl)).trans (t_level_length_split ctlV Gk (Cn B k) a0 a1 S)
theorem c_level_Coder_next (B : CallF) (k : Nat) (a0 a1 : AV) (S : Heap) (hB : B f_level_Coder_next 0 [a0, a1] S = none) : Cn B (k + 1) f_level_Coder_next 0 [a0, a1] S = T_level_Coder_next ctlV Gk (Cn B k) a0 a1 S :=
  (callN_T hB (by kernel_rfl) (by kernel_rfl) (by decide) (by rfl) (by rfl)).trans (t_level_Coder_next ctlV Gk (Cn B k) a0 a1 S)
theorem c_mb_Block (B : CallF) (k : Nat) (a0 a1 : AV) (S : Heap) (hB : B f_mb_Block 0 [a0, a1] S = none) : Cn B (k + 1) f_mb_Block 0 [a0, a1] S = T_mb_Block ctlV Gk (Cn B k) a0 a1 S :=
  (callN_T hB (by kernel_rfl) (by kernel_rfl) (by decide) (by rfl) (by rfl)).trans (t_mb_Block ctlV Gk (Cn B k) a0 a1 S)
theorem c_count_luma (B : CallF) (k : Nat) (a0 : AV) (S : Heap) (hB : B f_count_luma 0 [a0] S = none) : Cn B (k + 1) f_count_luma 0 [a0] S = T_count_luma ctlV Gk (Cn B k) a0 S :=
  (callN_T hB (by kernel_rfl) (by kernel_rfl) (by decide) (by rfl) (by rfl)).trans (t_count_luma ctlV Gk (Cn B k) a0 S)
theorem c_place_grid (B : CallF) (k : Nat) (a0 : AV) (S : Heap) (hB : B f_place_grid 0 [a0] S = none) : Cn B (k + 1) f_place_grid 0 [a0] S = T_place_grid ctlV Gk (Cn B k) a0 S :=
  (callN_T hB (by kernel_rfl) (by kernel_rfl) (by decide) (by rfl) (by rfl)).trans (t_place_grid ctlV Gk (Cn B k) a0 S)
theorem c_place_find (B : CallF) (k : Nat) (a0 a1 a2 : AV) (S : Heap) (hB : B f_place_find 0 [a0, a1, a2] S = none) : Cn B (k + 1) f_place_find 0 [a0, a1, a2] S = T_place_find ctlV Gk (Cn B k) a0 a1 a2 S :=
  (callN_T hB (by kernel_rfl) (by kernel_rfl) (by decide) (by rfl) (by rfl)).trans (t_place_find ctlV Gk (Cn B k) a0 a1 a2 S)
theorem c_vlc_order (B : CallF) (k : Nat) (a0 : AV) (S : Heap) (hB : B f_vlc_order 0 [a0] S = none) : Cn B (k + 1) f_vlc_order 0 [a0] S = T_vlc_order ctlV Gk (Cn B k) a0 S :=
  (callN_T hB (by kernel_rfl) (by kernel_rfl) (by decide) (by rfl) (by rfl)).trans (t_vlc_order ctlV Gk (Cn B k) a0 S)
theorem c_vlc_classes_1 (B : CallF) (k : Nat) (a0 : AV) (S : Heap) (hB : B f_vlc_classes_1 0 [a0] S = none) : Cn B (k + 1) f_vlc_classes_1 0 [a0] S = T_vlc_classes_1 ctlV Gk (Cn B k) a0 S :=
  (callN_T hB (by kernel_rfl) (by kernel_rfl) (by decide) (by rfl) (by rfl)).trans (t_vlc_classes_1 ctlV Gk (Cn B k) a0 S)
theorem c_vlc_classes_2 (B : CallF) (k : Nat) (a0 a1 : AV) (S : Heap) (hB : B f_vlc_classes_2 0 [a0, a1] S = none) : Cn B (k + 1) f_vlc_classes_2 0 [a0, a1] S = T_vlc_classes_2 ctlV Gk (Cn B k) a0 a1 S :=
  (callN_T hB (by kernel_rfl) (by kernel_rfl) (by decide) (by rfl) (by rfl)).trans (t_vlc_classes_2 ctlV Gk (Cn B k) a0 a1 S)
theorem c_level_Coder_Read_1 (B : CallF) (k : Nat) (a0 a1 : AV) (S : Heap) (hB : B f_level_Coder_Read_1 0 [a0, a1] S = none) : Cn B (k + 1) f_level_Coder_Read_1 0 [a0, a1] S = T_level_Coder_Read_1 ctlV Gk (Cn B k) a0 a1 S :=
  (callN_T hB (by kernel_rfl) (by kernel_rfl) (by decide) (by rfl) (by rfl)).trans (t_level_Coder_Read_1 ctlV Gk (Cn B k) a0 a1 S)
theorem c_level_length_escape (B : CallF) (k : Nat) (a0 : AV) (S : Heap) (hB : B f_level_length_escape 0 [a0] S = none) : Cn B (k + 1) f_level_length_escape 0 [a0] S = T_level_length_escape ctlV Gk (Cn B k) a0 S :=
  (callN_T hB (by kernel_rfl) (by kernel_rfl) (by decide) (by rfl) (by rfl)).trans (t_level_length_escape ctlV Gk (Cn B k) a0 S)
theorem c_math_bits_Len (B : CallF) (k : Nat) (a0 : AV) (S : Heap) (hB : B f_math_bits_Len 0 [a0] S = none) : Cn B (k + 1) f_math_bits_Len 0 [a0] S = T_math_bits_Len ctlV Gk (Cn B k) a0 S :=
  (callN_T hB (by kernel_rfl) (by kernel_rfl) (by decide) (by rfl) (by rfl)).trans (t_math_bits_Len ctlV Gk (Cn B k) a0 S)
theorem c_level_length_after (B : CallF) (k : Nat) (a0 a1 : AV) (S : Heap) (hB : B f_level_length_after 0 [a0, a1] S = none) : Cn B (k + 1) f_level_length_after 0 [a0, a1] S = T_level_length_after ctlV Gk (Cn B k) a0 a1 S :=
  (callN_T hB (by kernel_rfl) (by kernel_rfl) (by decide) (by rfl) (by rfl)).trans (t_level_length_after ctlV Gk (Cn B k) a0 a1 S)
theorem c_slices_Index_api_Coded_api_Coded (B : CallF) (k : Nat) (a0 a1 : AV) (S : Heap) (hB : B f_slices_Index_api_Coded_api_Coded 0 [a0, a1] S = none) : Cn B (k + 1) f_slices_Index_api_Coded_api_Coded 0 [a0, a1] S = T_slices_Index_api_Coded_api_Coded ctlV Gk (Cn B k) a0 a1 S :=
  (callN_T hB (by kernel_rfl) (by kernel_rfl) (by decide) (by rfl) (by rfl)).trans (t_slices_Index_api_Coded_api_Coded ctlV Gk (Cn B k) a0 a1 S)
theorem c_vlc_order_1 (B : CallF) (k : Nat) (a0 a1 : AV) (S : Heap) (hB : B f_vlc_order_1 0 [a0, a1] S = none) : Cn B (k + 1) f_vlc_order_1 0 [a0, a1] S = T_vlc_order_1 ctlV Gk (Cn B k) a0 a1 S :=
  (callN_T hB (by kernel_rfl) (by kernel_rfl) (by decide) (by rfl) (by rfl)).trans (t_vlc_order_1 ctlV Gk (Cn B k) a0 a1 S)
theorem c_golomb_Uk (B : CallF) (k : Nat) (a0 a1 : AV) (S : Heap) (hB : B f_golomb_Uk 0 [a0, a1] S = none) : Cn B (k + 1) f_golomb_Uk 0 [a0, a1] S = T_golomb_Uk ctlV Gk (Cn B k) a0 a1 S :=
  (callN_T hB (by kernel_rfl) (by kernel_rfl) (by decide) (by rfl) (by rfl)).trans (t_golomb_Uk ctlV Gk (Cn B k) a0 a1 S)
theorem c_vlc_order_2 (B : CallF) (k : Nat) (a0 a1 a2 : AV) (S : Heap) (hB : B f_vlc_order_2 0 [a0, a1, a2] S = none) : Cn B (k + 1) f_vlc_order_2 0 [a0, a1, a2] S = T_vlc_order_2 ctlV Gk (Cn B k) a0 a1 a2 S :=
  (callN_T hB (by kernel_rfl) (by kernel_rfl) (by decide) (by rfl) (by rfl)).trans (t_vlc_order_2 ctlV Gk (Cn B k) a0 a1 a2 S)
theorem c_golomb_PutUk (B : CallF) (k : Nat) (a0 a1 a2 : AV) (S : Heap) (hB : B f_golomb_PutUk 0 [a0, a1, a2] S = none) : Cn B (k + 1) f_golomb_PutUk 0 [a0, a1, a2] S = T_golomb_PutUk ctlV Gk (Cn B k) a0 a1 a2 S :=
  (callN_T hB (by kernel_rfl) (by kernel_rfl) (by decide) (by rfl) (by rfl)).trans (t_golomb_PutUk ctlV Gk (Cn B k) a0 a1 a2 S)
theorem c_math_bits_Len32 (B : CallF) (k : Nat) (a0 : AV) (S : Heap) (hB : B f_math_bits_Len32 0 [a0] S = none) : Cn B (k + 1) f_math_bits_Len32 0 [a0] S = T_math_bits_Len32 ctlV Gk (Cn B k) a0 S :=
  (callN_T hB (by kernel_rfl) (by kernel_rfl) (by decide) (by rfl) (by rfl)).trans (t_math_bits_Len32 ctlV Gk (Cn B k) a0 S)
theorem c_golomb_Uk_1 (B : CallF) (k : Nat) (a0 a1 : AV) (S : Heap) (hB : B f_golomb_Uk_1 0 [a0, a1] S = none) : Cn B (k + 1) f_golomb_Uk_1 0 [a0, a1] S = T_golomb_Uk_1 ctlV Gk (Cn B k) a0 a1 S :=
  (callN_T hB (by kernel_rfl) (by kernel_rfl) (by decide) (by rfl) (by rfl)).trans (t_golomb_Uk_1 ctlV Gk (Cn B k) a0 a1 S)
end Go.Ab.tV
