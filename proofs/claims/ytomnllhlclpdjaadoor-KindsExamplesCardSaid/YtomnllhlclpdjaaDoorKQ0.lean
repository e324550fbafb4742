/- KindsParts, for the ways to divide a macroblock whose first byte is 0, and each of their parts. Computed by the kernel; no condition. -/
import Derived.Test.YtomnllhlclpdjaaDoorKM
set_option maxRecDepth 100000
namespace Go.Ab.tK
open Go Go.Proofs
theorem kp_00 : (four fun c => four fun d => (List.range (num 0 0 c d)).all fun p => isT (C2 f_spindlelaw12_KindsParts 0 [.int .u8 6, subs 0 0 c d, iN p] S0)) = true := by kernel_rfl
theorem kp_01 : (four fun c => four fun d => (List.range (num 0 1 c d)).all fun p => isT (C2 f_spindlelaw12_KindsParts 0 [.int .u8 6, subs 0 1 c d, iN p] S0)) = true := by kernel_rfl
theorem kp_02 : (four fun c => four fun d => (List.range (num 0 2 c d)).all fun p => isT (C2 f_spindlelaw12_KindsParts 0 [.int .u8 6, subs 0 2 c d, iN p] S0)) = true := by kernel_rfl
theorem kp_03 : (four fun c => four fun d => (List.range (num 0 3 c d)).all fun p => isT (C2 f_spindlelaw12_KindsParts 0 [.int .u8 6, subs 0 3 c d, iN p] S0)) = true := by kernel_rfl
end Go.Ab.tK
