/- KindsParts, for the ways to divide a macroblock whose first byte is 2, and each of their parts. Computed by the kernel; no condition. -/
import Derived.Test.YtomnllhlclpdjaaDoorKM
set_option maxRecDepth 100000
namespace Go.Ab.tK
open Go Go.Proofs
theorem kp_20 : (four fun c => four fun d => (List.range (num 2 0 c d)).all fun p => isT (C2 f_spindlelaw12_KindsParts 0 [.int .u8 6, subs 2 0 c d, iN p] S0)) = true := by kernel_rfl
theorem kp_21 : (four fun c => four fun d => (List.range (num 2 1 c d)).all fun p => isT (C2 f_spindlelaw12_KindsParts 0 [.int .u8 6, subs 2 1 c d, iN p] S0)) = true := by kernel_rfl
theorem kp_22 : (four fun c => four fun d => (List.range (num 2 2 c d)).all fun p => isT (C2 f_spindlelaw12_KindsParts 0 [.int .u8 6, subs 2 2 c d, iN p] S0)) = true := by kernel_rfl
theorem kp_23 : (four fun c => four fun d => (List.range (num 2 3 c d)).all fun p => isT (C2 f_spindlelaw12_KindsParts 0 [.int .u8 6, subs 2 3 c d, iN p] S0)) = true := by kernel_rfl
end Go.Ab.tK
