/- KindsCovers, for half of the ways to divide a macroblock. Computed by the kernel; no condition. -/
import Derived.Test.YtomnllhlclpdjaaDoorKM
set_option maxRecDepth 100000
namespace Go.Ab.tK
open Go Go.Proofs
theorem kc_00 : (four fun c => four fun d => isT (C2 f_spindlelaw12_KindsCovers 0 [.int .u8 6, subs 0 0 c d] S0)) = true := by kernel_rfl
theorem kc_01 : (four fun c => four fun d => isT (C2 f_spindlelaw12_KindsCovers 0 [.int .u8 6, subs 0 1 c d] S0)) = true := by kernel_rfl
theorem kc_02 : (four fun c => four fun d => isT (C2 f_spindlelaw12_KindsCovers 0 [.int .u8 6, subs 0 2 c d] S0)) = true := by kernel_rfl
theorem kc_03 : (four fun c => four fun d => isT (C2 f_spindlelaw12_KindsCovers 0 [.int .u8 6, subs 0 3 c d] S0)) = true := by kernel_rfl
theorem kc_10 : (four fun c => four fun d => isT (C2 f_spindlelaw12_KindsCovers 0 [.int .u8 6, subs 1 0 c d] S0)) = true := by kernel_rfl
theorem kc_11 : (four fun c => four fun d => isT (C2 f_spindlelaw12_KindsCovers 0 [.int .u8 6, subs 1 1 c d] S0)) = true := by kernel_rfl
theorem kc_12 : (four fun c => four fun d => isT (C2 f_spindlelaw12_KindsCovers 0 [.int .u8 6, subs 1 2 c d] S0)) = true := by kernel_rfl
theorem kc_13 : (four fun c => four fun d => isT (C2 f_spindlelaw12_KindsCovers 0 [.int .u8 6, subs 1 3 c d] S0)) = true := by kernel_rfl
end Go.Ab.tK
