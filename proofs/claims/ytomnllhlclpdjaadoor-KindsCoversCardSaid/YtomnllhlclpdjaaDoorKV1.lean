/- KindsCovers, for half of the ways to divide a macroblock. Computed by the kernel; no condition. -/
import Derived.Test.YtomnllhlclpdjaaDoorKM
set_option maxRecDepth 100000
namespace Go.Ab.tK
open Go Go.Proofs
theorem kc_20 : (four fun c => four fun d => isT (C2 f_spindlelaw12_KindsCovers 0 [.int .u8 6, subs 2 0 c d] S0)) = true := by kernel_rfl
theorem kc_21 : (four fun c => four fun d => isT (C2 f_spindlelaw12_KindsCovers 0 [.int .u8 6, subs 2 1 c d] S0)) = true := by kernel_rfl
theorem kc_22 : (four fun c => four fun d => isT (C2 f_spindlelaw12_KindsCovers 0 [.int .u8 6, subs 2 2 c d] S0)) = true := by kernel_rfl
theorem kc_23 : (four fun c => four fun d => isT (C2 f_spindlelaw12_KindsCovers 0 [.int .u8 6, subs 2 3 c d] S0)) = true := by kernel_rfl
theorem kc_30 : (four fun c => four fun d => isT (C2 f_spindlelaw12_KindsCovers 0 [.int .u8 6, subs 3 0 c d] S0)) = true := by kernel_rfl
theorem kc_31 : (four fun c => four fun d => isT (C2 f_spindlelaw12_KindsCovers 0 [.int .u8 6, subs 3 1 c d] S0)) = true := by kernel_rfl
theorem kc_32 : (four fun c => four fun d => isT (C2 f_spindlelaw12_KindsCovers 0 [.int .u8 6, subs 3 2 c d] S0)) = true := by kernel_rfl
theorem kc_33 : (four fun c => four fun d => isT (C2 f_spindlelaw12_KindsCovers 0 [.int .u8 6, subs 3 3 c d] S0)) = true := by kernel_rfl
end Go.Ab.tK
