/- The blocks of each part, for the ways to divide a macroblock whose first byte is 1: computed by the kernel; no condition. -/
import Derived.Test.YtbmcdphiolidkaaDoorIJ0
set_option maxRecDepth 100000
namespace Go.Ab.tNearU
open Go Go.Proofs
theorem covr_10 : (four fun c => four fun d => (List.range (rl6 1 0 c d).length).all fun p => isV (locC K2 f_spindleref12_Cover 0 [.int .u8 6, subs 1 0 c d, iN p] S0) (covF 6 1 0 c d p)) = true := by kernel_rfl
theorem covr_11 : (four fun c => four fun d => (List.range (rl6 1 1 c d).length).all fun p => isV (locC K2 f_spindleref12_Cover 0 [.int .u8 6, subs 1 1 c d, iN p] S0) (covF 6 1 1 c d p)) = true := by kernel_rfl
theorem covr_12 : (four fun c => four fun d => (List.range (rl6 1 2 c d).length).all fun p => isV (locC K2 f_spindleref12_Cover 0 [.int .u8 6, subs 1 2 c d, iN p] S0) (covF 6 1 2 c d p)) = true := by kernel_rfl
theorem covr_13 : (four fun c => four fun d => (List.range (rl6 1 3 c d).length).all fun p => isV (locC K2 f_spindleref12_Cover 0 [.int .u8 6, subs 1 3 c d, iN p] S0) (covF 6 1 3 c d p)) = true := by kernel_rfl
end Go.Ab.tNearU
