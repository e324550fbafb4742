/- The words that a simplification of these functions uses, type by type. Written by program: no condition. -/
import Derived.Test.YtbmcdphiolidkaaGreatDoorVC
set_option maxRecDepth 100000
namespace Go.Ab.tV
open Go Go.Proofs
-- type 30
-- type 31
-- type 32
-- type 33
-- type 34
-- type 37
-- type 42
-- type 52
-- type 58
-- type 160
-- type 277
-- type 315
theorem eql_ptr37 (i o : Nat) : aBin Tryz.prog .eql 37 (.ptr i o) .nilp = some (.bool false) := by kernel_rfl
theorem eql_nilp37 : aBin Tryz.prog .eql 37 .nilp .nilp = some (.bool true) := by kernel_rfl
theorem eql_ptr42 (i o : Nat) : aBin Tryz.prog .eql 42 (.ptr i o) .nilp = some (.bool false) := by kernel_rfl
theorem eql_nilp42 : aBin Tryz.prog .eql 42 .nilp .nilp = some (.bool true) := by kernel_rfl
theorem eql_ptr58 (i o : Nat) : aBin Tryz.prog .eql 58 (.ptr i o) .nilp = some (.bool false) := by kernel_rfl
theorem eql_nilp58 : aBin Tryz.prog .eql 58 .nilp .nilp = some (.bool true) := by kernel_rfl
theorem eql_ptr277 (i o : Nat) : aBin Tryz.prog .eql 277 (.ptr i o) .nilp = some (.bool false) := by kernel_rfl
theorem eql_nilp277 : aBin Tryz.prog .eql 277 .nilp .nilp = some (.bool true) := by kernel_rfl
theorem eql_nils32 : aBin Tryz.prog .eql 32 .nils .nils = some (.bool true) := by kernel_rfl
theorem eql_is32 (n : Nat) (cs : List AV) : aBin Tryz.prog .eql 32 (.is n cs) .nils = some (.bool false) := by kernel_rfl
theorem eql_hs32 (i o n e : Nat) : aBin Tryz.prog .eql 32 (.hs i o n e) .nils = some (.bool false) := by kernel_rfl
theorem eql_nils33 : aBin Tryz.prog .eql 33 .nils .nils = some (.bool true) := by kernel_rfl
theorem eql_is33 (n : Nat) (cs : List AV) : aBin Tryz.prog .eql 33 (.is n cs) .nils = some (.bool false) := by kernel_rfl
theorem eql_hs33 (i o n e : Nat) : aBin Tryz.prog .eql 33 (.hs i o n e) .nils = some (.bool false) := by kernel_rfl
theorem eql_nils34 : aBin Tryz.prog .eql 34 .nils .nils = some (.bool true) := by kernel_rfl
theorem eql_is34 (n : Nat) (cs : List AV) : aBin Tryz.prog .eql 34 (.is n cs) .nils = some (.bool false) := by kernel_rfl
theorem eql_hs34 (i o n e : Nat) : aBin Tryz.prog .eql 34 (.hs i o n e) .nils = some (.bool false) := by kernel_rfl
theorem len_nils26 : aLen Tryz.prog 26 .nils = some (.int .i64 0) := by kernel_rfl
theorem len_is26 (n : Nat) (cs : List AV) : aLen Tryz.prog 26 (.is n cs) = some (.int .i64 n) := by kernel_rfl
theorem len_hs26 (i o n e : Nat) : aLen Tryz.prog 26 (.hs i o n e) = some (.int .i64 n) := by kernel_rfl
theorem len_nils32 : aLen Tryz.prog 32 .nils = some (.int .i64 0) := by kernel_rfl
theorem len_is32 (n : Nat) (cs : List AV) : aLen Tryz.prog 32 (.is n cs) = some (.int .i64 n) := by kernel_rfl
theorem len_hs32 (i o n e : Nat) : aLen Tryz.prog 32 (.hs i o n e) = some (.int .i64 n) := by kernel_rfl
theorem len_nils33 : aLen Tryz.prog 33 .nils = some (.int .i64 0) := by kernel_rfl
theorem len_is33 (n : Nat) (cs : List AV) : aLen Tryz.prog 33 (.is n cs) = some (.int .i64 n) := by kernel_rfl
theorem len_hs33 (i o n e : Nat) : aLen Tryz.prog 33 (.hs i o n e) = some (.int .i64 n) := by kernel_rfl
theorem len_nils34 : aLen Tryz.prog 34 .nils = some (.int .i64 0) := by kernel_rfl
theorem len_is34 (n : Nat) (cs : List AV) : aLen Tryz.prog 34 (.is n cs) = some (.int .i64 n) := by kernel_rfl
theorem len_hs34 (i o n e : Nat) : aLen Tryz.prog 34 (.hs i o n e) = some (.int .i64 n) := by kernel_rfl
theorem len_nils61 : aLen Tryz.prog 61 .nils = some (.int .i64 0) := by kernel_rfl
theorem len_is61 (n : Nat) (cs : List AV) : aLen Tryz.prog 61 (.is n cs) = some (.int .i64 n) := by kernel_rfl
theorem len_hs61 (i o n e : Nat) : aLen Tryz.prog 61 (.hs i o n e) = some (.int .i64 n) := by kernel_rfl
theorem len_nils124 : aLen Tryz.prog 124 .nils = some (.int .i64 0) := by kernel_rfl
theorem len_is124 (n : Nat) (cs : List AV) : aLen Tryz.prog 124 (.is n cs) = some (.int .i64 n) := by kernel_rfl
theorem len_hs124 (i o n e : Nat) : aLen Tryz.prog 124 (.hs i o n e) = some (.int .i64 n) := by kernel_rfl
theorem len_nils156 : aLen Tryz.prog 156 .nils = some (.int .i64 0) := by kernel_rfl
theorem len_is156 (n : Nat) (cs : List AV) : aLen Tryz.prog 156 (.is n cs) = some (.int .i64 n) := by kernel_rfl
theorem len_hs156 (i o n e : Nat) : aLen Tryz.prog 156 (.hs i o n e) = some (.int .i64 n) := by kernel_rfl
theorem len_nils245 : aLen Tryz.prog 245 .nils = some (.int .i64 0) := by kernel_rfl
theorem len_is245 (n : Nat) (cs : List AV) : aLen Tryz.prog 245 (.is n cs) = some (.int .i64 n) := by kernel_rfl
theorem len_hs245 (i o n e : Nat) : aLen Tryz.prog 245 (.hs i o n e) = some (.int .i64 n) := by kernel_rfl
theorem bO_s {α β : Type} (a : α) (f : α → Option β) : bO (some a) f = f a := (rfl)
theorem gB_t {β : Type} (k : Option β) : gB true k = k := (rfl)
theorem asBool_b {β : Type} (b : Bool) (f : Bool → Option β) : asBool (.bool b) f = f b := (rfl)
theorem asInt_i {β : Type} (k : IntKind) (n : Int) (f : Int → Option β) : asInt k (.int k n) f = f n := by simp [asInt]
theorem asAgg_a {β : Type} (l : List AV) (f : List AV → Option β) : asAgg (.agg l) f = f l := (rfl)
theorem asTup_a {β : Type} (l : List AV) (f : List AV → Option β) : asTup (.tup l) f = f l := (rfl)
theorem asStr_s {β : Type} (l : ByteArray) (f : ByteArray → Option β) : asStr (.str l) f = f l := (rfl)
theorem asCons_c {β : Type} (a : AV) (l : List AV) (f : AV → List AV → Option β) : asCons (a :: l) f = f a l := (rfl)
theorem asNil_n {β : Type} (o : Option β) : asNil [] o = o := (rfl)
theorem nthA_0 (a : AV) (l : List AV) : nthA (a :: l) 0 = a := (rfl)
theorem nthA_s (a : AV) (l : List AV) (n : Nat) : nthA (a :: l) (n + 1) = nthA l n := (rfl)
theorem aggCells_a (l : List AV) : aggCells (.agg l) = l := (rfl)
theorem addV_p (i o n : Nat) : addV (.ptr i o) n = some (.ptr i (o + n)) := (rfl)
theorem addV_i (cs : List AV) (n : Nat) : addV (.iptr cs) n = some (.iptr (cs.drop n)) := (rfl)
theorem seeV_p (i o : Nat) (S : Heap) : seeV (.ptr i o) S = (match S.blk i with | some cs => some (cs, o) | none => none) := (rfl)
theorem seeV_i (cs : List AV) (S : Heap) : seeV (.iptr cs) S = some (cs, 0) := (rfl)
theorem same_nil : ctlV.same [] = true := by simp [ctlV]
open Classical in
theorem same_1 (a : AV) (S T : Heap) : ctlV.same [.see a S T] = decide (seeV a S = seeV a T) := by simp [ctlV, Chk.ok]
open Classical in
theorem same_2 (a b : AV) (S T U V : Heap) : ctlV.same [.see a S T, .see b U V] = (decide (seeV a S = seeV a T) && decide (seeV b U = seeV b V)) := by simp [ctlV, Chk.ok]
theorem tr_v (S S' : Heap) (v : AV) : ctlV.tr S v S' = (v, S') := (rfl)
end Go.Ab.tV
