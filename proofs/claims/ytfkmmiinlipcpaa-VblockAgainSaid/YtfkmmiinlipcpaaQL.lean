/- The words that a simplification of these functions uses, type by type. Written by program: no condition. -/
import Derived.Test.YtfkmmiinlipcpaaQC
set_option maxRecDepth 100000
namespace Go.Ab.tV
open Go Go.Proofs
-- type 31
-- type 54
-- type 149
theorem eql_ptr31 (i o : Nat) : aBin Try.prog .eql 31 (.ptr i o) .nilp = some (.bool false) := by kernel_rfl
theorem eql_nilp31 : aBin Try.prog .eql 31 .nilp .nilp = some (.bool true) := by kernel_rfl
theorem eql_ptr54 (i o : Nat) : aBin Try.prog .eql 54 (.ptr i o) .nilp = some (.bool false) := by kernel_rfl
theorem eql_nilp54 : aBin Try.prog .eql 54 .nilp .nilp = some (.bool true) := by kernel_rfl
theorem eql_ptr149 (i o : Nat) : aBin Try.prog .eql 149 (.ptr i o) .nilp = some (.bool false) := by kernel_rfl
theorem eql_nilp149 : aBin Try.prog .eql 149 .nilp .nilp = some (.bool true) := by kernel_rfl
theorem len_nils71 : aLen Try.prog 71 .nils = some (.int .i64 0) := by kernel_rfl
theorem len_is71 (n : Nat) (cs : List AV) : aLen Try.prog 71 (.is n cs) = some (.int .i64 n) := by kernel_rfl
theorem len_hs71 (i o n e : Nat) : aLen Try.prog 71 (.hs i o n e) = some (.int .i64 n) := by kernel_rfl
theorem len_nils103 : aLen Try.prog 103 .nils = some (.int .i64 0) := by kernel_rfl
theorem len_is103 (n : Nat) (cs : List AV) : aLen Try.prog 103 (.is n cs) = some (.int .i64 n) := by kernel_rfl
theorem len_hs103 (i o n e : Nat) : aLen Try.prog 103 (.hs i o n e) = some (.int .i64 n) := by kernel_rfl
theorem bO_s {α β : Type} (a : α) (f : α → Option β) : bO (some a) f = f a := (rfl)
theorem gB_t {β : Type} (k : Option β) : gB true k = k := (rfl)
theorem asBool_b {β : Type} (b : Bool) (f : Bool → Option β) : asBool (.bool b) f = f b := (rfl)
theorem asInt_i {β : Type} (k : IntKind) (n : Int) (f : Int → Option β) : asInt k (.int k n) f = f n := by simp [asInt]
theorem asAgg_a {β : Type} (l : List AV) (f : List AV → Option β) : asAgg (.agg l) f = f l := (rfl)
theorem asTup_a {β : Type} (l : List AV) (f : List AV → Option β) : asTup (.tup l) f = f l := (rfl)
theorem asStr_s {β : Type} (l : ByteArray) (f : ByteArray → Option β) : asStr (.str l) f = f l := (rfl)
theorem asCons_c {β : Type} (a : AV) (l : List AV) (f : AV → List AV → Option β) : asCons (a :: l) f = f a l := (rfl)
theorem asNil_n {β : Type} (o : Option β) : asNil [] o = o := (rfl)
theorem nthA_0 (a : AV) (l : List AV) : nthA (a :: l) 0 = a := (rfl)
theorem nthA_s (a : AV) (l : List AV) (n : Nat) : nthA (a :: l) (n + 1) = nthA l n := (rfl)
theorem aggCells_a (l : List AV) : aggCells (.agg l) = l := (rfl)
theorem addV_p (i o n : Nat) : addV (.ptr i o) n = some (.ptr i (o + n)) := (rfl)
theorem addV_i (cs : List AV) (n : Nat) : addV (.iptr cs) n = some (.iptr (cs.drop n)) := (rfl)
theorem seeV_p (i o : Nat) (S : Heap) : seeV (.ptr i o) S = (match S.blk i with | some cs => some (cs, o) | none => none) := (rfl)
theorem seeV_i (cs : List AV) (S : Heap) : seeV (.iptr cs) S = some (cs, 0) := (rfl)
theorem same_nil : ctlV.same [] = true := by simp [ctlV]
open Classical in
theorem same_1 (a : AV) (S T : Heap) : ctlV.same [.see a S T] = decide (seeV a S = seeV a T) := by simp [ctlV, Chk.ok]
open Classical in
theorem same_2 (a b : AV) (S T U V : Heap) : ctlV.same [.see a S T, .see b U V] = (decide (seeV a S = seeV a T) && decide (seeV b U = seeV b V)) := by simp [ctlV, Chk.ok]
theorem tr_v (S S' : Heap) (v : AV) : ctlV.tr S v S' = (v, S') := (rfl)
end Go.Ab.tV
