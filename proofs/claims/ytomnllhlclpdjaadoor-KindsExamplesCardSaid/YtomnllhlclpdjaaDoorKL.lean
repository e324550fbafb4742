/- The words that a simplification of these functions uses, type by type. Written by program: no condition. -/
import Derived.Test.YtomnllhlclpdjaaDoorKC
set_option maxRecDepth 100000
namespace Go.Ab.tK
open Go Go.Proofs
-- type 4
-- type 22
-- type 23
-- type 46
-- type 72
-- type 76
theorem eql_b4 (x y : Bool) : aBin Tryd.prog .eql 4 (.bool x) (.bool y) = some (.bool (x == y)) := by cases x <;> cases y <;> kernel_rfl
theorem neq_b4 (x y : Bool) : aBin Tryd.prog .neq 4 (.bool x) (.bool y) = some (.bool (x != y)) := by cases x <;> cases y <;> kernel_rfl
theorem len_nils24 : aLen Tryd.prog 24 .nils = some (.int .i64 0) := by kernel_rfl
theorem len_is24 (n : Nat) (cs : List AV) : aLen Tryd.prog 24 (.is n cs) = some (.int .i64 n) := by kernel_rfl
theorem len_hs24 (i o n e : Nat) : aLen Tryd.prog 24 (.hs i o n e) = some (.int .i64 n) := by kernel_rfl
theorem len_nils25 : aLen Tryd.prog 25 .nils = some (.int .i64 0) := by kernel_rfl
theorem len_is25 (n : Nat) (cs : List AV) : aLen Tryd.prog 25 (.is n cs) = some (.int .i64 n) := by kernel_rfl
theorem len_hs25 (i o n e : Nat) : aLen Tryd.prog 25 (.hs i o n e) = some (.int .i64 n) := by kernel_rfl
theorem len_nils26 : aLen Tryd.prog 26 .nils = some (.int .i64 0) := by kernel_rfl
theorem len_is26 (n : Nat) (cs : List AV) : aLen Tryd.prog 26 (.is n cs) = some (.int .i64 n) := by kernel_rfl
theorem len_hs26 (i o n e : Nat) : aLen Tryd.prog 26 (.hs i o n e) = some (.int .i64 n) := by kernel_rfl
theorem len_nils51 : aLen Tryd.prog 51 .nils = some (.int .i64 0) := by kernel_rfl
theorem len_is51 (n : Nat) (cs : List AV) : aLen Tryd.prog 51 (.is n cs) = some (.int .i64 n) := by kernel_rfl
theorem len_hs51 (i o n e : Nat) : aLen Tryd.prog 51 (.hs i o n e) = some (.int .i64 n) := by kernel_rfl
theorem len_nils54 : aLen Tryd.prog 54 .nils = some (.int .i64 0) := by kernel_rfl
theorem len_is54 (n : Nat) (cs : List AV) : aLen Tryd.prog 54 (.is n cs) = some (.int .i64 n) := by kernel_rfl
theorem len_hs54 (i o n e : Nat) : aLen Tryd.prog 54 (.hs i o n e) = some (.int .i64 n) := by kernel_rfl
theorem len_nils57 : aLen Tryd.prog 57 .nils = some (.int .i64 0) := by kernel_rfl
theorem len_is57 (n : Nat) (cs : List AV) : aLen Tryd.prog 57 (.is n cs) = some (.int .i64 n) := by kernel_rfl
theorem len_hs57 (i o n e : Nat) : aLen Tryd.prog 57 (.hs i o n e) = some (.int .i64 n) := by kernel_rfl
theorem bO_s {α β : Type} (a : α) (f : α → Option β) : bO (some a) f = f a := (rfl)
theorem gB_t {β : Type} (k : Option β) : gB true k = k := (rfl)
theorem asBool_b {β : Type} (b : Bool) (f : Bool → Option β) : asBool (.bool b) f = f b := (rfl)
theorem asInt_i {β : Type} (k : IntKind) (n : Int) (f : Int → Option β) : asInt k (.int k n) f = f n := by simp [asInt]
theorem asAgg_a {β : Type} (l : List AV) (f : List AV → Option β) : asAgg (.agg l) f = f l := (rfl)
theorem asTup_a {β : Type} (l : List AV) (f : List AV → Option β) : asTup (.tup l) f = f l := (rfl)
theorem asStr_s {β : Type} (l : ByteArray) (f : ByteArray → Option β) : asStr (.str l) f = f l := (rfl)
theorem asCons_c {β : Type} (a : AV) (l : List AV) (f : AV → List AV → Option β) : asCons (a :: l) f = f a l := (rfl)
theorem asNil_n {β : Type} (o : Option β) : asNil [] o = o := (rfl)
theorem nthA_0 (a : AV) (l : List AV) : nthA (a :: l) 0 = a := (rfl)
theorem nthA_s (a : AV) (l : List AV) (n : Nat) : nthA (a :: l) (n + 1) = nthA l n := (rfl)
theorem aggCells_a (l : List AV) : aggCells (.agg l) = l := (rfl)
theorem addV_p (i o n : Nat) : addV (.ptr i o) n = some (.ptr i (o + n)) := (rfl)
theorem addV_i (cs : List AV) (n : Nat) : addV (.iptr cs) n = some (.iptr (cs.drop n)) := (rfl)
theorem seeV_p (i o : Nat) (S : Heap) : seeV (.ptr i o) S = (match S.blk i with | some cs => some (cs, o) | none => none) := (rfl)
theorem seeV_i (cs : List AV) (S : Heap) : seeV (.iptr cs) S = some (cs, 0) := (rfl)
theorem same_nil : ctlV.same [] = true := by simp [ctlV]
open Classical in
theorem same_1 (a : AV) (S T : Heap) : ctlV.same [.see a S T] = decide (seeV a S = seeV a T) := by simp [ctlV, Chk.ok]
open Classical in
theorem same_2 (a b : AV) (S T U V : Heap) : ctlV.same [.see a S T, .see b U V] = (decide (seeV a S = seeV a T) && decide (seeV b U = seeV b V)) := by simp [ctlV, Chk.ok]
theorem tr_v (S S' : Heap) (v : AV) : ctlV.tr S v S' = (v, S') := (rfl)
end Go.Ab.tK
