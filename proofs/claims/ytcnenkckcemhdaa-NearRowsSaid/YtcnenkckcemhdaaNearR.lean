/- The functions of the chapter 14 on macroblocks of which Qp alone is not 0: what calls of them come to, and the law NearRows: for two bytes whatever. No condition beyond that. -/
import Derived.Test.YtcnenkckcemhdaaNearC
import Derived.IntWalk
set_option maxRecDepth 100000
set_option linter.unusedSimpArgs false
set_option linter.unusedVariables false
namespace Go.Ab.tNear
open Go Go.Proofs

-- how the parts of a T are reckoned
@[simp] theorem bO_s {α β : Type} (a : α) (f : α → Option β) : bO (some a) f = f a := (rfl)
@[simp] theorem gB_t {β : Type} (k : Option β) : gB true k = k := (rfl)
@[simp] theorem asBool_b {β : Type} (b : Bool) (f : Bool → Option β) : asBool (.bool b) f = f b := (rfl)
@[simp] theorem asInt_i {β : Type} (k : IntKind) (n : Int) (f : Int → Option β) : asInt k (.int k n) f = f n := by simp [asInt]
@[simp] theorem asAgg_a {β : Type} (l : List AV) (f : List AV → Option β) : asAgg (.agg l) f = f l := (rfl)
@[simp] theorem asTup_a {β : Type} (l : List AV) (f : List AV → Option β) : asTup (.tup l) f = f l := (rfl)
@[simp] theorem asCons_c {β : Type} (a : AV) (l : List AV) (f : AV → List AV → Option β) : asCons (a :: l) f = f a l := (rfl)
@[simp] theorem nthA_0 (a : AV) (l : List AV) : nthA (a :: l) 0 = a := (rfl)
@[simp] theorem nthA_s (a : AV) (l : List AV) (n : Nat) : nthA (a :: l) (n + 1) = nthA l n := (rfl)
@[simp] theorem aggCells_a (l : List AV) : aggCells (.agg l) = l := (rfl)
@[simp] theorem addV_p (i o n : Nat) : addV (.ptr i o) n = some (.ptr i (o + n)) := (rfl)
@[simp] theorem seeV_p (i o : Nat) (S : Heap) : seeV (.ptr i o) S = (match S.blk i with | some cs => some (cs, o) | none => none) := (rfl)
@[simp] theorem same_nil : ctlW.same [] = true := by simp [ctlW]
theorem tr_id (S : Heap) (v : AV) : ctlW.tr S v S = (v, S) := by simp only [ctlW, trim]; split <;> rfl
@[simp] theorem tr_same (S : Heap) (v : AV) : ctlW.tr S v S = (v, S) := tr_id S v
@[simp] theorem eql_ptr (i o : Nat) : aBin Try.prog .eql 32 (.ptr i o) .nilp = some (.bool false) := by kernel_rfl
@[simp] theorem len_nils : aLen Try.prog 22 .nils = some (.int .i64 0) := by kernel_rfl
@[simp] theorem len_hs (i o n e : Nat) : aLen Try.prog 22 (.hs i o n e) = some (.int .i64 n) := by kernel_rfl

def z29 (q : Int) : List AV := [.int .u8 0, .int .u8 0, .int .u8 0, .int .u8 0, .int .u8 0, .int .u8 0, .int .u8 0, .int .u8 0, .int .u8 0, .int .u8 0, .int .u8 0, .int .u8 0, .int .u8 0, .int .u8 0, .int .u8 0, .int .u8 0, .int .u8 0, .int .u8 0, .int .u8 0, .int .u8 0, .int .u8 0, .int .u8 0, .int .u8 0, .nils, .nils, .int .u8 0, .int .i64 q, .nils, .str ByteArray.empty]
def cellsTo : Nat → List AV
  | 0 => []
  | i + 1 => cellsTo i ++ z29 ((i : Int) + 1)
def H (w : Int) (i : Nat) : Heap := { next := i + 1, blk := fun j => if j = 0 then some [.int .i64 0, .int .i64 w, if i = 0 then .nils else .hs i 0 i 29] else if j = i then some (cellsTo i) else none, cx := (none, []) }
@[simp] theorem H_0 (w : Int) (i : Nat) : (H w i).blk 0 = some [.int .i64 0, .int .i64 w, if i = 0 then .nils else .hs i 0 i 29] := (rfl)


theorem wr (n : Int) (h : -9223372036854775808 ≤ n ∧ n ≤ 9223372036854775807) : IntKind.i64.wrap n = n := IntWalk.i64_in n h
theorem next_c (B : CallF) (k : Nat) (w : Int) (i : Nat) (hi : i ≤ 60) (hB : B f_near_Near_Next 0 [.ptr 0 0] (H w i) = none) : Cn B (k + 1) f_near_Near_Next 0 [.ptr 0 0] (H w i) = some (.int .i64 i, H w i) := by
  rw [c_near_Near_Next _ _ _ _ hB, T_near_Near_Next]
  have hw : IntKind.i64.wrap (i : Int) = i := wr _ (by omega)
  by_cases h0 : i = 0
  · subst h0; simpa using hw
  · simp [h0, hw]

/-- What is known beforehand says nothing of these. -/
def Silent (B : CallF) : Prop := ∀ f way args S, f ≠ f_spindlelaw14_awake → B f way args S = none

theorem fz_nils (d : Nat) (S : Heap) : fz (d + 1) .nils S = some (.nils, S) := rfl
theorem eql_nils25 : aBin Try.prog .eql 25 .nils .nils = some (.bool true) := by kernel_rfl
theorem eql_nils26 : aBin Try.prog .eql 26 .nils .nils = some (.bool true) := by kernel_rfl
theorem eql_nils27 : aBin Try.prog .eql 27 .nils .nils = some (.bool true) := by kernel_rfl

theorem clone1_c {B : CallF} (hB : Silent B) (k : Nat) (S : Heap) : Cn B (k + 1) f_slices_Clone_int_int 0 [.nils] S = some (.nils, S) := by
  rw [c_slices_Clone_int_int _ _ _ _ (hB _ _ _ _ (by decide)), T_slices_Clone_int_int]
  simp [eql_nils25, fz_nils]
theorem clone2_c {B : CallF} (hB : Silent B) (k : Nat) (S : Heap) : Cn B (k + 1) f_slices_Clone_api_Vec_api_Vec 0 [.nils] S = some (.nils, S) := by
  rw [c_slices_Clone_api_Vec_api_Vec _ _ _ _ (hB _ _ _ _ (by decide)), T_slices_Clone_api_Vec_api_Vec]
  simp [eql_nils26, fz_nils]
theorem clone3_c {B : CallF} (hB : Silent B) (k : Nat) (S : Heap) : Cn B (k + 1) f_slices_Clone_int_int_v2 0 [.nils] S = some (.nils, S) := by
  rw [c_slices_Clone_int_int_v2 _ _ _ _ (hB _ _ _ _ (by decide)), T_slices_Clone_int_int_v2]
  simp [eql_nils27, fz_nils]

def plain1 : AV → Bool
  | .hs _ _ _ _ => false
  | .agg _ => false
  | .tup _ => false
  | _ => true
theorem fz_plain1 {d : Nat} {a : AV} {S : Heap} (h : plain1 a = true) : fz (d + 1) a S = some (a, S) := by cases a <;> simp [plain1] at h <;> rfl
theorem fzM_plain {d : Nat} {S : Heap} : ∀ {l : List AV}, l.all plain1 = true → fzM (fz (d + 1)) l S = some (l, S)
  | [], _ => rfl
  | a :: l, h => by
    simp only [List.all_cons, Bool.and_eq_true] at h
    simp only [fzM, fz_plain1 h.1, fzM_plain h.2]
theorem fz40_agg {l : List AV} {S : Heap} (h : l.all plain1 = true) : fz 40 (.agg l) S = some (.agg l, S) := by
  rw [show (40 : Nat) = 38 + 1 + 1 from rfl, fz, fzM_plain h]
theorem fz40_pair {l : List AV} {b : Bool} {S : Heap} (h : l.all plain1 = true) : fz 40 (.tup [.agg l, .bool b]) S = some (.tup [.agg l, .bool b], S) := by
  rw [show (40 : Nat) = 37 + 1 + 1 + 1 from rfl, fz]
  simp only [fzM]
  rw [fz, fzM_plain h]
  rfl
theorem bloop {step : LSt → Option (LSt ⊕ (Nat × LSt))} {s : LSt} {α : Type} {f : Nat × LSt → Option α} :
    bO (ctlW.loop step s) f = (match step s with | some (.inl s') => bO (ctlW.loop step s') f | some (.inr x) => f x | none => none) := by
  show bO (loopW step s) f = _
  cases h : step s with
  | none =>
    have : loopW step s = none := by
      unfold loopW
      rw [dif_neg]
      rintro ⟨x, hx⟩
      cases hx with
      | done k => rw [h] at k; cases k
      | cont k _ => rw [h] at k; cases k
    rw [this]; rfl
  | some y =>
    cases y with
    | inl s' => simp only; rw [loopW_cont h]; rfl
    | inr x => simp only; rw [loopW_done h]; rfl

theorem len27 : aLen Try.prog 27 .nils = some (.int .i64 0) := by kernel_rfl
theorem copy_c {B : CallF} (hB : Silent B) (k : Nat) (q : Int) (S : Heap) : Cn B (k + 2) f_mb_Copy 0 [.agg (z29 q)] S = some (.agg (z29 q), S) := by
  rw [c_mb_Copy _ _ _ _ (hB _ _ _ _ (by decide)), T_mb_Copy]
  simp [z29, clone1_c hB, clone2_c hB, clone3_c hB, setCells, cell, len27]
  rw [bloop]
  simp [sel, setCells, cell, fz40_agg, plain1]

@[simp] theorem H_next (w : Int) (i : Nat) : (H w i).next = i + 1 := (rfl)
@[simp] theorem set_next (S : Heap) (i : Nat) (c : Option (List AV)) : (S.set i c).next = S.next := (rfl)
theorem H_cx (w : Int) (i : Nat) : (H w i).cx = (none, []) := rfl
theorem len_z29 (q : Int) : (z29 q).length = 29 := (rfl)
theorem len_cellsTo : ∀ i, (cellsTo i).length = i * 29
  | 0 => rfl
  | i + 1 => by simp [cellsTo, len_cellsTo i, len_z29]; omega
theorem H_i (w : Int) {i : Nat} (h : i ≠ 0) : (H w i).blk i = some (cellsTo i) := by simp [H, h]
theorem H_ext {S : Heap} {w : Int} {i : Nat} (h1 : S.next = i + 1) (h2 : ∀ j, S.blk j = (H w i).blk j) (h3 : S.cx = (none, [])) : S = H w i := by
  obtain ⟨n, b, c⟩ := S
  simp only at h1 h2 h3
  subst h1 h3
  have : b = (H w i).blk := funext h2
  subst this; rfl
theorem take_z29 (q : Int) : List.take 29 (z29 q) = z29 q := (rfl)
theorem set_z29 (q : Int) : setCells [.int .u8 0, .int .u8 0, .int .u8 0, .int .u8 0, .int .u8 0, .int .u8 0, .int .u8 0, .int .u8 0, .int .u8 0, .int .u8 0, .int .u8 0, .int .u8 0, .int .u8 0, .int .u8 0, .int .u8 0, .int .u8 0, .int .u8 0, .int .u8 0, .int .u8 0, .int .u8 0, .int .u8 0, .int .u8 0, .int .u8 0, .nils, .nils, .int .u8 0, .int .i64 0, .nils, .str ByteArray.empty] 0 (z29 q) = z29 q := (rfl)
theorem same_see (a : AV) (S : Heap) : ctlW.same [.see a S S] = true := by simp [ctlW, Chk.ok]
theorem tr_ne {S S' : Heap} {v : AV} (i : Nat) (h : i < S.next) (hne : S'.blk i ≠ S.blk i) : ctlW.tr S v S' = (v, S') := by
  simp only [ctlW, trim]
  rw [if_neg]
  rintro ⟨_, _, h3⟩
  exact hne (h3 i h)
theorem cell_z29 (q : Int) : (z29 q).all cell = true := (rfl)
theorem append1_nil {es by' : Nat} {new : List AV} {S : Heap} (hn : new.length = es) (hb : by' ≤ mostRoom) : aAppend es by' .nils (.is 1 new) S = some (.hs S.next 0 1 es, S.alloc new) := by
  unfold aAppend rowOf
  simp only [Nat.one_mul, hn, if_true]
  unfold aAppendN
  have h1 : (1 : Nat) ≤ mostRoom := by unfold mostRoom; omega
  simp [hb, h1]
theorem append1_hs {es by' id m : Nat} {cs new : List AV} {S : Heap} (h : S.blk id = some cs) (hl : cs.length = m * es) (hn : new.length = es) (hb : (m + 1) * by' ≤ mostRoom) (hm : m + 1 ≤ mostRoom) (hc : new.all cell = true) :
    aAppend es by' (.hs id 0 m es) (.is 1 new) S = some (.hs S.next 0 (m + 1) es, (S.set id none).alloc (cs ++ new)) := by
  unfold aAppend rowOf
  simp only [Nat.one_mul, hn, if_true]
  unfold aAppendN
  simp [h, hl, hb, hm]
  refine ⟨by simpa using hc, ?_⟩
  rw [List.take_of_length_le (by omega)]
theorem add_c {B : CallF} (hB : Silent B) (k : Nat) (w : Int) (i : Nat) (hi : i < 60) : Cn B (k + 3) f_near_Near_Add 0 [.ptr 0 0, .agg (z29 ((i : Int) + 1))] (H w i) = some (.int .i64 0, H w (i + 1)) := by
  rw [c_near_Near_Add _ _ _ _ _ (hB _ _ _ _ (by decide)), T_near_Near_Add]
  have hn := next_c B (k + 1) w i (by omega) (hB _ _ _ _ (by decide))
  have h1 : ¬ (8160 ≤ (i : Int)) := by omega
  simp [hn, len_z29, h1, take_z29, copy_c hB, set_z29, same_see]
  by_cases h0 : i = 0
  · subst h0
    rw [if_pos rfl, append1_nil (by' := 128) (len_z29 _) (by unfold mostRoom; omega)]
    simp [cell, putV, Heap.alloc, setCells, H]
    rw [tr_ne 0 (by simp) (by simp [Heap.set])]
    refine congrArg (Prod.mk _) ?_
    refine H_ext (w := w) (i := 1) rfl (fun j => ?_) rfl
    simp only [Heap.set, H]
    by_cases hj : j = 0
    · simp [hj]
    · by_cases hj1 : j = 1
      · simp [hj1, cellsTo]
      · simp [hj, hj1]
  · have hb : (i + 1) * 128 ≤ mostRoom := by unfold mostRoom; omega
    have hb2 : i + 1 ≤ mostRoom := by unfold mostRoom; omega
    rw [if_neg h0, append1_hs (H_i w h0) (len_cellsTo i) (len_z29 _) hb hb2 rfl]
    have hne : ¬ (0 = i) := fun h => h0 h.symm
    simp [cell, putV, Heap.alloc, Heap.set, setCells, hne, h0]
    rw [tr_ne 0 (by simp) (by simp [h0])]
    refine congrArg (Prod.mk _) ?_
    refine H_ext (w := w) (i := i + 1) rfl (fun j => ?_) rfl
    simp only [H]
    by_cases hj : j = 0
    · simp [hj, h0]
    · by_cases hj1 : j = i + 1
      · simp [hj1, cellsTo]
      · by_cases hj2 : j = i
        · simp [hj2, h0]
        · simp [hj, hj1, hj2]

theorem new_c {B : CallF} (hB : Silent B) (k : Nat) (w : Int) (hw : 1 ≤ w ∧ w ≤ 128) : Cn B (k + 1) f_near_New 0 [.int .i64 0, .int .i64 w] S0 = some (.tup [.ptr 0 0, .int .i64 0], H w 0) := by
  rw [c_near_New _ _ _ _ _ (hB _ _ _ _ (by decide)), T_near_New]
  have h1 : ¬ (w < 1) := by omega
  have h2 : ¬ (128 < w) := by omega
  simp [h1, h2, Heap.alloc, S0, ctlW, trim, noId, noIdL, H]
  funext j
  by_cases hj : j = 0 <;> simp [hj]

theorem loop_ind {step : LSt → Option (LSt ⊕ (Nat × LSt))} {α : Type} {f : Nat × LSt → Option α} (I : Nat → LSt) (c : Nat) {x : Nat × LSt} (h1 : ∀ i, i < c → step (I i) = some (.inl (I (i + 1)))) (h2 : step (I c) = some (.inr x)) :
    bO (ctlW.loop step (I 0)) f = f x := by
  have : ∀ n i, i + n = c → bO (ctlW.loop step (I i)) f = f x := by
    intro n
    induction n with
    | zero =>
      intro i h
      have : i = c := by omega
      subst this
      rw [bloop, h2]
    | succ n ih =>
      intro i h
      rw [bloop, h1 i (by omega)]
      exact ih (i + 1) (by omega)
  exact this c 0 (by omega)

theorem tr_id2 {S S' : Heap} {v : AV} (h : noId v = false) : ctlW.tr S v S' = (v, S') := by
  simp only [ctlW, trim]
  rw [if_neg]
  rintro ⟨h1, _⟩
  rw [h] at h1; cases h1
/-- The helper 'at': so many are added. -/
theorem at_c {B : CallF} (hB : Silent B) (k : Nat) (w : Int) (hw : 1 ≤ w ∧ w ≤ 128) (c : Nat) (hc : c < 60) : Cn B (k + 4) f_spindlelaw14_at 0 [.int .i64 0, .int .i64 w, .int .i64 c] S0 = some (.ptr 0 0, H w c) := by
  rw [c_spindlelaw14_at _ _ _ _ _ _ (hB _ _ _ _ (by decide)), T_spindlelaw14_at]
  simp [new_c hB (k + 2) w hw]
  refine (loop_ind (fun i => ([.int .i64 (c : Int), .ptr 0 0, .int .i64 (i : Int)], H w i)) c (x := (0, [.ptr 0 0], H w c)) (fun i hi => ?_) ?_).trans ?_
  · have hlt : (i : Int) < c := by omega
    have hw : IntKind.wrap .i64 ((i : Int) + 1) = (i : Int) + 1 := wr _ (by omega)
    have ha := add_c hB k w i (by omega)
    rw [z29] at ha
    simp [hlt, hw, ha]
  · simp
  · simp [sel, tr_id2 (v := .ptr 0 0) rfl]

theorem chunk (q : Nat) : ∀ c, q < c → List.take 29 (List.drop (q * 29) (cellsTo c)) = z29 ((q : Int) + 1)
  | 0, h => by omega
  | c + 1, h => by
    simp only [cellsTo]
    by_cases hq : q < c
    · rw [List.drop_append_of_le_length (by rw [len_cellsTo]; omega), List.take_append_of_le_length (by simp [len_cellsTo]; omega), chunk q c hq]
    · have : q = c := by omega
      subst this
      rw [List.drop_append, List.drop_eq_nil_of_le (by rw [len_cellsTo]; omega)]
      simp [len_cellsTo, take_z29]

/-- What is found at an address. -/
def found (c : Nat) (a : Int) : AV := if 0 ≤ a ∧ a < c then .tup [.agg (z29 (a + 1)), .bool true] else .tup [.agg (z29 0), .bool false]
theorem nat_c {B : CallF} (hB : Silent B) (k : Nat) (w : Int) (c : Nat) (hc : c < 60) (a : Int) (ha : -200 ≤ a ∧ a ≤ 200) : Cn B (k + 3) f_near_Near_at 0 [.ptr 0 0, .int .i64 a] (H w c) = some (found c a, H w c) := by
  rw [c_near_Near_at _ _ _ _ _ (hB _ _ _ _ (by decide)), T_near_Near_at]
  have hn := next_c B (k + 1) w c (by omega) (hB _ _ _ _ (by decide))
  unfold found
  by_cases h0 : a < 0
  · have h1 : ¬ (0 ≤ a ∧ a < c) := by omega
    simp [h0, h1, setCells, fz40_pair, plain1, z29]
  · by_cases h2 : a < c
    · have h1 : 0 ≤ a ∧ a < c := by omega
      have h3 : ¬ ((c : Int) ≤ a) := by omega
      have hc0 : c ≠ 0 := by omega
      obtain ⟨q, rfl⟩ := Int.eq_ofNat_of_zero_le h1.1
      have hq : q < c := by omega
      have hix : aIdx 29 (.hs c 0 c 29) (q : Int) = some (.ptr c (q * 29)) := by simp [aIdx, hq]
      have hlen : q * 29 + 29 ≤ (cellsTo c).length := by rw [len_cellsTo]; omega
      simp [h0, h3, hn, wr (q : Int) (by omega), hc0, hix, H_i w hc0, hlen, hq, chunk q c hq, copy_c hB, len_z29, cell_z29, set_z29, take_z29]
      rw [fz40_pair rfl]
      simp
    · have h1 : ¬ (0 ≤ a ∧ a < c) := by omega
      have h3 : (c : Int) ≤ a := by omega
      simp [h0, h1, h3, hn, setCells, fz40_pair, plain1, z29]

theorem rem64 (x y : Int) (h : y ≠ 0) : aInt .rem .i64 x y = some (.int .i64 (x.tmod y)) := by simp [aInt, h]
theorem foundTup (c : Nat) (a : Int) : ∃ q b, found c a = .tup [.agg (z29 q), .bool b] ∧ (b = decide (0 ≤ a ∧ a < c)) ∧ q = if 0 ≤ a ∧ a < c then a + 1 else 0 := by
  unfold found
  by_cases h : 0 ≤ a ∧ a < c
  · exact ⟨a + 1, true, by rw [if_pos h], by simp [h], by rw [if_pos h]⟩
  · exact ⟨0, false, by rw [if_neg h], by simp; omega, by rw [if_neg h]⟩
theorem above_c {B : CallF} (hB : Silent B) (k : Nat) (w : Int) (hw : 1 ≤ w ∧ w ≤ 128) (c : Nat) (hc : c < 60) : Cn B (k + 4) f_near_Near_Above 0 [.ptr 0 0] (H w c) = some (found c ((c : Int) - w), H w c) := by
  rw [c_near_Near_Above _ _ _ _ (hB _ _ _ _ (by decide)), T_near_Near_Above]
  have hn := next_c B (k + 2) w c (by omega) (hB _ _ _ _ (by decide))
  have ha := nat_c hB k w c hc ((c : Int) - w) (by omega)
  obtain ⟨q, b, hf, _, _⟩ := foundTup c ((c : Int) - w)
  rw [hf] at ha ⊢
  simp [hn, same_see, wr ((c : Int) - w) (by omega), ha, len_z29, cell_z29, set_z29, take_z29]
  rw [fz40_pair rfl]
  simp
theorem left_c {B : CallF} (hB : Silent B) (k : Nat) (w : Int) (hw : 1 ≤ w ∧ w ≤ 128) (c : Nat) (hc : c < 60) : Cn B (k + 4) f_near_Near_Left 0 [.ptr 0 0] (H w c) = some (if (c : Int).tmod w = 0 then .tup [.agg (z29 0), .bool false] else found c ((c : Int) - 1), H w c) := by
  rw [c_near_Near_Left _ _ _ _ (hB _ _ _ _ (by decide)), T_near_Near_Left]
  have hn := next_c B (k + 2) w c (by omega) (hB _ _ _ _ (by decide))
  have ha := nat_c hB k w c hc ((c : Int) - 1) (by omega)
  obtain ⟨q, b, hf, _, _⟩ := foundTup c ((c : Int) - 1)
  rw [hf] at ha ⊢
  have hw0 : w ≠ 0 := by omega
  by_cases h0 : (c : Int).tmod w = 0
  · simp [hn, same_see, rem64 _ _ hw0, h0, setCells, fz40_pair, plain1, z29]
  · have hx : ¬ (yldId ≤ f_near_Near_at) := by decide
    simp [hn, same_see, rem64 _ _ hw0, h0, wr ((c : Int) - 1) (by omega), callK, hx, OAn.way, OAn.cFrz, ha, len_z29, cell_z29, set_z29, take_z29]
    rw [fz40_pair rfl]
    simp
theorem finds_c {B : CallF} (hB : Silent B) (k : Nat) (q : Int) (b : Bool) (n : Int) (S : Heap) : Cn B (k + 1) f_spindlelaw14_finds 0 [.agg (z29 q), .bool b, .int .i64 n] S = some (.bool (b == (n != 0) && q == n), S) := by
  rw [c_spindlelaw14_finds _ _ _ _ _ _ (hB _ _ _ _ (by decide)), T_spindlelaw14_finds]
  have he : ∀ x y : Bool, aBin Try.prog .eql 4 (.bool x) (.bool y) = some (.bool (x == y)) := fun x y => by cases x <;> cases y <;> kernel_rfl
  simp only [z29, asAgg_a, asBool_b, asInt_i, he, bO_s]
  cases h : (b == (n != 0)) <;> simp

theorem tr_fst (S S1 : Heap) (v : AV) : ∃ S', ctlW.tr S v S1 = (v, S') := by
  simp only [ctlW, trim]
  split <;> exact ⟨_, rfl⟩
theorem some_tr (S S1 : Heap) (v : AV) : ∃ S', some (ctlW.tr S v S1) = some (v, S') := by
  obtain ⟨S', h⟩ := tr_fst S S1 v
  exact ⟨S', by rw [h]⟩
theorem quo64 (x y : Int) (h : y ≠ 0) : aInt .quo .i64 x y = some (.int .i64 (IntKind.wrap .i64 (x.tdiv y))) := by simp [aInt, h]
theorem rows_c {B : CallF} (hB : Silent B) (hA : ∀ S, B f_spindlelaw14_awake 0 [] S = some (.bool true, S)) (k : Nat) (i1 i2 : Int) (h1 : 0 ≤ i1 ∧ i1 ≤ 255) (h2 : 0 ≤ i2 ∧ i2 ≤ 255) :
    ∃ S', Cn B (k + 5) f_spindlelaw14_NearRows 0 [.int .u8 i1, .int .u8 i2] S0 = some (.bool true, S') := by
  rw [c_spindlelaw14_NearRows _ _ _ _ _ (hB _ _ _ _ (by decide)), T_spindlelaw14_NearRows]
  obtain ⟨c, hc⟩ : ∃ c : Nat, Int.tmod (IntKind.wrap .i64 i2) 60 = c := by
    rw [wr i2 (by omega), Int.tmod_eq_emod_of_nonneg h2.1]
    exact Int.eq_ofNat_of_zero_le (by omega)
  have hc60 : c < 60 := by
    rw [wr i2 (by omega), Int.tmod_eq_emod_of_nonneg h2.1] at hc
    omega
  obtain ⟨w, hw⟩ : ∃ w : Int, IntKind.wrap .i64 (1 + Int.tmod (IntKind.wrap .i64 i1) 9) = w := ⟨_, rfl⟩
  have hw9 : 1 ≤ w ∧ w ≤ 9 := by
    rw [wr i1 (by omega), Int.tmod_eq_emod_of_nonneg h1.1, wr _ (by omega)] at hw
    omega
  have hw128 : 1 ≤ w ∧ w ≤ 128 := by omega
  have hw0 : w ≠ 0 := by omega
  simp only [asInt_i]
  rw [hc, hw]
  have hL := left_c hB k w hw128 c hc60
  have hAb := above_c hB k w hw128 c hc60
  have haw : ∀ S, Cn B (k + 4) f_spindlelaw14_awake 0 [] S = some (.bool true, S) := fun S => by simp only [Cn, callN, hA]
  obtain ⟨q1, b1, e1, eb1, eq1⟩ := foundTup c ((c : Int) - 1)
  obtain ⟨q2, b2, e2, eb2, eq2⟩ := foundTup c ((c : Int) - w)
  rw [e1] at hL
  rw [e2] at hAb
  have hquo : IntKind.wrap .i64 ((c : Int).tdiv w) = (c : Int) / w := by
    rw [Int.tdiv_eq_ediv_of_nonneg (by omega)]
    have h1 : 0 ≤ (c : Int) / w := Int.ediv_nonneg (by omega) (by omega)
    have h2 : (c : Int) / w ≤ c := Int.ediv_le_self _ (by omega)
    exact wr _ (by omega)
  have hrem : (c : Int).tmod w = (c : Int) % w := Int.tmod_eq_emod_of_nonneg (by omega)
  simp only [hrem] at hL
  have hwr : IntKind.wrap .i64 ((c : Int) / w) = (c : Int) / w := by
    rw [Int.tdiv_eq_ediv_of_nonneg (by omega)] at hquo; exact hquo
  obtain ⟨m, hm⟩ : ∃ m, (c : Int) % w = m := ⟨_, rfl⟩
  obtain ⟨r, hr⟩ : ∃ r, (c : Int) / w = r := ⟨_, rfl⟩
  obtain ⟨p, hp⟩ : ∃ p, r * w = p := ⟨_, rfl⟩
  have hpm : p + m = c := by
    have := Int.mul_ediv_add_emod (c : Int) w
    rw [hr, hm, Int.mul_comm, hp] at this
    exact this
  have hm0 : 0 ≤ m ∧ m < w := by rw [← hm]; exact ⟨Int.emod_nonneg _ hw0, Int.emod_lt_of_pos _ (by omega)⟩
  have hr0 : 0 ≤ r := by rw [← hr]; exact Int.ediv_nonneg (by omega) (by omega)
  have hr59 : r ≤ 59 := by
    have : (c : Int) / w ≤ c := Int.ediv_le_self _ (by omega)
    omega
  have hr1 : (r - 1) * w = p - w := by rw [Int.sub_mul, hp, Int.one_mul]
  have hp0 : r = 0 → p = 0 := fun h => by rw [← hp, h, Int.zero_mul]
  have hpw : r ≠ 0 → w ≤ p := fun h => by
    have h3 : 0 ≤ (r - 1) * w := Int.mul_nonneg (by omega) (by omega)
    omega
  rw [hr] at hquo hwr
  rw [hm] at hrem hL
  have k1 : IntKind.wrap .i64 r = r := hwr
  have k2 : IntKind.wrap .i64 p = p := wr _ (by omega)
  have k3 : IntKind.wrap .i64 (p + m) = p + m := wr _ (by omega)
  have k4 : IntKind.wrap .i64 (r - 1) = r - 1 := wr _ (by omega)
  have k5 : IntKind.wrap .i64 (p - w) = p - w := wr _ (by omega)
  have k6 : IntKind.wrap .i64 (p - w + m) = p - w + m := wr _ (by omega)
  have k7 : IntKind.wrap .i64 (p - w + m + 1) = p - w + m + 1 := wr _ (by omega)
  -- what both ways of both tests come to
  have key : ∀ (q : Int) (b : Bool) (n q' : Int) (b' : Bool) (n' : Int), (b == (n != 0) && q == n) = true → (b' == (n' != 0) && q' == n') = true → ∃ S', (bO (Cn B (k + 4) f_spindlelaw14_finds 0 [.agg (z29 q), .bool b, .int .i64 n] (H w c)) fun t39 => asBool t39.1 fun b40 => if b40 = true then
      (bO (Cn B (k + 4) f_spindlelaw14_finds 0 [.agg (z29 q'), .bool b', .int .i64 n'] t39.2) fun t41 => asBool t41.1 fun b42 => if b42 = true then bO (Cn B (k + 4) f_spindlelaw14_awake 0 [] t41.2) fun t43 => asBool t43.1 fun b44 => some (ctlW.tr S0 (.bool b44) t43.2)
        else some (ctlW.tr S0 (.bool false) t41.2)) else some (ctlW.tr S0 (.bool false) t39.2)) = some (.bool true, S') := by
    intro q b n q' b' n' h1 h2
    rw [finds_c hB, h1]
    simp only [bO_s, asBool_b, if_true]
    rw [finds_c hB, h2]
    simp only [bO_s, asBool_b, if_true]
    rw [haw]
    simp only [bO_s, asBool_b]
    exact some_tr _ _ _
  by_cases hm1 : m = 0
  · have hd1 : decide (m > 0) = false := by simp; omega
    rw [if_pos hm1] at hL
    by_cases hr2 : r = 0
    · have hd2 : decide (r > 0) = false := by simp; omega
      have hb2 : b2 = false := by rw [eb2]; have := hp0 hr2; simp; omega
      have hq2 : q2 = 0 := by rw [eq2, if_neg]; have := hp0 hr2; omega
      simp only [at_c hB k w hw128 c hc60, bO_s, eql_ptr, asBool_b, Bool.false_eq_true, if_false, quo64 _ _ hw0, hquo, asInt_i, rem64 _ _ hw0, hrem, hL, hAb, asTup_a, asCons_c, asAgg_a, len_z29, cell_z29, beq_self_eq_true, gB_t, Nat.zero_add, Nat.le_refl, decide_true, hd1, hd2, if_true,
        nthA_0, nthA_s, aggCells_a, set_z29, take_z29, List.drop_zero, hp, k1, k2, k3, k4, hr1, k5, k6, k7]
      exact key 0 false 0 q2 b2 0 (by decide) (by rw [hb2, hq2]; decide)
    · have hd2 : decide (r > 0) = true := by simp; omega
      have hw1 := hpw hr2
      have hb2 : b2 = true := by rw [eb2]; simp; omega
      have hq2 : q2 = p - w + m + 1 := by rw [eq2, if_pos] <;> omega
      simp only [at_c hB k w hw128 c hc60, bO_s, eql_ptr, asBool_b, Bool.false_eq_true, if_false, quo64 _ _ hw0, hquo, asInt_i, rem64 _ _ hw0, hrem, hL, hAb, asTup_a, asCons_c, asAgg_a, len_z29, cell_z29, beq_self_eq_true, gB_t, Nat.zero_add, Nat.le_refl, decide_true, hd1, hd2, if_true,
        nthA_0, nthA_s, aggCells_a, set_z29, take_z29, List.drop_zero, hp, k1, k2, k3, k4, hr1, k5, k6, k7]
      exact key 0 false 0 q2 b2 _ (by decide) (by rw [hb2, hq2]; simp; omega)
  · have hd1 : decide (m > 0) = true := by simp; omega
    rw [if_neg hm1] at hL
    have hb1 : b1 = true := by rw [eb1]; simp; omega
    have hq1 : q1 = p + m := by rw [eq1, if_pos] <;> omega
    by_cases hr2 : r = 0
    · have hd2 : decide (r > 0) = false := by simp; omega
      have hb2 : b2 = false := by rw [eb2]; have := hp0 hr2; simp; omega
      have hq2 : q2 = 0 := by rw [eq2, if_neg]; have := hp0 hr2; omega
      simp only [at_c hB k w hw128 c hc60, bO_s, eql_ptr, asBool_b, Bool.false_eq_true, if_false, quo64 _ _ hw0, hquo, asInt_i, rem64 _ _ hw0, hrem, hL, hAb, asTup_a, asCons_c, asAgg_a, len_z29, cell_z29, beq_self_eq_true, gB_t, Nat.zero_add, Nat.le_refl, decide_true, hd1, hd2, if_true,
        nthA_0, nthA_s, aggCells_a, set_z29, take_z29, List.drop_zero, hp, k1, k2, k3, k4, hr1, k5, k6, k7]
      exact key q1 b1 _ q2 b2 0 (by rw [hb1, hq1]; simp; omega) (by rw [hb2, hq2]; decide)
    · have hd2 : decide (r > 0) = true := by simp; omega
      have hw1 := hpw hr2
      have hb2 : b2 = true := by rw [eb2]; simp; omega
      have hq2 : q2 = p - w + m + 1 := by rw [eq2, if_pos] <;> omega
      simp only [at_c hB k w hw128 c hc60, bO_s, eql_ptr, asBool_b, Bool.false_eq_true, if_false, quo64 _ _ hw0, hquo, asInt_i, rem64 _ _ hw0, hrem, hL, hAb, asTup_a, asCons_c, asAgg_a, len_z29, cell_z29, beq_self_eq_true, gB_t, Nat.zero_add, Nat.le_refl, decide_true, hd1, hd2, if_true,
        nthA_0, nthA_s, aggCells_a, set_z29, take_z29, List.drop_zero, hp, k1, k2, k3, k4, hr1, k5, k6, k7]
      exact key q1 b1 _ q2 b2 _ (by rw [hb1, hq1]; simp; omega) (by rw [hb2, hq2]; simp; omega)

/-- What is known beforehand: the chapter's small example, computed by the kernel. -/
noncomputable def Bk : CallF := fun f _ xs S => if f = f_spindlelaw14_awake ∧ xs = [] then locC (tabN (rows (ctlF 1000)) 60) f_spindlelaw14_awake 0 [] S else none
def isTrue : Option (AV × Heap) → Bool
  | some (.bool true, _) => true
  | _ => false
theorem awake_computed : isTrue (tabN (rows (ctlF 1000)) 60 f_spindlelaw14_awake 0 [] S0) = true := by kernel_rfl
theorem mixed : Try.prog.follows .mixedOrders = true := by kernel_rfl
theorem noG : ∀ (i : Nat) (cs : List AV), (fun _ => none : Nat → Option (List AV)) i = some cs → noIdL cs = true := fun _ _ h => by cases h
theorem Bk_ok : NOk Try.prog (fun _ => none) Bk := by
  have h0 := locC_ok noG (tabN_ok (rngC_ok (ctlF_ok 1000)) mixed (rows (ctlF 1000)) 60)
  refine ⟨fun f way args S r hlt h => ?_, fun f way args S h => ?_⟩
  · unfold Bk at h
    split at h
    · rename_i hc
      obtain ⟨rfl, rfl⟩ := hc
      exact h0.ok _ _ _ _ _ hlt h
    · cases h
  · unfold Bk
    rw [if_neg]
    rintro ⟨rfl, _⟩
    exact absurd h (by decide)
theorem Bk_silent : Silent Bk := fun f way args S h => by
  unfold Bk
  rw [if_neg fun hc => h hc.1]
theorem Bk_awake (S : Heap) : Bk f_spindlelaw14_awake 0 [] S = some (.bool true, S) := by
  unfold Bk
  rw [if_pos ⟨rfl, rfl⟩]
  have h := awake_computed
  unfold isTrue at h
  split at h
  · rename_i S' hs
    have hn : noIdL ([] : List AV) = true := rfl
    unfold locC
    rw [if_pos hn, hs]
    rfl
  · cases h
theorem Cn_ok (k : Nat) : NOk Try.prog (fun _ => none) (Cn Bk k) := callN_ok (rngC_ok ctlW_ok) mixed noG An Bk_ok k

theorem u8_of {a : AV} (h : argOk Try.prog maxLen 16 5 a) : ∃ n : Int, a = .int .u8 n ∧ 0 ≤ n ∧ n ≤ 255 := by
  unfold argOk at h
  rw [Try.underlying5] at h
  simp only at h
  unfold avOk at h
  rw [Try.underlying5] at h
  simp only at h
  obtain ⟨n, h1, h2⟩ := h
  cases h1
  exact ⟨n, rfl, by simpa [Lit.wf, IntKind.min, IntKind.max, IntKind.signed, IntKind.bits] using h2⟩
theorem nearRows_law (xs : List AV) (h : argsOk Try.prog maxLen 16 Try.f4.params.toList xs) : ∃ (C : CallF) (S' : Heap), NOk Try.prog (fun _ => none) C ∧ C 4 0 xs S0 = some (.bool true, S') := by
  rw [Try.params4] at h
  obtain ⟨a, r, rfl, h1, b, r2, rfl, h2, rfl⟩ := h
  obtain ⟨i1, rfl, h3⟩ := u8_of h1
  obtain ⟨i2, rfl, h4⟩ := u8_of h2
  obtain ⟨S', hS⟩ := rows_c Bk_silent Bk_awake 0 i1 i2 h3 h4
  exact ⟨Cn Bk 5, S', Cn_ok 5, hS⟩
end Go.Ab.tNear
