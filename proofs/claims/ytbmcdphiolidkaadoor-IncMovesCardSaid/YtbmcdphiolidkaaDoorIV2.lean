/- The slice of macroblocks and its reference; arguments. -/
import Derived.Test.YtbmcdphiolidkaaDoorIV1
set_option maxRecDepth 100000
set_option linter.unusedSimpArgs false
set_option linter.unusedVariables false
set_option linter.unusedSectionVars false
namespace Go.Ab.tNearU
open Go Go.Proofs

def zM : M := ⟨[0, 0, 0, 0, 0, 0, 0, 0, 0, 0, 0, 0, 0, 0, 0, 0, 0, 0, 0, 0, 0, 0, 0], .nils, .nils, 0, 0, .nils, ByteArray.empty⟩
theorem zM_cells : zM.cells = [.int .u8 0, .int .u8 0, .int .u8 0, .int .u8 0, .int .u8 0, .int .u8 0, .int .u8 0, .int .u8 0, .int .u8 0, .int .u8 0, .int .u8 0, .int .u8 0, .int .u8 0, .int .u8 0, .int .u8 0, .int .u8 0, .int .u8 0, .int .u8 0, .int .u8 0, .int .u8 0, .int .u8 0, .int .u8 0, .int .u8 0, .nils, .nils, .int .u8 0, .int .i64 0, .nils, .str ByteArray.empty] := (rfl)
theorem M.z0 {m : M} (hp : m.pre.length = 23) : setCells zM.cells 0 m.cells = m.cells := M.z hp
theorem zM_good : Good 1000 zM := ⟨rfl, .inl rfl, .inl rfl, .inl rfl⟩
theorem zM_norm : zM.norm = zM := rfl
theorem room2 {n b : Nat} (h : n ≤ 10000) (hb : b ≤ 1000) : n * b ≤ mostRoom := by
  have : n * b ≤ 10000 * 1000 := Nat.mul_le_mul h hb
  unfold mostRoom; omega
theorem room3 {n : Nat} (h : n ≤ 10000) : n ≤ mostRoom := by unfold mostRoom; omega

-- lists of macroblocks
def flat (ms : List M) : List AV := ms.flatMap M.cells
def Pre (ms : List M) : Prop := ∀ m ∈ ms, m.pre.length = 23
theorem flat_len : ∀ {ms : List M}, Pre ms → (flat ms).length = ms.length * 29
  | [], _ => rfl
  | m :: ms, h => by
    have := flat_len (ms := ms) fun x hx => h x (by simp [hx])
    simp only [flat, List.flatMap_cons, List.length_append, M.len (h m (by simp)), List.length_cons] at this ⊢
    omega
theorem flat_app (a b : List M) : flat (a ++ b) = flat a ++ flat b := by simp [flat]
theorem flat_split {ms : List M} {i : Nat} (hi : i < ms.length) : flat ms = flat (ms.take i) ++ ms[i].cells ++ flat (ms.drop (i + 1)) := by
  have : ms = ms.take i ++ ms[i] :: ms.drop (i + 1) := by rw [← List.drop_eq_getElem_cons hi, List.take_append_drop]
  calc flat ms = flat (ms.take i ++ ms[i] :: ms.drop (i + 1)) := by rw [← this]
    _ = _ := by rw [flat_app]; simp only [flat, List.flatMap_cons, List.append_assoc]
theorem flat_at {ms : List M} (h : Pre ms) {i : Nat} (hi : i < ms.length) : List.take 29 (List.drop (i * 29) (flat ms)) = ms[i].cells := by
  have hl : (flat (ms.take i)).length = i * 29 := by
    rw [flat_len fun x hx => h x (List.mem_of_mem_take hx), List.length_take]
    rw [Nat.min_eq_left (by omega)]
  have hm := M.len (h _ (List.getElem_mem hi))
  rw [flat_split hi, ← hl, List.append_assoc, List.drop_append_of_le_length (Nat.le_refl _), List.drop_length, List.nil_append, ← hm, List.take_append_of_le_length (Nat.le_refl _), List.take_length]
theorem flat_set {ms : List M} (h : Pre ms) {i : Nat} (hi : i < ms.length) (m : M) (hm : m.pre.length = 23) : setCells (flat ms) (i * 29) m.cells = flat (ms.set i m) := by
  have hl : (flat (ms.take i)).length = i * 29 := by
    rw [flat_len fun x hx => h x (List.mem_of_mem_take hx), List.length_take]
    rw [Nat.min_eq_left (by omega)]
  have h1 := M.len (h _ (List.getElem_mem hi))
  rw [flat_split hi, ← hl, setCells_append _ _ _ _ (by rw [h1, M.len hm]), List.set_eq_take_append_cons_drop, if_pos hi]
  simp [flat]
theorem flat_same {ms : List M} (h : Pre ms) {i : Nat} (hi : i < ms.length) : setCells (flat ms) (i * 29) ms[i].cells = flat ms := by
  rw [flat_set h hi _ (h _ (List.getElem_mem hi)), List.set_getElem_self]
theorem flat_all {p : AV → Bool} {ms : List M} (h : ∀ m ∈ ms, m.cells.all p = true) : (flat ms).all p = true := by
  simp only [flat, List.all_flatMap, List.all_eq_true]
  exact fun m hm => List.all_eq_true.1 (h m hm)
theorem Pre.of {ms : List M} {N : Nat} (h : ∀ m ∈ ms, Good N m) : Pre ms := fun m hm => (h m hm).pre

/-- A list of macroblocks that can be read. -/
def Rd (S : Heap) (a : AV) (ms : List M) : Prop := (a = .nils ∧ ms = []) ∨ a = .is ms.length (flat ms) ∨ ∃ q, a = .hs q 0 ms.length 29 ∧ S.blk q = some (flat ms) ∧ q < S.next
theorem Rd.ext {S T : Heap} {a : AV} {ms : List M} (h : Rd S a ms) (hT : Ext S T) : Rd T a ms := by
  obtain h | h | ⟨q, h1, h2, h3⟩ := h
  · exact .inl h
  · exact .inr (.inl h)
  · exact .inr (.inr ⟨q, h1, (hT.2.2 q h3).trans h2, by have := hT.1; omega⟩)
theorem Rd.len {S : Heap} {a : AV} {ms : List M} (h : Rd S a ms) : aLen Tryd.prog 22 a = some (.int .i64 ms.length) := by
  obtain ⟨rfl, rfl⟩ | rfl | ⟨q, rfl, h2, h3⟩ := h <;> kernel_rfl
theorem Rd.at {S : Heap} {a : AV} {ms : List M} (h : Rd S a ms) (hp : Pre ms) {i : Nat} (hi : i < ms.length) :
    ∃ t cs o, aIdx 29 a (i : Int) = some t ∧ seeV t S = some (cs, o) ∧ o + 29 ≤ cs.length ∧ List.take 29 (List.drop o cs) = ms[i].cells := by
  have hl := flat_len hp
  obtain ⟨rfl, rfl⟩ | rfl | ⟨q, rfl, h2, h3⟩ := h
  · simp at hi
  · exact ⟨.iptr ((flat ms).drop (i * 29)), (flat ms).drop (i * 29), 0, by simp [aIdx, hi], rfl, by rw [List.length_drop]; omega, by rw [List.drop_zero]; exact flat_at hp hi⟩
  · exact ⟨.ptr q (i * 29), flat ms, i * 29, by simp [aIdx, hi], by simp [h2], by omega, flat_at hp hi⟩

/-- A slice so far: at p, with its macroblocks at q. -/
structure Obj (S : Heap) (p q : Nat) (fi w : Int) (ms : List M) : Prop where
  blk : S.blk p = some [.int .i64 fi, .int .i64 w, if ms = [] then .nils else .hs q 0 ms.length 29]
  cells : ms ≠ [] → S.blk q = some (flat ms)
  ne : ms ≠ [] → q ≠ p
  lp : p < S.next
  lq : ms ≠ [] → q < S.next
  good : ∀ m ∈ ms, Good 1000 m ∧ m.norm = m
  hf : 0 ≤ fi ∧ fi < 8160
  hw : 1 ≤ w ∧ w ≤ 128
  hm : fi + ms.length ≤ 8160
theorem Obj.keep {S T : Heap} {p q : Nat} {fi w : Int} {ms : List M} (h : Obj S p q fi w ms) (hn : S.next ≤ T.next) (hp : T.blk p = S.blk p) (hq : ms ≠ [] → T.blk q = S.blk q) : Obj T p q fi w ms :=
  ⟨hp.trans h.blk, fun h0 => (hq h0).trans (h.cells h0), h.ne, by have := h.lp; omega, fun h0 => by have := h.lq h0; omega, h.good, h.hf, h.hw, h.hm⟩
theorem Obj.rd {S : Heap} {p q : Nat} {fi w : Int} {ms : List M} (h : Obj S p q fi w ms) : Rd S (if ms = [] then .nils else .hs q 0 ms.length 29) ms := by
  by_cases h0 : ms = []
  · rw [if_pos h0]; exact .inl ⟨rfl, h0⟩
  · rw [if_neg h0]; exact .inr (.inr ⟨q, rfl, h.cells h0, h.lq h0⟩)
/-- What is found at an address. -/
def fa (fi : Int) (ms : List M) (a : Int) : M × Bool := if h : fi ≤ a ∧ a < fi + ms.length then (ms[(a - fi).toNat]'(by omega), true) else (zM, false)
theorem fa_good {fi : Int} {ms : List M} (h : ∀ m ∈ ms, Good 1000 m ∧ m.norm = m) (a : Int) : Good 1000 (fa fi ms a).1 ∧ (fa fi ms a).1.norm = (fa fi ms a).1 := by
  unfold fa
  split
  · exact h _ (List.getElem_mem _)
  · exact ⟨zM_good, rfl⟩
def pair (x : M × Bool) : AV := .tup [.agg x.1.cells, .bool x.2]
@[simp] theorem eql_ptr (i o : Nat) : aBin Tryd.prog .eql 32 (.ptr i o) .nilp = some (.bool false) := by kernel_rfl
@[simp] theorem eql_ptr46 (i o : Nat) : aBin Tryd.prog .eql 33 (.ptr i o) .nilp = some (.bool false) := by kernel_rfl
@[simp] theorem eql_nilp : aBin Tryd.prog .eql 32 .nilp .nilp = some (.bool true) := by kernel_rfl
@[simp] theorem eql_nilp46 : aBin Tryd.prog .eql 33 .nilp .nilp = some (.bool true) := by kernel_rfl
section
variable {B : CallF} (hB : Silent B) (k : Nat) {S : Heap} {p q : Nat} {fi w : Int} {ms : List M} (h : Obj S p q fi w ms)
include hB h
theorem next_c : Cn B (k + 1) f_near_Near_Next 0 [.ptr p 0] S = some (.int .i64 (fi + ms.length), S) := by
  rw [c_near_Near_Next _ _ _ _ (hB _ _ _ _ (by decide)), T_near_Near_Next]
  have hw : IntKind.i64.wrap (fi + ms.length) = fi + ms.length := wr _ (by have := h.hf; have := h.hm; omega)
  have hl := h.rd.len
  simp only [eql_ptr, bO_s, asBool_b, Bool.false_eq_true, if_false, addV_p, seeV_p, h.blk, Nat.zero_add, List.getElem?_cons_zero, List.getElem?_cons_succ, asInt_i, gB_t, same_nil, hl, hw, tr_same]
theorem next14_c : Cn B (k + 1) f_spindleref14_Near_Next 0 [.ptr p 0] S = some (.int .i64 (fi + ms.length), S) := by
  rw [c_spindleref14_Near_Next _ _ _ _ (hB _ _ _ _ (by decide)), T_spindleref14_Near_Next]
  have hw : IntKind.i64.wrap (fi + ms.length) = fi + ms.length := wr _ (by have := h.hf; have := h.hm; omega)
  have hl := h.rd.len
  simp only [eql_ptr46, bO_s, asBool_b, Bool.false_eq_true, if_false, addV_p, seeV_p, h.blk, Nat.zero_add, List.getElem?_cons_zero, List.getElem?_cons_succ, asInt_i, gB_t, same_nil, hl, hw, tr_same]
theorem nat_c {a : Int} (ha : -200 ≤ a ∧ a ≤ 8200) : Cn B (k + 3) f_near_Near_at 0 [.ptr p 0, .int .i64 a] S = some (pair (fa fi ms a), S) := by
  rw [c_near_Near_at _ _ _ _ _ (hB _ _ _ _ (by decide)), T_near_Near_at]
  have hn := next_c hB (k + 1) h
  have hf := h.hf
  have hm := h.hm
  unfold fa
  by_cases h0 : a < fi
  · have h1 : ¬ (fi ≤ a ∧ a < fi + ms.length) := by omega
    simp only [dif_neg h1, asInt_i, eql_ptr, bO_s, asBool_b, Bool.false_eq_true, if_false, addV_p, seeV_p, h.blk, Nat.zero_add, List.getElem?_cons_zero, List.getElem?_cons_succ, h0, decide_true, if_true, nthA_0, nthA_s, aggCells_a, ← zM_cells, M.z0 (m := zM) rfl, M.len (m := zM) rfl, Nat.le_refl, gB_t, List.drop_zero, M.t29 (m := zM) rfl, fz40_pair zM_good.plain, tr_same, pair]
  · by_cases h2 : a < fi + ms.length
    · have h1 : fi ≤ a ∧ a < fi + ms.length := by omega
      have h3 : ¬ (a ≥ fi + ms.length) := by omega
      obtain ⟨i, hi⟩ := Int.eq_ofNat_of_zero_le (show 0 ≤ a - fi by omega)
      have hil : i < ms.length := by omega
      have hg : ∀ m ∈ ms, Good 1000 m := fun m hm => (h.good m hm).1
      obtain ⟨t, cs, o, r1, r2, r3, r4⟩ := h.rd.at (Pre.of hg) hil
      have hg1 := hg _ (List.getElem_mem hil)
      have hc := mbCopy_c hB k hg1 S
      have hw : IntKind.i64.wrap (a - fi) = (i : Int) := by rw [hi]; exact wr _ (by omega)
      have hti : (a - fi).toNat = i := by omega
      simp only [dif_pos h1, asInt_i, eql_ptr, bO_s, asBool_b, Bool.false_eq_true, if_false, addV_p, seeV_p, h.blk, Nat.zero_add, List.getElem?_cons_zero, List.getElem?_cons_succ, h0, decide_false, hn, h3, nthA_0, nthA_s, aggCells_a, gB_t, same_nil, hw, r1, r2, r3, r4, decide_true, hc, asAgg_a, M.len hg1.pre, beq_self_eq_true, hg1.cell, Nat.le_refl, M.z0 hg1.pre, List.drop_zero, M.t29 hg1.pre, fz40_pair hg1.plain, tr_same, pair, hti, ← zM_cells, M.len (m := zM) rfl]
    · have h1 : ¬ (fi ≤ a ∧ a < fi + ms.length) := by omega
      have h3 : a ≥ fi + ms.length := by omega
      simp only [dif_neg h1, asInt_i, eql_ptr, bO_s, asBool_b, Bool.false_eq_true, if_false, addV_p, seeV_p, h.blk, Nat.zero_add, List.getElem?_cons_zero, List.getElem?_cons_succ, h0, decide_false, hn, h3, decide_true, if_true, nthA_0, nthA_s, aggCells_a, ← zM_cells, M.len (m := zM) rfl, M.z0 (m := zM) rfl, Nat.le_refl, gB_t, List.drop_zero, M.t29 (m := zM) rfl, fz40_pair zM_good.plain, tr_same, pair]
end

def lf (fi w : Int) (ms : List M) : M × Bool := if (fi + ms.length).tmod w = 0 then (zM, false) else fa fi ms (fi + ms.length - 1)
theorem lf_good {fi w : Int} {ms : List M} (h : ∀ m ∈ ms, Good 1000 m ∧ m.norm = m) : Good 1000 (lf fi w ms).1 ∧ (lf fi w ms).1.norm = (lf fi w ms).1 := by
  unfold lf
  split
  · exact ⟨zM_good, rfl⟩
  · exact fa_good h _
section
variable {B : CallF} (hB : Silent B) (k : Nat) {S : Heap} {p q : Nat} {fi w : Int} {ms : List M} (h : Obj S p q fi w ms)
include hB h
theorem above_c : Cn B (k + 4) f_near_Near_Above 0 [.ptr p 0] S = some (pair (fa fi ms (fi + ms.length - w)), S) := by
  rw [c_near_Near_Above _ _ _ _ (hB _ _ _ _ (by decide)), T_near_Near_Above]
  have hn := next_c hB (k + 2) h
  have hf := h.hf
  have hm := h.hm
  have hw := h.hw
  have ha := nat_c hB k h (a := fi + ms.length - w) (by omega)
  obtain ⟨hg, _⟩ := fa_good h.good (fi + ms.length - w)
  generalize fa fi ms (fi + ms.length - w) = x at ha hg ⊢
  simp only [eql_ptr, bO_s, asBool_b, Bool.false_eq_true, if_false, hn, asInt_i, gB_t, same_nil, addV_p, seeV_p, h.blk, Nat.zero_add, List.getElem?_cons_zero, List.getElem?_cons_succ, same_see, wr (fi + ms.length - w) (by omega), ha, pair, asTup_a, asCons_c, asAgg_a, ← zM_cells, M.len hg.pre, beq_self_eq_true, hg.cell, Nat.le_refl, decide_true, M.z0 hg.pre, List.drop_zero, M.t29 hg.pre, fz40_pair hg.plain, tr_same]
theorem last_c : Cn B (k + 4) f_near_Near_Last 0 [.ptr p 0] S = some (pair (fa fi ms (fi + ms.length - 1)), S) := by
  rw [c_near_Near_Last _ _ _ _ (hB _ _ _ _ (by decide)), T_near_Near_Last]
  have hn := next_c hB (k + 2) h
  have hf := h.hf
  have hm := h.hm
  have ha := nat_c hB k h (a := fi + ms.length - 1) (by omega)
  obtain ⟨hg, _⟩ := fa_good h.good (fi + ms.length - 1)
  generalize fa fi ms (fi + ms.length - 1) = x at ha hg ⊢
  simp only [bO_s, hn, asInt_i, Nat.zero_add, wr (fi + ms.length - 1) (by omega), ha, pair, asTup_a, asCons_c, asAgg_a, asBool_b, ← zM_cells, M.len hg.pre, beq_self_eq_true, hg.cell, gB_t, Nat.le_refl, decide_true, M.z0 hg.pre, List.drop_zero, M.t29 hg.pre, fz40_pair hg.plain, tr_same]
theorem left_c : Cn B (k + 4) f_near_Near_Left 0 [.ptr p 0] S = some (pair (lf fi w ms), S) := by
  rw [c_near_Near_Left _ _ _ _ (hB _ _ _ _ (by decide)), T_near_Near_Left]
  have hn := next_c hB (k + 2) h
  have hf := h.hf
  have hm := h.hm
  have hw := h.hw
  have ha := nat_c hB k h (a := fi + ms.length - 1) (by omega)
  obtain ⟨hg, _⟩ := fa_good h.good (fi + ms.length - 1)
  unfold lf
  have hw0 : w ≠ 0 := by omega
  by_cases h0 : (fi + ms.length).tmod w = 0
  · simp only [if_pos h0, eql_ptr, bO_s, asBool_b, Bool.false_eq_true, if_false, hn, asInt_i, gB_t, same_nil, addV_p, seeV_p, h.blk, Nat.zero_add, List.getElem?_cons_zero, List.getElem?_cons_succ, same_see, rem64 _ _ hw0, h0, beq_self_eq_true, if_true, nthA_0, nthA_s, aggCells_a, ← zM_cells, M.len (m := zM) rfl, M.z0 (m := zM) rfl, Nat.le_refl, decide_true, List.drop_zero, M.t29 (m := zM) rfl, fz40_pair zM_good.plain, tr_same, pair]
  · rw [if_neg h0]
    have hx : ¬ (yldId ≤ f_near_Near_at) := by decide
    have hb : ((fi + ms.length).tmod w == 0) = false := by simp [h0]
    generalize fa fi ms (fi + ms.length - 1) = x at ha hg ⊢
    simp only [eql_ptr, bO_s, asBool_b, Bool.false_eq_true, if_false, hn, asInt_i, gB_t, same_nil, addV_p, seeV_p, h.blk, Nat.zero_add, List.getElem?_cons_zero, List.getElem?_cons_succ, same_see, rem64 _ _ hw0, hb, nthA_0, nthA_s, aggCells_a, ← zM_cells, wr (fi + ms.length - 1) (by omega)]
    simp only [callK, hx, if_false, OAn.way, OAn.cFrz, List.cons_append, List.nil_append, List.append_nil, ha, pair, bO_s, asTup_a, asCons_c, asAgg_a, asBool_b, M.len hg.pre, M.len (m := zM) rfl, beq_self_eq_true, hg.cell, gB_t, Nat.zero_add, Nat.le_refl, decide_true, M.z0 hg.pre, List.drop_zero, M.t29 hg.pre, fz40_pair hg.plain, tr_same, Bool.false_eq_true]
-- the reference's
theorem nat14_c {a : Int} (ha : -200 ≤ a ∧ a ≤ 8200) : Cn B (k + 4) f_spindleref14_Near_at 0 [.ptr p 0, .int .i64 a] S = some (pair (fa fi ms a), S) := by
  rw [c_spindleref14_Near_at _ _ _ _ _ (hB _ _ _ _ (by decide)), T_spindleref14_Near_at]
  have hn := next14_c hB (k + 2) h
  have hf := h.hf
  have hm := h.hm
  unfold fa
  by_cases h0 : a < fi
  · have h1 : ¬ (fi ≤ a ∧ a < fi + ms.length) := by omega
    simp only [dif_neg h1, asInt_i, bO_s, asBool_b, Bool.false_eq_true, if_false, addV_p, seeV_p, h.blk, Nat.zero_add, List.getElem?_cons_zero, List.getElem?_cons_succ, h0, decide_true, if_true, nthA_0, nthA_s, aggCells_a, ← zM_cells, M.z0 (m := zM) rfl, M.len (m := zM) rfl, Nat.le_refl, gB_t, List.drop_zero, M.t29 (m := zM) rfl, fz40_pair zM_good.plain, tr_same, pair]
  · by_cases h2 : a < fi + ms.length
    · have h1 : fi ≤ a ∧ a < fi + ms.length := by omega
      have h3 : ¬ (a ≥ fi + ms.length) := by omega
      obtain ⟨i, hi⟩ := Int.eq_ofNat_of_zero_le (show 0 ≤ a - fi by omega)
      have hil : i < ms.length := by omega
      have hg : ∀ m ∈ ms, Good 1000 m := fun m hm => (h.good m hm).1
      obtain ⟨t, cs, o, r1, r2, r3, r4⟩ := h.rd.at (Pre.of hg) hil
      have hg1 := hg _ (List.getElem_mem hil)
      have hc := copyMb_c hB k hg1 S
      rw [(h.good _ (List.getElem_mem hil)).2] at hc
      have hw : IntKind.i64.wrap (a - fi) = (i : Int) := by rw [hi]; exact wr _ (by omega)
      have hti : (a - fi).toNat = i := by omega
      simp only [dif_pos h1, asInt_i, bO_s, asBool_b, Bool.false_eq_true, if_false, addV_p, seeV_p, h.blk, Nat.zero_add, List.getElem?_cons_zero, List.getElem?_cons_succ, h0, decide_false, hn, h3, nthA_0, nthA_s, aggCells_a, gB_t, same_nil, hw, r1, r2, r3, r4, decide_true, hc, asAgg_a, M.len hg1.pre, beq_self_eq_true, hg1.cell, Nat.le_refl, M.z0 hg1.pre, List.drop_zero, M.t29 hg1.pre, fz40_pair hg1.plain, tr_same, pair, hti, ← zM_cells, M.len (m := zM) rfl]
    · have h1 : ¬ (fi ≤ a ∧ a < fi + ms.length) := by omega
      have h3 : a ≥ fi + ms.length := by omega
      simp only [dif_neg h1, asInt_i, bO_s, asBool_b, Bool.false_eq_true, if_false, addV_p, seeV_p, h.blk, Nat.zero_add, List.getElem?_cons_zero, List.getElem?_cons_succ, h0, decide_false, hn, h3, decide_true, if_true, nthA_0, nthA_s, aggCells_a, ← zM_cells, M.len (m := zM) rfl, M.z0 (m := zM) rfl, Nat.le_refl, gB_t, List.drop_zero, M.t29 (m := zM) rfl, fz40_pair zM_good.plain, tr_same, pair]
theorem above14_c : Cn B (k + 5) f_spindleref14_Near_Above 0 [.ptr p 0] S = some (pair (fa fi ms (fi + ms.length - w)), S) := by
  rw [c_spindleref14_Near_Above _ _ _ _ (hB _ _ _ _ (by decide)), T_spindleref14_Near_Above]
  have hn := next14_c hB (k + 3) h
  have hf := h.hf
  have hm := h.hm
  have hw := h.hw
  have ha := nat14_c hB k h (a := fi + ms.length - w) (by omega)
  obtain ⟨hg, _⟩ := fa_good h.good (fi + ms.length - w)
  generalize fa fi ms (fi + ms.length - w) = x at ha hg ⊢
  simp only [eql_ptr46, bO_s, asBool_b, Bool.false_eq_true, if_false, hn, asInt_i, gB_t, same_nil, addV_p, seeV_p, h.blk, Nat.zero_add, List.getElem?_cons_zero, List.getElem?_cons_succ, same_see, wr (fi + ms.length - w) (by omega), ha, pair, asTup_a, asCons_c, asAgg_a, ← zM_cells, M.len hg.pre, beq_self_eq_true, hg.cell, Nat.le_refl, decide_true, M.z0 hg.pre, List.drop_zero, M.t29 hg.pre, fz40_pair hg.plain, tr_same]
theorem left14_c : Cn B (k + 5) f_spindleref14_Near_Left 0 [.ptr p 0] S = some (pair (lf fi w ms), S) := by
  rw [c_spindleref14_Near_Left _ _ _ _ (hB _ _ _ _ (by decide)), T_spindleref14_Near_Left]
  have hn := next14_c hB (k + 3) h
  have hf := h.hf
  have hm := h.hm
  have hw := h.hw
  have ha := nat14_c hB k h (a := fi + ms.length - 1) (by omega)
  obtain ⟨hg, _⟩ := fa_good h.good (fi + ms.length - 1)
  unfold lf
  have hw0 : w ≠ 0 := by omega
  by_cases h0 : (fi + ms.length).tmod w = 0
  · simp only [if_pos h0, eql_ptr46, bO_s, asBool_b, Bool.false_eq_true, if_false, hn, asInt_i, gB_t, same_nil, addV_p, seeV_p, h.blk, Nat.zero_add, List.getElem?_cons_zero, List.getElem?_cons_succ, same_see, rem64 _ _ hw0, h0, beq_self_eq_true, if_true, nthA_0, nthA_s, aggCells_a, ← zM_cells, M.len (m := zM) rfl, M.z0 (m := zM) rfl, Nat.le_refl, decide_true, List.drop_zero, M.t29 (m := zM) rfl, fz40_pair zM_good.plain, tr_same, pair]
  · rw [if_neg h0]
    have hb : ((fi + ms.length).tmod w == 0) = false := by simp [h0]
    generalize fa fi ms (fi + ms.length - 1) = x at ha hg ⊢
    simp only [eql_ptr46, bO_s, asBool_b, Bool.false_eq_true, if_false, hn, asInt_i, gB_t, same_nil, addV_p, seeV_p, h.blk, Nat.zero_add, List.getElem?_cons_zero, List.getElem?_cons_succ, same_see, rem64 _ _ hw0, hb, nthA_0, nthA_s, aggCells_a, ← zM_cells, wr (fi + ms.length - 1) (by omega), ha, pair, asTup_a, asCons_c, asAgg_a, M.len hg.pre, M.len (m := zM) rfl, beq_self_eq_true, hg.cell, Nat.le_refl, decide_true, M.z0 hg.pre, List.drop_zero, M.t29 hg.pre, fz40_pair hg.plain, tr_same]
end

theorem new_ok {B : CallF} (hB : Silent B) (k : Nat) {fi w : Int} (hf : 0 ≤ fi ∧ fi < 8160) (hw : 1 ≤ w ∧ w ≤ 128) (S : Heap) : Cn B (k + 1) f_near_New 0 [.int .i64 fi, .int .i64 w] S = some (.tup [.ptr S.next 0, .int .i64 0], S.alloc [.int .i64 fi, .int .i64 w, .nils]) := by
  rw [c_near_New _ _ _ _ _ (hB _ _ _ _ (by decide)), T_near_New]
  have h1 : ¬ (fi < 0) := by omega
  have h2 : ¬ (fi ≥ 8160) := by omega
  have h3 : ¬ (w < 1) := by omega
  have h4 : ¬ (w > 128) := by omega
  simp only [asInt_i, h1, h2, h3, h4, decide_false, Bool.false_eq_true, if_false, bO_s, nthA_0, nthA_s, asBool_b]
  rw [tr_id2 (by rfl)]
theorem new14_ok {B : CallF} (hB : Silent B) (k : Nat) {fi w : Int} (hf : 0 ≤ fi ∧ fi < 8160) (hw : 1 ≤ w ∧ w ≤ 128) (S : Heap) : Cn B (k + 1) f_spindleref14_New 0 [.int .i64 fi, .int .i64 w] S = some (.tup [.ptr S.next 0, .int .i64 0], S.alloc [.int .i64 fi, .int .i64 w, .nils]) := by
  rw [c_spindleref14_New _ _ _ _ _ (hB _ _ _ _ (by decide)), T_spindleref14_New]
  have h1 : ¬ (fi < 0) := by omega
  have h2 : ¬ (fi ≥ 8160) := by omega
  have h3 : ¬ (w < 1) := by omega
  have h4 : ¬ (w > 128) := by omega
  simp only [asInt_i, h1, h2, h3, h4, decide_false, Bool.false_eq_true, if_false, bO_s, nthA_0, nthA_s, asBool_b]
  rw [tr_id2 (by rfl)]
theorem new_bad {B : CallF} (hB : Silent B) (k : Nat) {fi w : Int} (h : ¬ ((0 ≤ fi ∧ fi < 8160) ∧ 1 ≤ w ∧ w ≤ 128)) (S : Heap) : Cn B (k + 1) f_near_New 0 [.int .i64 fi, .int .i64 w] S = some (.tup [.nilp, .int .i64 3], S) := by
  rw [c_near_New _ _ _ _ _ (hB _ _ _ _ (by decide)), T_near_New]
  by_cases h1 : fi < 0
  · simp [h1]
  · by_cases h2 : fi ≥ 8160
    · simp [h1, h2]
    · by_cases h3 : w < 1
      · simp [h1, h2, h3]
      · have h4 : w > 128 := by omega
        simp [h1, h2, h3, h4]
theorem new14_bad {B : CallF} (hB : Silent B) (k : Nat) {fi w : Int} (h : ¬ ((0 ≤ fi ∧ fi < 8160) ∧ 1 ≤ w ∧ w ≤ 128)) (S : Heap) : Cn B (k + 1) f_spindleref14_New 0 [.int .i64 fi, .int .i64 w] S = some (.tup [.nilp, .int .i64 3], S) := by
  rw [c_spindleref14_New _ _ _ _ _ (hB _ _ _ _ (by decide)), T_spindleref14_New]
  by_cases h1 : fi < 0
  · simp [h1]
  · by_cases h2 : fi ≥ 8160
    · simp [h1, h2]
    · by_cases h3 : w < 1
      · simp [h1, h2, h3]
      · have h4 : w > 128 := by omega
        simp [h1, h2, h3, h4]
theorem new_obj {fi w : Int} (hf : 0 ≤ fi ∧ fi < 8160) (hw : 1 ≤ w ∧ w ≤ 128) (S : Heap) (q : Nat) : Obj (S.alloc [.int .i64 fi, .int .i64 w, .nils]) S.next q fi w [] :=
  ⟨by rw [alloc_blk, if_pos rfl], fun h => absurd rfl h, fun h => absurd rfl h, Nat.lt_succ_self _, fun h => absurd rfl h, fun m hm => by simp at hm, hf, hw, by simp; omega⟩

/-- What the heap is after an addition. -/
def addH (S : Heap) (p q : Nat) (fi w : Int) (ms : List M) (m : M) : Heap :=
  if ms = [] then (S.alloc m.cells).set p (some [.int .i64 fi, .int .i64 w, .hs S.next 0 1 29])
  else ((S.set q none).alloc (flat ms ++ m.cells)).set p (some [.int .i64 fi, .int .i64 w, .hs S.next 0 (ms.length + 1) 29])
section
variable {S : Heap} {p q : Nat} {fi w : Int} {ms : List M} (h : Obj S p q fi w ms) {m : M} (hg : Good 1000 m ∧ m.norm = m) (hm : fi + ms.length < 8160)
include h
theorem addH_next : (addH S p q fi w ms m).next = S.next + 1 := by unfold addH; split <;> rfl
theorem addH_cx : (addH S p q fi w ms m).cx = S.cx := by unfold addH; split <;> rfl
theorem addH_other {j : Nat} (h1 : j < S.next) (h2 : j ≠ p) (h3 : ms ≠ [] → j ≠ q) : (addH S p q fi w ms m).blk j = S.blk j := by
  unfold addH
  split
  · rw [set_other _ _ h2, alloc_other _ _ (by omega)]
  · rename_i h0
    rw [set_other _ _ h2, alloc_other _ _ (by rw [set_next]; omega), set_other _ _ (h3 h0)]
include hg hm
theorem addH_obj : Obj (addH S p q fi w ms m) p S.next fi w (ms ++ [m]) := by
  have hlp := h.lp
  refine ⟨?_, fun _ => ?_, fun _ => by omega, by rw [addH_next h]; omega, fun _ => by rw [addH_next h]; omega, fun x hx => ?_, h.hf, h.hw, by simp; omega⟩
  · rw [if_neg (by simp)]
    unfold addH
    split
    · rename_i h0; subst h0; rw [set_blk]; rfl
    · rw [set_blk]; simp
  · unfold addH
    split
    · rename_i h0; subst h0; rw [set_other _ _ (by omega), alloc_blk]; simp [flat]
    · rename_i h0
      rw [set_other _ _ (by omega), show S.next = (S.set q none).next from rfl, alloc_blk]; simp [flat]
  · rcases List.mem_append.1 hx with hx | hx
    · exact h.good x hx
    · rw [List.mem_singleton.1 hx]; exact hg
theorem addH_ne : (addH S p q fi w ms m).blk p ≠ S.blk p := by
  rw [h.blk, (addH_obj h hg hm).blk, if_neg (by simp)]
  by_cases h0 : ms = []
  · simp [h0]
  · have := h.lq h0
    simp [h0]
/-- What an addition does. -/
theorem add_steps : ∃ T, aAppend 29 128 (if ms = [] then .nils else .hs q 0 ms.length 29) (.is 1 m.cells) S = some (.hs S.next 0 (ms.length + 1) 29, T) ∧ putV (.ptr p 2) [.hs S.next 0 (ms.length + 1) 29] T = some (addH S p q fi w ms m) := by
  have hlp := h.lp
  have hf := h.hf
  have hl := flat_len (Pre.of fun m hm => (h.good m hm).1)
  by_cases h0 : ms = []
  · subst h0
    rw [if_pos rfl]
    refine ⟨_, app_nil (n := 1) (by omega) (by rw [M.len hg.1.pre]) (room2 (by omega) (by omega)) (room3 (by omega)), ?_⟩
    have hb : (S.alloc m.cells).blk p = some [.int .i64 fi, .int .i64 w, .nils] := by rw [alloc_other _ _ (by omega), h.blk, if_pos rfl]
    simp only [putV, hb, List.length_nil, List.length_cons, addH, if_true]
    rfl
  · rw [if_neg h0]
    have hlq := h.lq h0
    refine ⟨_, app_hs (n := 1) (h.cells h0) hl (by rw [M.len hg.1.pre]) (by omega) (room2 (by omega) (by omega)) (room3 (by omega)) hg.1.cell, ?_⟩
    have hb : ((S.set q none).alloc (flat ms ++ m.cells)).blk p = some [.int .i64 fi, .int .i64 w, .hs q 0 ms.length 29] := by
      rw [alloc_other _ _ (by rw [set_next]; omega), set_other _ _ (Ne.symm (h.ne h0)), h.blk, if_neg h0]
    simp only [putV, hb, List.length_nil, List.length_cons, addH, if_neg h0]
    rfl
theorem add_c {B : CallF} (hB : Silent B) (k : Nat) : Cn B (k + 3) f_near_Near_Add 0 [.ptr p 0, .agg m.cells] S = some (.int .i64 0, addH S p q fi w ms m) := by
  rw [c_near_Near_Add _ _ _ _ _ (hB _ _ _ _ (by decide)), T_near_Near_Add]
  have hn := next_c hB (k + 1) h
  have h1 : ¬ (fi + ms.length ≥ 8160) := by omega
  have hc := mbCopy_c hB k hg.1 S
  obtain ⟨T, e1, e2⟩ := add_steps h hg hm
  simp only [asAgg_a, ← zM_cells, M.len hg.1.pre, beq_self_eq_true, gB_t, eql_ptr, bO_s, asBool_b, Bool.false_eq_true, if_false, hn, asInt_i, h1, decide_false, addV_p, seeV_p, h.blk, Nat.zero_add, List.getElem?_cons_zero, List.getElem?_cons_succ, same_nil, same_see, List.drop_zero, M.t29 hg.1.pre, hc, Nat.le_refl, decide_true, M.z0 hg.1.pre, e1, show cell (.hs S.next 0 (ms.length + 1) 29) = true from rfl, List.all_cons, List.all_nil, Bool.and_true, e2]
  rw [tr_ne p h.lp (addH_ne h hg hm)]
theorem add14_c {B : CallF} (hB : Silent B) (k : Nat) {m' : M} (hg' : Good 1000 m') (he : m'.norm = m) : Cn B (k + 4) f_spindleref14_Near_Add 0 [.ptr p 0, .agg m'.cells] S = some (.int .i64 0, addH S p q fi w ms m) := by
  rw [c_spindleref14_Near_Add _ _ _ _ _ (hB _ _ _ _ (by decide)), T_spindleref14_Near_Add]
  have hn := next14_c hB (k + 2) h
  have h1 : ¬ (fi + ms.length ≥ 8160) := by omega
  have hc := copyMb_c hB k hg' S
  rw [he] at hc
  obtain ⟨T, e1, e2⟩ := add_steps h hg hm
  simp only [asAgg_a, ← zM_cells, M.len hg'.pre, M.len hg.1.pre, beq_self_eq_true, gB_t, eql_ptr46, bO_s, asBool_b, Bool.false_eq_true, if_false, hn, asInt_i, h1, decide_false, addV_p, seeV_p, h.blk, Nat.zero_add, List.getElem?_cons_zero, List.getElem?_cons_succ, same_nil, same_see, List.drop_zero, M.t29 hg'.pre, hc, Nat.le_refl, decide_true, M.z0 hg.1.pre, e1, show cell (.hs S.next 0 (ms.length + 1) 29) = true from rfl, List.all_cons, List.all_nil, Bool.and_true, e2]
  rw [tr_ne p h.lp (addH_ne h hg hm)]
end
section
variable {S : Heap} {p q : Nat} {fi w : Int} {ms : List M} (h : Obj S p q fi w ms) {m : M} (hg : Good 1000 m) (hm : ¬ fi + ms.length < 8160)
include h hg hm
theorem addLong_c {B : CallF} (hB : Silent B) (k : Nat) : Cn B (k + 3) f_near_Near_Add 0 [.ptr p 0, .agg m.cells] S = some (.int .i64 6, S) := by
  rw [c_near_Near_Add _ _ _ _ _ (hB _ _ _ _ (by decide)), T_near_Near_Add]
  have hn := next_c hB (k + 1) h
  have h1 : fi + ms.length ≥ 8160 := by omega
  simp only [asAgg_a, M.len hg.pre, beq_self_eq_true, gB_t, eql_ptr, bO_s, asBool_b, Bool.false_eq_true, if_false, hn, asInt_i, h1, decide_true, if_true, tr_same]
theorem addLong14_c {B : CallF} (hB : Silent B) (k : Nat) : Cn B (k + 4) f_spindleref14_Near_Add 0 [.ptr p 0, .agg m.cells] S = some (.int .i64 6, S) := by
  rw [c_spindleref14_Near_Add _ _ _ _ _ (hB _ _ _ _ (by decide)), T_spindleref14_Near_Add]
  have hn := next14_c hB (k + 2) h
  have h1 : fi + ms.length ≥ 8160 := by omega
  simp only [asAgg_a, M.len hg.pre, beq_self_eq_true, gB_t, eql_ptr46, bO_s, asBool_b, Bool.false_eq_true, if_false, hn, asInt_i, h1, decide_true, if_true, tr_same]
end

theorem gB_of {β : Type} {b : Bool} {k : Option β} (h : b = true) : gB b k = k := by rw [h]; rfl
theorem rowOf_rd {S : Heap} {a : AV} {ms : List M} (h : Rd S a ms) (hp : Pre ms) : rowOf 29 a S = some (ms.length, flat ms) := by
  have hl := flat_len hp
  obtain ⟨rfl, rfl⟩ | rfl | ⟨q, rfl, h2, h3⟩ := h
  · rfl
  · simp only [rowOf, hl, if_true]
  · simp only [rowOf, h2, Nat.zero_add, hl, Nat.le_refl, and_self, if_true, List.drop_zero]
    rw [List.take_of_length_le (by omega)]
theorem repCells_len (n : Nat) : (repCells n zM.cells).length = n * 29 := by
  show (List.replicate n zM.cells).flatten.length = _
  simp [M.len (m := zM) rfl]
def madeOk (fi w : Int) (n : Nat) : Prop := (0 ≤ fi ∧ fi < 8160) ∧ (1 ≤ w ∧ w ≤ 128) ∧ fi + n ≤ 8160

theorem maxLen_is : maxLen = 9223372036854775807 := by unfold maxLen; rfl
def rl (a : AV) : Nat := match a with | .is n _ => n | _ => 0
theorem rl25 {N es : Nat} {a : AV} (h : Row N es a) : aLen Tryd.prog 25 a = some (.int .i64 (rl a)) := by obtain rfl | ⟨n, cs, rfl, _⟩ := h <;> kernel_rfl
theorem rl26 {N es : Nat} {a : AV} (h : Row N es a) : aLen Tryd.prog 26 a = some (.int .i64 (rl a)) := by obtain rfl | ⟨n, cs, rfl, _⟩ := h <;> kernel_rfl
theorem rl27 {N : Nat} {a : AV} (h : Rows N a) : aLen Tryd.prog 27 a = some (.int .i64 (rl a)) := by obtain rfl | ⟨n, cs, rfl, _⟩ := h <;> kernel_rfl
theorem Row.small {N es K : Nat} {a : AV} (h : Row N es a) (hk : rl a ≤ K) : Row K es a := by
  obtain rfl | ⟨n, cs, rfl, h1, h2, h3⟩ := h
  · exact .inl rfl
  · exact .inr ⟨n, cs, rfl, hk, h2, h3⟩
theorem Rows.small {N K : Nat} {a : AV} (h : Rows N a) (hk : rl a ≤ K) (hr : ∀ c ∈ cut a, rl c ≤ K) : Rows K a := by
  obtain rfl | ⟨n, cs, rfl, h1, h2, h3⟩ := h
  · exact .inl rfl
  · exact .inr ⟨n, cs, rfl, hk, h2, fun c hc => (h3 c hc).small (hr c hc)⟩
theorem Rows.rl {N : Nat} {a : AV} (h : Rows N a) : (cut a).length = rl a ∧ Go.Ab.tNearU.rl a ≤ N := by
  obtain rfl | ⟨n, cs, rfl, h1, h2, h3⟩ := h
  · exact ⟨rfl, Nat.zero_le _⟩
  · exact ⟨h2, h1⟩
theorem Rd.field {S : Heap} {a : AV} {ms : List M} (h : Rd S a ms) (hp : Pre ms) {i : Nat} (hi : i < ms.length) :
    ∃ t, aIdx 29 a (i : Int) = some t ∧ ∀ f, f < 29 → ∃ t' cs o, addV t f = some t' ∧ seeV t' S = some (cs, o) ∧ cs[o]? = ms[i].cells[f]? := by
  have hl := flat_len hp
  have hc : ∀ f, f < 29 → (flat ms)[i * 29 + f]? = ms[i].cells[f]? := fun f hf => by
    rw [← flat_at hp hi, List.getElem?_take_of_lt hf, List.getElem?_drop]
  obtain ⟨rfl, rfl⟩ | rfl | ⟨q, rfl, h2, h3⟩ := h
  · simp at hi
  · exact ⟨.iptr ((flat ms).drop (i * 29)), by simp [aIdx, hi], fun f hf => ⟨_, _, 0, rfl, rfl, by rw [List.drop_drop, List.getElem?_drop, Nat.add_zero]; exact hc f hf⟩⟩
  · exact ⟨.ptr q (i * 29), by simp [aIdx, hi], fun f hf => ⟨_, flat ms, i * 29 + f, rfl, by simp [h2], hc f hf⟩⟩
theorem few_c {B : CallF} (hB : Silent B) (k : Nat) {S : Heap} {a : AV} {ms : List M} (ha : Rd S a ms) (hg : ∀ m ∈ ms, Good maxLen m) (hl : ms.length ≤ maxLen) (most : Int) :
    ∃ b, Cn B (k + 1) f_spindlelaw14_Few 0 [a, .int .i64 most] S = some (.bool b, S) ∧ (b = true → (ms.length : Int) ≤ most ∧ ∀ m ∈ ms, Good 60 m) := by
  rw [c_spindlelaw14_Few _ _ _ _ _ (hB _ _ _ _ (by decide)), T_spindlelaw14_Few]
  have hmx := maxLen_is
  simp only [asInt_i, ha.len, bO_s]
  by_cases h0 : (ms.length : Int) > most
  · simp only [h0, decide_true, if_true, tr_same]
    exact ⟨false, rfl, fun h => by cases h⟩
  · simp only [h0, decide_false, Bool.false_eq_true, if_false]
    refine loop_ex (fun (o : Option (AV × Heap)) => ∃ b, o = some (.bool b, S) ∧ (b = true → (ms.length : Int) ≤ most ∧ ∀ m ∈ ms, Good 60 m))
      (fun i s => s = ([a, .int .i64 (i : Int)], S) ∧ ∀ j (h : j < ms.length), j < i → Good 60 ms[j])
      (fun y => (y = (0, [], S) ∧ ∀ m ∈ ms, Good 60 m) ∨ y = (1, [.bool false], S)) ms.length ⟨rfl, fun j h h' => by omega⟩ ?_ ?_
    · rintro i s hi ⟨rfl, hs⟩
      by_cases hin : i < ms.length
      · have hlt : (i : Int) < ms.length := by omega
        have hw : IntKind.wrap .i64 ((i : Int) + 1) = (i : Int) + 1 := wr _ (by omega)
        obtain ⟨t, r1, rf⟩ := ha.field (Pre.of hg) hin
        have hg1 := hg _ (List.getElem_mem hin)
        obtain ⟨t23, c23, o23, a23, b23, d23⟩ := rf 23 (by omega)
        obtain ⟨t24, c24, o24, a24, b24, d24⟩ := rf 24 (by omega)
        obtain ⟨t27, c27, o27, a27, b27, d27⟩ := rf 27 (by omega)
        obtain ⟨t28, c28, o28, a28, b28, d28⟩ := rf 28 (by omega)
        rw [M.g23 hg1.pre] at d23
        rw [M.g24 hg1.pre] at d24
        rw [M.g27 hg1.pre] at d27
        rw [M.g28 hg1.pre] at d28
        obtain ⟨m, hm⟩ : ∃ m, ms[i] = m := ⟨_, rfl⟩
        rw [hm] at hg1 d23 d24 d27 d28
        have l1 := rl25 hg1.r
        have l2 := rl26 hg1.v
        have l3 := rl27 hg1.b
        simp only [nthA_0, nthA_s, asInt_i, ha.len, bO_s, hlt, decide_true, if_true, r1, a23, b23, d23, a24, b24, d24, a27, b27, d27, a28, b28, d28, l1, l2, l3, asStr_s]
        by_cases c1 : (rl m.r : Int) > 40
        · simp only [c1, decide_true, if_true, bO_s, nthA_0, nthA_s, asInt_i, asBool_b]
          exact .inl ⟨_, rfl, .inr rfl⟩
        by_cases c2 : (rl m.v : Int) > 40
        · simp only [c1, c2, decide_true, decide_false, Bool.false_eq_true, if_false, if_true, bO_s, nthA_0, nthA_s, asInt_i, asBool_b]
          exact .inl ⟨_, rfl, .inr rfl⟩
        by_cases c3 : (rl m.b : Int) > 60
        · simp only [c1, c2, c3, decide_true, decide_false, Bool.false_eq_true, if_false, if_true, bO_s, nthA_0, nthA_s, asInt_i, asBool_b]
          exact .inl ⟨_, rfl, .inr rfl⟩
        by_cases c4 : (m.s.size : Int) > 400
        · simp only [c1, c2, c3, c4, decide_true, decide_false, Bool.false_eq_true, if_false, if_true, bO_s, nthA_0, nthA_s, asInt_i, asBool_b]
          exact .inl ⟨_, rfl, .inr rfl⟩
        simp only [c1, c2, c3, c4, decide_true, decide_false, Bool.false_eq_true, if_false, if_true, bO_s, nthA_0, nthA_s, asInt_i, asBool_b]
        obtain ⟨hbl, hbN⟩ := hg1.b.rl
        refine loop_ex (fun (o : Option (LSt ⊕ (Nat × LSt))) => (∃ x, o = some (.inr x) ∧ ((x = (0, [], S) ∧ ∀ m ∈ ms, Good 60 m) ∨ x = (1, [.bool false], S))) ∨ (i < ms.length ∧ ∃ s', o = some (.inl s') ∧ (s' = ([a, .int .i64 ((i + 1 : Nat) : Int)], S) ∧ ∀ j (h : j < ms.length), j < i + 1 → Good 60 ms[j])))
          (fun j s => s = ([a, .int .i64 (i : Int), .int .i64 (j : Int)], S) ∧ ∀ u (h : u < (cut m.b).length), u < j → rl (cut m.b)[u] ≤ 40)
          (fun y => (y = (0, [a, .int .i64 (i : Int)], S) ∧ ∀ c ∈ cut m.b, rl c ≤ 40) ∨ y = (1, [.bool false], S)) (rl m.b) ⟨rfl, fun u h h' => by omega⟩ ?_ ?_
        · rintro j s hj ⟨rfl, hu⟩
          obtain ⟨n27, hn27, hl27, hL27, hI27⟩ := len27 hg1.b
          have hnn : n27 = rl m.b := by omega
          by_cases hjn : j < rl m.b
          · have hltj : (j : Int) < rl m.b := by omega
            have hwj : IntKind.wrap .i64 ((j : Int) + 1) = (j : Int) + 1 := wr _ (by omega)
            have hjc : j < (cut m.b).length := by omega
            have hgj : (cut m.b)[j]? = some (cut m.b)[j] := List.getElem?_eq_getElem hjc
            have l4 := rl25 (hg1.b.mem _ (List.getElem_mem hjc))
            simp only [nthA_0, nthA_s, asInt_i, bO_s, r1, a27, b27, d27, l3, hltj, decide_true, if_true, hI27 j (by omega), seeV_i, List.getElem?_drop, Nat.add_zero, hgj, l4]
            by_cases c5 : (rl (cut m.b)[j] : Int) > 40
            · simp only [c5, decide_true, if_true]
              exact .inl ⟨_, rfl, .inr rfl⟩
            · simp only [c5, decide_false, Bool.false_eq_true, if_false, hwj]
              refine .inr ⟨hjn, _, rfl, rfl, fun u h h' => ?_⟩
              by_cases hju : u < j
              · exact hu u h hju
              · have : u = j := by omega
                subst this; omega
          · have : j = rl m.b := by omega
            refine .inl ⟨(0, [a, .int .i64 (i : Int)], S), ?_, .inl ⟨rfl, fun c hc => ?_⟩⟩
            · have hltj : ¬ (j : Int) < rl m.b := by omega
              simp only [nthA_0, nthA_s, asInt_i, bO_s, r1, a27, b27, d27, l3, hltj, decide_false, Bool.false_eq_true, if_false]
            · obtain ⟨u, hu', rfl⟩ := List.getElem_of_mem hc
              exact hu u hu' (by omega)
        · rintro y (⟨rfl, h⟩ | rfl)
          · simp only [sel, nthA_0, nthA_s, asInt_i, hw]
            refine .inr ⟨hin, _, rfl, rfl, fun j h' h'' => ?_⟩
            by_cases hji : j < i
            · exact hs j h' hji
            · have : j = i := by omega
              subst this
              rw [hm]
              exact ⟨hg1.pre, hg1.r.small (by omega), hg1.v.small (by omega), hg1.b.small (by omega) fun c hc => by have := h c hc; omega⟩
          · simp only [sel, nthA_0, asBool_b]
            exact .inl ⟨_, rfl, .inr rfl⟩
      · have : i = ms.length := by omega
        subst this
        refine .inl ⟨(0, [], S), ?_, .inl ⟨rfl, fun m hm => ?_⟩⟩
        · simp only [nthA_0, nthA_s, asInt_i, ha.len, bO_s, Int.lt_irrefl, decide_false, Bool.false_eq_true, if_false]
        · obtain ⟨j, hj, rfl⟩ := List.getElem_of_mem hm
          exact hs j hj hj
    · rintro y (⟨rfl, h⟩ | rfl)
      · exact ⟨true, by simp only [sel, tr_same], fun _ => ⟨by omega, h⟩⟩
      · exact ⟨false, by simp only [sel, nthA_0, asBool_b, tr_same], fun h => by cases h⟩


-- what the arguments are
theorem c3 : Tryd.prog.cellsOf 3 = 1 := by kernel_rfl
theorem c5 : Tryd.prog.cellsOf 5 = 1 := by kernel_rfl
theorem c9 : Tryd.prog.cellsOf 9 = 1 := by kernel_rfl
theorem c23 : Tryd.prog.cellsOf 23 = 16 := by kernel_rfl
theorem c24 : Tryd.prog.cellsOf 24 = 4 := by kernel_rfl
theorem c25 : Tryd.prog.cellsOf 25 = 1 := by kernel_rfl
theorem c26 : Tryd.prog.cellsOf 26 = 1 := by kernel_rfl
theorem c27 : Tryd.prog.cellsOf 27 = 1 := by kernel_rfl
theorem c29 : Tryd.prog.cellsOf 29 = 29 := by kernel_rfl
theorem c92 : Tryd.prog.cellsOf 59 = 2 := by kernel_rfl
theorem one_of {l : List AV} {i : Nat} {c : AV} (h : List.take 1 (List.drop i l) = [c]) : l[i]? = some c := by
  have := congrArg (fun l => l[0]?) h
  simpa [List.getElem?_take_of_lt] using this
theorem of_one {l : List AV} {i : Nat} (h : i < l.length) : List.take 1 (List.drop i l) = [l[i]] := by
  rw [List.drop_eq_getElem_cons h]; rfl
theorem av5 {N F : Nat} {xs : List AV} (h : avOk Tryd.prog N (F + 1) 5 xs) : ∃ n : Int, xs = [.int .u8 n] ∧ 0 ≤ n ∧ n ≤ 255 := by
  unfold avOk at h
  rw [Tryd.underlying5] at h
  simp only at h
  obtain ⟨n, h1, h2⟩ := h
  exact ⟨n, h1, by simpa [Lit.wf, IntKind.min, IntKind.max, IntKind.signed, IntKind.bits] using h2⟩
theorem av3 {N F : Nat} {xs : List AV} (h : avOk Tryd.prog N (F + 1) 3 xs) : ∃ n : Int, xs = [.int .i64 n] ∧ -9223372036854775808 ≤ n ∧ n ≤ 9223372036854775807 := by
  unfold avOk at h
  rw [Tryd.underlying3] at h
  simp only at h
  obtain ⟨n, h1, h2⟩ := h
  exact ⟨n, h1, by simpa [Lit.wf, IntKind.min, IntKind.max, IntKind.signed, IntKind.bits] using h2⟩
theorem av9 {N F : Nat} {xs : List AV} (h : avOk Tryd.prog N (F + 1) 9 xs) : ∃ s, xs = [.str s] ∧ s.size ≤ N := by
  unfold avOk at h
  rw [show Tryd.prog.underlying 9 = some .string by kernel_rfl] at h
  exact h
theorem av25 {N F : Nat} {xs : List AV} (h : avOk Tryd.prog N (F + 2) 25 xs) : ∃ a, xs = [a] ∧ Row N 1 a := by
  unfold avOk at h
  rw [show Tryd.prog.underlying 25 = some (.slice 3) by kernel_rfl] at h
  simp only [c3, Nat.mul_one] at h
  obtain rfl | ⟨n, cs, rfl, h1, h2, h3⟩ := h
  · exact ⟨_, rfl, .inl rfl⟩
  · refine ⟨_, rfl, .inr ⟨n, cs, rfl, h1, by omega, fun c hc => ?_⟩⟩
    obtain ⟨i, hi, rfl⟩ := List.getElem_of_mem hc
    obtain ⟨v, hv, _⟩ := av3 (h3 i (by omega))
    rw [of_one hi] at hv
    exact ⟨v, by simpa using hv⟩
theorem av92 {N F : Nat} {xs : List AV} (h : avOk Tryd.prog N (F + 2) 59 xs) : ∃ x y : Int, xs = [.int .i64 x, .int .i64 y] := by
  unfold avOk at h
  obtain ⟨f1, f2, hS, o1, o2, t1, t2⟩ : ∃ f1 f2 : Field, Tryd.prog.underlying 59 = some (.struct #[f1, f2]) ∧ f1.offset = 0 ∧ f2.offset = 1 ∧ f1.type = 3 ∧ f2.type = 3 := by
    have hq : (match Tryd.prog.underlying 59 with | some (.struct fs) => fs.toList.map (fun f => (f.offset, f.type)) | _ => []) = [(0, 3), (1, 3)] := by kernel_rfl
    split at hq
    · rename_i fs hfs
      obtain ⟨l⟩ := fs
      match l, hq with
      | [f1, f2], hq =>
        simp only [List.map_cons, List.map_nil, List.cons.injEq, Prod.mk.injEq, and_true] at hq
        obtain ⟨⟨a2, a3⟩, b2, b3⟩ := hq
        exact ⟨f1, f2, hfs, a2, b2, a3, b3⟩
    · cases hq
  rw [hS] at h
  simp only [c92] at h
  obtain ⟨hl, hf⟩ := h
  have h1 := hf f1 (by simp)
  have h2 := hf f2 (by simp)
  rw [o1, t1, c3] at h1
  rw [o2, t2, c3] at h2
  obtain ⟨x, hx, _⟩ := av3 h1
  obtain ⟨y, hy, _⟩ := av3 h2
  refine ⟨x, y, ?_⟩
  match xs, hl with
  | [a, b], _ =>
    simp at hx hy
    rw [hx, hy]
theorem av26 {N F : Nat} {xs : List AV} (h : avOk Tryd.prog N (F + 3) 26 xs) : ∃ a, xs = [a] ∧ Row N 2 a := by
  unfold avOk at h
  rw [show Tryd.prog.underlying 26 = some (.slice 59) by kernel_rfl] at h
  simp only [c92] at h
  obtain rfl | ⟨n, cs, rfl, h1, h2, h3⟩ := h
  · exact ⟨_, rfl, .inl rfl⟩
  · refine ⟨_, rfl, .inr ⟨n, cs, rfl, h1, h2, fun c hc => ?_⟩⟩
    obtain ⟨i, hi, rfl⟩ := List.getElem_of_mem hc
    obtain ⟨x, y, hv⟩ := av92 (h3 (i / 2) (by omega))
    rw [List.drop_eq_getElem_cons (by omega), List.drop_eq_getElem_cons (by omega)] at hv
    simp only [List.take_succ_cons, List.take_zero, List.cons.injEq, and_true] at hv
    by_cases hp : i / 2 * 2 = i
    · exact ⟨x, by simp only [hp] at hv; exact hv.1⟩
    · have : i / 2 * 2 + 1 = i := by omega
      exact ⟨y, by simp only [this] at hv; exact hv.2⟩
theorem av27 {N F : Nat} {xs : List AV} (h : avOk Tryd.prog N (F + 3) 27 xs) : ∃ a, xs = [a] ∧ Rows N a := by
  unfold avOk at h
  rw [show Tryd.prog.underlying 27 = some (.slice 25) by kernel_rfl] at h
  simp only [c25, Nat.mul_one] at h
  obtain rfl | ⟨n, cs, rfl, h1, h2, h3⟩ := h
  · exact ⟨_, rfl, .inl rfl⟩
  · refine ⟨_, rfl, .inr ⟨n, cs, rfl, h1, by omega, fun c hc => ?_⟩⟩
    obtain ⟨i, hi, rfl⟩ := List.getElem_of_mem hc
    obtain ⟨v, hv, hr⟩ := av25 (h3 i (by omega))
    rw [of_one hi] at hv
    rw [List.singleton_inj.1 hv]
    exact hr
theorem map_of : ∀ {l : List AV}, (∀ c ∈ l, ∃ i : Int, c = .int .u8 i ∧ 0 ≤ i ∧ i ≤ 255) → ∃ is : List Int, l = is.map (AV.int .u8) ∧ ∀ i ∈ is, 0 ≤ i ∧ i ≤ 255
  | [], _ => ⟨[], rfl, by simp⟩
  | c :: l, h => by
    obtain ⟨i, rfl, hi⟩ := h c (by simp)
    obtain ⟨is, rfl, his⟩ := map_of (l := l) fun c hc => h c (by simp [hc])
    exact ⟨i :: is, rfl, fun j hj => by rcases List.mem_cons.1 hj with rfl | hj; exact hi; exact his j hj⟩
theorem av29 {N F : Nat} {xs : List AV} (h : avOk Tryd.prog N (F + 4) 29 xs) : ∃ m : M, xs = m.cells ∧ Good N m ∧ (∀ i ∈ m.pre, 0 ≤ i ∧ i ≤ 255) ∧ (0 ≤ m.cb ∧ m.cb ≤ 255) ∧ (-9223372036854775808 ≤ m.qp ∧ m.qp ≤ 9223372036854775807) ∧ m.s.size ≤ N := by
  unfold avOk at h
  rw [Tryd.underlying29] at h
  simp only [c29] at h
  obtain ⟨hl, hf⟩ := h
  simp only [List.mem_toArray, List.mem_cons, List.not_mem_nil, or_false, forall_eq_or_imp, forall_eq, c5, c23, c24, c25, c26, c27, c3, c9] at hf
  obtain ⟨g0, g1, g2, g3, g4, g5, g6, g7, g8, g9, g10⟩ := hf
  obtain ⟨n0, e0, i0⟩ := av5 g0
  obtain ⟨n1, e1, i1⟩ := av5 g1
  obtain ⟨n2, e2, i2⟩ := av5 g2
  obtain ⟨r, e5, i5⟩ := av25 g5
  obtain ⟨v, e6, i6⟩ := av26 g6
  obtain ⟨cb, e7, i7⟩ := av5 g7
  obtain ⟨qp, e8, i8⟩ := av3 g8
  obtain ⟨b, e9, i9⟩ := av27 g9
  obtain ⟨s, e10, i10⟩ := av9 g10
  unfold avOk at g3 g4
  rw [show Tryd.prog.underlying 23 = some (.array 16 5) by kernel_rfl] at g3
  rw [show Tryd.prog.underlying 24 = some (.array 4 5) by kernel_rfl] at g4
  simp only [c5, Nat.mul_one] at g3 g4
  have hpre : ∀ c ∈ xs.take 23, ∃ i : Int, c = .int .u8 i ∧ 0 ≤ i ∧ i ≤ 255 := by
    intro c hc
    obtain ⟨j, hj, rfl⟩ := List.getElem_of_mem hc
    simp only [List.length_take] at hj
    have hj' : j < xs.length := by omega
    have hc : ∀ n, xs[j]? = some (AV.int .u8 n) → (xs.take 23)[j]'(by simp; omega) = .int .u8 n := fun n h => by
      rw [List.getElem_take]
      rw [List.getElem?_eq_getElem hj'] at h
      exact Option.some.inj h
    by_cases h0 : j = 0
    · subst h0; exact ⟨n0, hc _ (one_of e0), i0⟩
    by_cases h1 : j = 1
    · subst h1; exact ⟨n1, hc _ (one_of e1), i1⟩
    by_cases h2 : j = 2
    · subst h2; exact ⟨n2, hc _ (one_of e2), i2⟩
    by_cases h3 : j < 19
    · obtain ⟨n, e, i⟩ := av5 (g3.2 (j - 3) (by omega))
      rw [List.drop_take, List.take_take, List.drop_drop, Nat.min_eq_left (by omega)] at e
      have := one_of e
      rw [show 3 + (j - 3) = j by omega] at this
      exact ⟨n, hc _ this, i⟩
    · obtain ⟨n, e, i⟩ := av5 (g4.2 (j - 19) (by omega))
      rw [List.drop_take, List.take_take, List.drop_drop, Nat.min_eq_left (by omega)] at e
      have := one_of e
      rw [show 19 + (j - 19) = j by omega] at this
      exact ⟨n, hc _ this, i⟩
  obtain ⟨is, his, hir⟩ := map_of hpre
  have hil : is.length = 23 := by have := congrArg List.length his; simp at this; omega
  refine ⟨⟨is, r, v, cb, qp, b, s⟩, ?_, ⟨hil, i5, i6, i9⟩, hir, i7, i8, i10⟩
  have e : xs = xs.take 23 ++ xs.drop 23 := (List.take_append_drop 23 xs).symm
  rw [e, his]
  simp only [M.cells]
  congr 1
  refine List.ext_getElem? fun j => ?_
  rw [List.getElem?_drop]
  match j with
  | 0 => exact one_of e5
  | 1 => exact one_of e6
  | 2 => exact one_of e7
  | 3 => exact one_of e8
  | 4 => exact one_of e9
  | 5 => exact one_of e10
  | j + 6 => rw [List.getElem?_eq_none (by omega)]; simp
theorem mbs_of {Q : M → Prop} {R : List AV → Prop} (hR : ∀ l, R l → ∃ m : M, l = m.cells ∧ Q m) : ∀ (n : Nat) (cs : List AV), cs.length = n * 29 → (∀ i, i < n → R (List.take 29 (List.drop (i * 29) cs))) → ∃ ms : List M, ms.length = n ∧ cs = flat ms ∧ ∀ m ∈ ms, Q m
  | 0, cs, hl, _ => ⟨[], rfl, List.length_eq_zero_iff.1 (by omega), by simp⟩
  | n + 1, cs, hl, h => by
    obtain ⟨m, e, hm⟩ := hR _ (h 0 (by omega))
    obtain ⟨ms, h1, h2, h3⟩ := mbs_of hR n (cs.drop 29) (by simp; omega) fun i hi => by
      have := h (i + 1) (by omega)
      rw [List.drop_drop]
      rw [show 29 + i * 29 = (i + 1) * 29 by omega]
      exact this
    refine ⟨m :: ms, by simp [h1], ?_, fun x hx => by rcases List.mem_cons.1 hx with rfl | hx; exact hm; exact h3 x hx⟩
    rw [Nat.zero_mul, List.drop_zero] at e
    rw [← List.take_append_drop 29 cs, e, h2]
    rfl
/-- What is known of each macroblock that is an argument. -/
structure Arg (m : M) : Prop where
  good : Good maxLen m
  pre : ∀ i ∈ m.pre, 0 ≤ i ∧ i ≤ 255
  cb : 0 ≤ m.cb ∧ m.cb ≤ 255
  qp : -9223372036854775808 ≤ m.qp ∧ m.qp ≤ 9223372036854775807
  s : m.s.size ≤ maxLen
theorem av22 {F : Nat} {xs : List AV} (h : avOk Tryd.prog maxLen (F + 5) 22 xs) : ∃ a ms, xs = [a] ∧ (∀ S, Rd S a ms) ∧ ms.length ≤ maxLen ∧ (∀ m ∈ ms, Arg m) ∧ noId a = true := by
  unfold avOk at h
  rw [Tryd.underlying22] at h
  simp only [c29] at h
  obtain rfl | ⟨n, cs, rfl, h1, h2, h3⟩ := h
  · exact ⟨_, [], rfl, fun S => .inl ⟨rfl, rfl⟩, Nat.zero_le _, by simp, rfl⟩
  · obtain ⟨ms, e1, e2, e3⟩ := mbs_of (Q := Arg) (R := avOk Tryd.prog maxLen (F + 4) 29) (fun l hl => by
      obtain ⟨m, a1, a2, a3, a4, a5, a6⟩ := av29 hl
      exact ⟨m, a1, a2, a3, a4, a5, a6⟩) n cs h2 h3
    subst e1 e2
    refine ⟨_, ms, rfl, fun S => .inr (.inl rfl), h1, e3, ?_⟩
    simp only [Go.Ab.noId]
    refine noIdL_all fun c hc => ?_
    obtain ⟨m, hm, hc⟩ := List.mem_flatMap.1 hc
    have hg := (e3 m hm).good
    simp only [M.cells, List.mem_append, List.mem_map, List.mem_cons, List.not_mem_nil, or_false] at hc
    rcases hc with ⟨i, _, rfl⟩ | rfl | rfl | rfl | rfl | rfl | rfl
    · rfl
    · exact hg.r.noId
    · exact hg.v.noId
    · rfl
    · rfl
    · exact hg.b.noId
    · rfl
theorem arg3 {a : AV} (h : argOk Tryd.prog maxLen 16 3 a) : ∃ n : Int, a = .int .i64 n ∧ -9223372036854775808 ≤ n ∧ n ≤ 9223372036854775807 := by
  unfold argOk at h
  rw [Tryd.underlying3] at h
  obtain ⟨n, h1, h2⟩ := av3 h
  exact ⟨n, by simpa using h1, h2⟩
theorem arg22 {a : AV} (h : argOk Tryd.prog maxLen 16 22 a) : ∃ ms, (∀ S, Rd S a ms) ∧ ms.length ≤ maxLen ∧ (∀ m ∈ ms, Arg m) := by
  unfold argOk at h
  rw [Tryd.underlying22] at h
  obtain ⟨a', ms, h1, h2, h3, h4, _⟩ := av22 (F := 11) h
  cases h1
  exact ⟨ms, h2, h3, h4⟩
theorem arg29 {a : AV} (h : argOk Tryd.prog maxLen 16 29 a) : ∃ m : M, a = .agg m.cells ∧ Arg m := by
  unfold argOk at h
  rw [Tryd.underlying29] at h
  obtain ⟨cs, rfl, h⟩ := h
  obtain ⟨m, a1, a2, a3, a4, a5, a6⟩ := av29 (F := 12) h
  exact ⟨m, by rw [a1], a2, a3, a4, a5, a6⟩

theorem neq4 (x y : Bool) : aBin Tryd.prog .neq 4 (.bool x) (.bool y) = some (.bool (x != y)) := by cases x <;> cases y <;> kernel_rfl
theorem eql4 (x y : Bool) : aBin Tryd.prog .eql 4 (.bool x) (.bool y) = some (.bool (x == y)) := by cases x <;> cases y <;> kernel_rfl
theorem fa_at {fi a : Int} {ms : List M} (i : Nat) (hi : i < ms.length) (ha : a = fi + i) : fa fi ms a = (ms[i], true) := by
  subst ha
  unfold fa
  rw [dif_pos (by omega)]
  have : (fi + (i : Int) - fi).toNat = i := by omega
  simp only [this]
theorem fa_no {fi a : Int} {ms : List M} (h : ¬ (fi ≤ a ∧ a < fi + ms.length)) : fa fi ms a = (zM, false) := by
  unfold fa
  rw [dif_neg h]
/-- Two slices with the same macroblocks, apart. -/
structure Two (S : Heap) (p q p' q' : Nat) (fi w : Int) (ms : List M) : Prop where
  a : Obj S p q fi w ms
  b : Obj S p' q' fi w ms
  ne : p ≠ p'
  nq : ms ≠ [] → q ≠ p' ∧ q' ≠ p ∧ q ≠ q'
theorem Two.add {S : Heap} {p q p' q' : Nat} {fi w : Int} {ms : List M} (h : Two S p q p' q' fi w ms) {m : M} (hg : Good 1000 m ∧ m.norm = m) (hm : fi + ms.length < 8160) :
    let T := addH S p q fi w ms m
    Obj T p' q' fi w ms ∧ Two (addH T p' q' fi w ms m) p S.next p' T.next fi w (ms ++ [m]) := by
  intro T
  have O1 : Obj T p S.next fi w (ms ++ [m]) := addH_obj h.a hg hm
  have tn : T.next = S.next + 1 := addH_next h.a
  have lp := h.a.lp
  have lp' := h.b.lp
  have O1' : Obj T p' q' fi w ms := h.b.keep (by omega) (addH_other h.a lp' (Ne.symm h.ne) fun h0 => Ne.symm (h.nq h0).1) fun h0 => addH_other h.a (h.b.lq h0) (h.nq h0).2.1 fun h0 => Ne.symm (h.nq h0).2.2
  refine ⟨O1', ?_⟩
  have O2 := addH_obj O1' hg hm
  have un : (addH T p' q' fi w ms m).next = T.next + 1 := addH_next O1'
  have O2' : Obj (addH T p' q' fi w ms m) p S.next fi w (ms ++ [m]) := O1.keep (by omega) (addH_other O1' (by omega) h.ne fun h0 => Ne.symm (h.nq h0).2.1)
    fun _ => addH_other O1' (by omega) (by omega) fun h0 => by have := h.b.lq h0; omega
  exact ⟨O2', O2, h.ne, fun _ => ⟨by omega, by omega, by omega⟩⟩

theorem arg_cases {a : AV} {ms : List M} (ha : ∀ S, Rd S a ms) : (a = .nils ∧ ms = []) ∨ a = .is ms.length (flat ms) := by
  rcases ha S0 with h | h | ⟨q, h1, h2, h3⟩
  · exact .inl h
  · exact .inr h
  · exact absurd h3 (Nat.not_lt_zero _)
theorem ix_is {ms : List M} (hp : Pre ms) {i : Nat} (hi : i < ms.length) : aIdx 29 (.is ms.length (flat ms)) (i : Int) = some (.iptr ((flat ms).drop (i * 29))) ∧ 29 ≤ ((flat ms).drop (i * 29)).length ∧ List.take 29 ((flat ms).drop (i * 29)) = ms[i].cells := by
  have hl := flat_len hp
  exact ⟨by simp [aIdx, hi], by rw [List.length_drop]; omega, flat_at hp hi⟩
theorem same_ii (c c' : List AV) (S T U V : Heap) : ctlW.same [.see (.iptr c) S T, .see (.iptr c') U V] = true := same_see2 rfl rfl
end Go.Ab.tNearU
