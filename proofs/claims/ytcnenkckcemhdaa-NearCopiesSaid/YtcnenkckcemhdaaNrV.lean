/- What the functions of layer 14 and of its statements come to, for every macroblock: each lemma names its conditions. -/
import Derived.Test.YtcnenkckcemhdaaNrC
import Derived.IntWalk
set_option maxRecDepth 100000
set_option linter.unusedSimpArgs false
set_option linter.unusedVariables false
set_option linter.unusedSectionVars false
namespace Go.Ab.tNearU
open Go Go.Proofs

-- equality of arrays of bytes and of pairs
theorem pr_bind {α β : Type} {P : Program} (s : Sem α) (f : α → Sem β) : pureRun P (s >>= f) = (pureRun P s).bind fun a => pureRun P (f a) := by
  show pureRun P (Sem.bind s f) = _
  induction s with
  | pure a => rfl
  | program k ih => exact ih P
  | _ => rfl
theorem pr_pure {α : Type} {P : Program} (a : α) : pureRun P (pure a : Sem α) = some a := rfl
theorem pr_und {P : Program} {t : TypeId} {d : TypeDesc} (h : P.underlying t = some d) : pureRun P (underlying t) = some d := by
  unfold underlying
  rw [pr_bind]
  show pureRun P (match P.underlying t with | some d => pure d | none => _) = _
  rw [h]; rfl
theorem pr_int {P : Program} {d : Nat} {t : TypeId} {k k' : IntKind} {a b : Int} (h : P.underlying t = some (.int k')) : pureRun P (Op.equalIn (d + 1) t (.int k a) (.int k b)) = some (a == b) := by
  rw [Op.equalIn, pr_bind, pr_und h]
  simp [pr_pure]
theorem pr_part1 {P : Program} {t : TypeId} {k : IntKind} {cs : List Value} {i : Nat} {v : Value} (h : P.underlying t = some (.int k)) (hv : cs[i]? = some v) : pureRun P (part t cs.toArray i) = some v := by
  unfold part isAgg
  simp only [pr_bind, pr_und h, Option.bind_some, pr_pure, Bool.false_eq_true, if_false]
  rw [List.getElem?_toArray, hv]
  rfl
theorem all_range_eqI : ∀ (xs ys : List Int), xs.length = ys.length → ((List.range xs.length).all fun i => xs.getD i 0 == ys.getD i 0) = (xs == ys)
  | [], [], _ => rfl
  | x :: xs, y :: ys, h => by
    have ih := all_range_eqI xs ys (by simpa using h)
    rw [List.length_cons, List.range_succ_eq_map, List.all_cons, List.all_map]
    simp only [List.getD_cons_zero, Function.comp_def, List.getD_cons_succ, ih]
    simp [List.cons_beq_cons]
  | [], _ :: _, h => by simp at h
  | _ :: _, [], h => by simp at h
theorem pr_array {P : Program} {t e : TypeId} {n d : Nat} {k : IntKind} (ht : P.underlying t = some (.array n e)) (he : P.underlying e = some (.int k)) (hsz : pureRun P (sizeOf e) = some 1) (xs ys : List Int) (hx : xs.length = n) (hy : ys.length = n) :
    pureRun P (Op.equalIn (d + 2) t (.agg (xs.map (Value.int k)).toArray) (.agg (ys.map (Value.int k)).toArray)) = some (xs == ys) := by
  rw [← all_range_eqI xs ys (hx.trans hy.symm), hx, List.range_eq_range', Op.equalIn]
  simp only [pr_bind, pr_und ht, Option.bind_some, hsz, Std.Legacy.Range.forIn_eq_forIn_range', Std.Legacy.Range.size, Nat.sub_zero, Nat.add_sub_cancel, Nat.div_one]
  have hl : ∀ i ∈ List.range' 0 n 1, i < n := fun i hi => by simpa using (List.mem_range'_1.1 hi).2
  generalize List.range' 0 n 1 = l at hl ⊢
  induction l with
  | nil => simp [pr_pure]
  | cons i l ih =>
    have hi : i < n := hl i (by simp)
    have px : pureRun P (part e (xs.map (Value.int k)).toArray (i * 1)) = some (.int k (xs.getD i 0)) := by
      refine pr_part1 he ?_
      simp [List.getD, List.getElem?_eq_getElem (show i < xs.length by omega)]
    have py : pureRun P (part e (ys.map (Value.int k)).toArray (i * 1)) = some (.int k (ys.getD i 0)) := by
      refine pr_part1 he ?_
      simp [List.getD, List.getElem?_eq_getElem (show i < ys.length by omega)]
    simp only [List.forIn_cons, pr_bind, px, py, pr_int he, Option.bind_some, List.all_cons]
    cases hb : (xs.getD i 0 == ys.getD i 0)
    · simp [pr_pure]
    · simp only [Bool.not_true, Bool.false_eq_true, if_false, pr_pure, Option.bind_some, Bool.true_and]
      exact ih fun j hj => hl j (by simp [hj])
theorem toL_ints {k : IntKind} : ∀ xs : List Int, toL (xs.map (AV.int k)) = some (xs.map (Value.int k))
  | [] => rfl
  | x :: xs => by simp only [List.map_cons, toL, toS, toL_ints xs]
theorem eql_bytes {t n : Nat} (ht : Try.prog.underlying t = some (.array n 5)) (hg : Try.prog.eqGuardType Try.prog.depth t = false) (xs ys : List Int) (hx : xs.length = n) (hy : ys.length = n) :
    aBin Try.prog .eql t (.agg (xs.map (AV.int .u8))) (.agg (ys.map (AV.int .u8))) = some (.bool (xs == ys)) := by
  show (aggEq Try.prog t _ _).map AV.bool = _
  unfold aggEq
  rw [toL_ints, toL_ints]
  simp only [hg, Bool.false_eq_true, if_false, Op.equal]
  rw [show Op.maxDepth = 9998 + 2 from rfl, pr_array ht Try.underlying5 (by kernel_rfl) xs ys hx hy]
  rfl
theorem eql23 (xs ys : List Int) (hx : xs.length = 16) (hy : ys.length = 16) : aBin Try.prog .eql 23 (.agg (xs.map (AV.int .u8))) (.agg (ys.map (AV.int .u8))) = some (.bool (xs == ys)) := eql_bytes (by kernel_rfl) (by kernel_rfl) xs ys hx hy
theorem eql24 (xs ys : List Int) (hx : xs.length = 4) (hy : ys.length = 4) : aBin Try.prog .eql 24 (.agg (xs.map (AV.int .u8))) (.agg (ys.map (AV.int .u8))) = some (.bool (xs == ys)) := eql_bytes (by kernel_rfl) (by kernel_rfl) xs ys hx hy
theorem neq92 (a b c d : Int) : aBin Try.prog .neq 92 (.agg [.int .i64 a, .int .i64 b]) (.agg [.int .i64 c, .int .i64 d]) = some (.bool !(a == c && b == d)) := by
  unfold aBin
  simp only [aEql]
  unfold aggEq
  have hg : Try.prog.eqGuardType Try.prog.depth 92 = false := by kernel_rfl
  simp only [toL, toS, hg, Bool.false_eq_true, if_false, Op.equal]
  have hq : (match Try.prog.underlying 92 with | some (.struct fs) => fs.toList.map (fun f => (f.name, f.offset, f.type)) | _ => []) = [("X", 0, 3), ("Y", 1, 3)] := by kernel_rfl
  have hS : ∃ f1 f2 : Field, Try.prog.underlying 92 = some (.struct #[f1, f2]) ∧ f1.offset = 0 ∧ f2.offset = 1 ∧ f1.type = 3 ∧ f2.type = 3 ∧ f1.name = "X" ∧ f2.name = "Y" := by
    split at hq
    · rename_i fs hfs
      obtain ⟨l⟩ := fs
      match l, hq with
      | [f1, f2], hq =>
        simp only [List.map_cons, List.map_nil, List.cons.injEq, Prod.mk.injEq, and_true] at hq
        obtain ⟨⟨a1, a2, a3⟩, b1, b2, b3⟩ := hq
        exact ⟨f1, f2, hfs, a2, b2, a3, b3, a1, b1⟩
    · cases hq
  obtain ⟨f1, f2, hS, o1, o2, t1, t2, n1, n2⟩ := hS
  have hp : Try.prog.stoodInHeld 92 = false := by kernel_rfl
  rw [show Op.maxDepth = 9998 + 2 from rfl, Op.equalIn]
  have pP : pureRun Try.prog program = some Try.prog := rfl
  have p1 : ∀ x y : Int, pureRun Try.prog (part 3 #[.int .i64 x, .int .i64 y] 0) = some (.int .i64 x) := fun x y => pr_part1 (cs := [_, _]) Try.underlying3 rfl
  have p2 : ∀ x y : Int, pureRun Try.prog (part 3 #[.int .i64 x, .int .i64 y] 1) = some (.int .i64 y) := fun x y => pr_part1 (cs := [_, _]) Try.underlying3 rfl
  have pe : ∀ x y : Int, pureRun Try.prog (Op.equalIn (9998 + 1) 3 (.int .i64 x) (.int .i64 y)) = some (x == y) := fun x y => pr_int Try.underlying3
  simp only [pr_bind, pr_und hS, Option.bind_some, pP, hp, Bool.false_eq_true, if_false]
  rw [← Array.forIn_toList]
  have n1 : f1.name ≠ "_" := by rw [n1]; decide
  have n2 : f2.name ≠ "_" := by rw [n2]; decide
  simp only [List.forIn_cons, List.forIn_nil, pr_bind, o1, o2, t1, t2, n1, n2, ne_eq, not_false_eq_true, if_true, p1, p2, pe, Option.bind_some, List.toArray]
  by_cases h1 : a = c <;> by_cases h2 : b = d <;> simp [h1, h2, pr_bind, pr_pure, p2, pe]
end Go.Ab.tNearU

set_option maxRecDepth 100000
set_option linter.unusedSimpArgs false
set_option linter.unusedVariables false
set_option linter.unusedSectionVars false
namespace Go.Ab.tNearU
open Go Go.Proofs

-- how the parts of a T are reckoned
@[simp] theorem bO_s {α β : Type} (a : α) (f : α → Option β) : bO (some a) f = f a := (rfl)
@[simp] theorem gB_t {β : Type} (k : Option β) : gB true k = k := (rfl)
@[simp] theorem asBool_b {β : Type} (b : Bool) (f : Bool → Option β) : asBool (.bool b) f = f b := (rfl)
@[simp] theorem asInt_i {β : Type} (k : IntKind) (n : Int) (f : Int → Option β) : asInt k (.int k n) f = f n := by simp [asInt]
@[simp] theorem asAgg_a {β : Type} (l : List AV) (f : List AV → Option β) : asAgg (.agg l) f = f l := (rfl)
@[simp] theorem asTup_a {β : Type} (l : List AV) (f : List AV → Option β) : asTup (.tup l) f = f l := (rfl)
@[simp] theorem asStr_s {β : Type} (l : ByteArray) (f : ByteArray → Option β) : asStr (.str l) f = f l := (rfl)
@[simp] theorem asCons_c {β : Type} (a : AV) (l : List AV) (f : AV → List AV → Option β) : asCons (a :: l) f = f a l := (rfl)
@[simp] theorem nthA_0 (a : AV) (l : List AV) : nthA (a :: l) 0 = a := (rfl)
@[simp] theorem nthA_s (a : AV) (l : List AV) (n : Nat) : nthA (a :: l) (n + 1) = nthA l n := (rfl)
@[simp] theorem aggCells_a (l : List AV) : aggCells (.agg l) = l := (rfl)
@[simp] theorem addV_p (i o n : Nat) : addV (.ptr i o) n = some (.ptr i (o + n)) := (rfl)
@[simp] theorem seeV_p (i o : Nat) (S : Heap) : seeV (.ptr i o) S = (match S.blk i with | some cs => some (cs, o) | none => none) := (rfl)
@[simp] theorem seeV_i (cs : List AV) (S : Heap) : seeV (.iptr cs) S = some (cs, 0) := (rfl)
@[simp] theorem same_nil : ctlW.same [] = true := by simp [ctlW]
theorem same_see (a : AV) (S : Heap) : ctlW.same [.see a S S] = true := by simp [ctlW, Chk.ok]
theorem same_see2 {a b : AV} {S S' T T' : Heap} (h1 : seeV a S = seeV a S') (h2 : seeV b T = seeV b T') : ctlW.same [.see a S S', .see b T T'] = true := by simp [ctlW, Chk.ok, h1, h2]
theorem same_see1 {a : AV} {S S' : Heap} (h1 : seeV a S = seeV a S') : ctlW.same [.see a S S'] = true := by simp [ctlW, Chk.ok, h1]
theorem wr (n : Int) (h : -9223372036854775808 ≤ n ∧ n ≤ 9223372036854775807) : IntKind.i64.wrap n = n := IntWalk.i64_in n h
theorem rem64 (x y : Int) (h : y ≠ 0) : aInt .rem .i64 x y = some (.int .i64 (x.tmod y)) := by simp [aInt, h]

-- the heap a function gives back
def Ext (S S' : Heap) : Prop := S.next ≤ S'.next ∧ S'.cx = S.cx ∧ ∀ i, i < S.next → S'.blk i = S.blk i
theorem Ext.refl (S : Heap) : Ext S S := ⟨Nat.le_refl _, rfl, fun _ _ => rfl⟩
theorem Ext.trans {S T U : Heap} (h1 : Ext S T) (h2 : Ext T U) : Ext S U := ⟨Nat.le_trans h1.1 h2.1, h2.2.1.trans h1.2.1, fun i hi => (h2.2.2 i (by have := h1.1; omega)).trans (h1.2.2 i hi)⟩
theorem Ext.alloc (S : Heap) (cs : List AV) : Ext S (S.alloc cs) := ⟨Nat.le_succ _, rfl, fun i hi => by simp [Heap.alloc]; intro h; omega⟩
theorem Ext.set {S T : Heap} (h : Ext S T) {i : Nat} (hi : S.next ≤ i) (c : Option (List AV)) : Ext S (T.set i c) := ⟨h.1, h.2.1, fun j hj => by
  have : ¬ j = i := by omega
  simp [Heap.set, this, h.2.2 j hj]⟩
@[simp] theorem set_next (S : Heap) (i : Nat) (c : Option (List AV)) : (S.set i c).next = S.next := (rfl)
@[simp] theorem alloc_next (S : Heap) (c : List AV) : (S.alloc c).next = S.next + 1 := (rfl)
@[simp] theorem alloc_blk (S : Heap) (c : List AV) : (S.alloc c).blk S.next = some c := by simp [Heap.alloc]
@[simp] theorem set_blk (S : Heap) (i : Nat) (c : Option (List AV)) : (S.set i c).blk i = c := by simp [Heap.set]
theorem set_other (S : Heap) {i j : Nat} (c : Option (List AV)) (h : j ≠ i) : (S.set i c).blk j = S.blk j := by simp [Heap.set, h]
theorem alloc_other (S : Heap) {j : Nat} (c : List AV) (h : j ≠ S.next) : (S.alloc c).blk j = S.blk j := by simp [Heap.alloc, h]
theorem tr_S {S S' : Heap} {v : AV} (hv : noId v = true) (h : Ext S S') : ctlW.tr S v S' = (v, S) := by
  simp only [ctlW, trim]
  rw [if_pos ⟨hv, h.2.1, h.2.2⟩]
theorem tr_id (S : Heap) (v : AV) : ctlW.tr S v S = (v, S) := by simp only [ctlW, trim]; split <;> rfl
@[simp] theorem tr_same (S : Heap) (v : AV) : ctlW.tr S v S = (v, S) := tr_id S v
theorem tr_id2 {S S' : Heap} {v : AV} (h : noId v = false) : ctlW.tr S v S' = (v, S') := by
  simp only [ctlW, trim]
  rw [if_neg]
  rintro ⟨h1, _⟩
  rw [h] at h1; cases h1
theorem tr_ne {S S' : Heap} {v : AV} (i : Nat) (h : i < S.next) (hne : S'.blk i ≠ S.blk i) : ctlW.tr S v S' = (v, S') := by
  simp only [ctlW, trim]
  rw [if_neg]
  rintro ⟨_, _, h3⟩
  exact hne (h3 i h)
theorem tr_fst (S S1 : Heap) (v : AV) : ∃ S', ctlW.tr S v S1 = (v, S') := by
  simp only [ctlW, trim]
  split <;> exact ⟨_, rfl⟩
theorem some_tr (S S1 : Heap) (v : AV) : ∃ S', some (ctlW.tr S v S1) = some (v, S') := by
  obtain ⟨S', h⟩ := tr_fst S S1 v
  exact ⟨S', by rw [h]⟩

-- loops
theorem bloop {step : LSt → Option (LSt ⊕ (Nat × LSt))} {s : LSt} {α : Type} {f : Nat × LSt → Option α} :
    bO (ctlW.loop step s) f = (match step s with | some (.inl s') => bO (ctlW.loop step s') f | some (.inr x) => f x | none => none) := by
  show bO (loopW step s) f = _
  cases h : step s with
  | none =>
    have : loopW step s = none := by
      unfold loopW
      rw [dif_neg]
      rintro ⟨x, hx⟩
      cases hx with
      | done k => rw [h] at k; cases k
      | cont k _ => rw [h] at k; cases k
    rw [this]; rfl
  | some y =>
    cases y with
    | inl s' => simp only; rw [loopW_cont h]; rfl
    | inr x => simp only; rw [loopW_done h]; rfl
/-- A loop that goes from 0 to c, or ends before. -/
theorem loop_rel {step : LSt → Option (LSt ⊕ (Nat × LSt))} {α : Type} {f : Nat × LSt → Option α} {s0 : LSt} (P : Nat → LSt → Prop) (Q : Nat × LSt → Prop) (c : Nat) (h0 : P 0 s0)
    (hs : ∀ i s, i ≤ c → P i s → (∃ x, step s = some (.inr x) ∧ Q x) ∨ (i < c ∧ ∃ s', step s = some (.inl s') ∧ P (i + 1) s')) : ∃ x, Q x ∧ bO (ctlW.loop step s0) f = f x := by
  have : ∀ n i s, i + n = c → P i s → ∃ x, Q x ∧ bO (ctlW.loop step s) f = f x := by
    intro n
    induction n with
    | zero =>
      intro i s h hp
      rcases hs i s (by omega) hp with ⟨x, h1, h2⟩ | ⟨h1, _⟩
      · exact ⟨x, h2, by rw [bloop, h1]⟩
      · omega
    | succ n ih =>
      intro i s h hp
      rcases hs i s (by omega) hp with ⟨x, h1, h2⟩ | ⟨h1, s', h2, h3⟩
      · exact ⟨x, h2, by rw [bloop, h1]⟩
      · obtain ⟨x, hx, he⟩ := ih (i + 1) s' (by omega) h3
        exact ⟨x, hx, by rw [bloop, h2]; exact he⟩
  exact this c 0 s0 (by omega) h0

theorem loop_to {step : LSt → Option (LSt ⊕ (Nat × LSt))} {α : Type} {f : Nat × LSt → Option α} {s0 : LSt} {R : Option α} (P : Nat → LSt → Prop) (Q : Nat × LSt → Prop) (c : Nat) (h0 : P 0 s0)
    (hs : ∀ i s, i ≤ c → P i s → (∃ x, step s = some (.inr x) ∧ Q x) ∨ (i < c ∧ ∃ s', step s = some (.inl s') ∧ P (i + 1) s')) (hq : ∀ x, Q x → f x = R) : bO (ctlW.loop step s0) f = R := by
  obtain ⟨x, hx, he⟩ := loop_rel (f := f) P Q c h0 hs
  exact he.trans (hq x hx)
theorem loop_ex {step : LSt → Option (LSt ⊕ (Nat × LSt))} {α : Type} {f : Nat × LSt → Option α} {s0 : LSt} (W : Option α → Prop) (P : Nat → LSt → Prop) (Q : Nat × LSt → Prop) (c : Nat) (h0 : P 0 s0)
    (hs : ∀ i s, i ≤ c → P i s → (∃ x, step s = some (.inr x) ∧ Q x) ∨ (i < c ∧ ∃ s', step s = some (.inl s') ∧ P (i + 1) s')) (hq : ∀ x, Q x → W (f x)) : W (bO (ctlW.loop step s0) f) := by
  obtain ⟨x, hx, he⟩ := loop_rel (f := f) P Q c h0 hs
  rw [he]; exact hq x hx

-- freezing
def plain1 : AV → Bool
  | .hs _ _ _ _ => false
  | .agg _ => false
  | .tup _ => false
  | _ => true
theorem fz_plain1 {d : Nat} {a : AV} {S : Heap} (h : plain1 a = true) : fz (d + 1) a S = some (a, S) := by cases a <;> simp [plain1] at h <;> rfl
theorem fzM_plain {d : Nat} {S : Heap} : ∀ {l : List AV}, l.all plain1 = true → fzM (fz (d + 1)) l S = some (l, S)
  | [], _ => rfl
  | a :: l, h => by
    simp only [List.all_cons, Bool.and_eq_true] at h
    simp only [fzM, fz_plain1 h.1, fzM_plain h.2]
theorem fzM_app {d : Nat} {l : List AV} {S : Heap} (h : l.all plain1 = true) (r : List AV) : fzM (fz (d + 1)) (l ++ r) S = (match fzM (fz (d + 1)) r S with | some (r', S') => some (l ++ r', S') | none => none) := by
  induction l with
  | nil => simp; cases fzM (fz (d + 1)) r S with | none => rfl | some x => rfl
  | cons a l ih =>
    simp only [List.all_cons, Bool.and_eq_true] at h
    simp only [List.cons_append, fzM, fz_plain1 h.1, ih h.2]
    cases fzM (fz (d + 1)) r S with | none => rfl | some x => rfl
theorem fz40_nils {S : Heap} : fz 40 .nils S = some (.nils, S) := (rfl)
theorem fz40_agg {l : List AV} {S : Heap} (h : l.all plain1 = true) : fz 40 (.agg l) S = some (.agg l, S) := by
  rw [show (40 : Nat) = 38 + 1 + 1 from rfl, fz, fzM_plain h]
theorem fz40_pair {l : List AV} {b : Bool} {S : Heap} (h : l.all plain1 = true) : fz 40 (.tup [.agg l, .bool b]) S = some (.tup [.agg l, .bool b], S) := by
  rw [show (40 : Nat) = 37 + 1 + 1 + 1 from rfl, fz]
  simp only [fzM]
  rw [fz, fzM_plain h]
  rfl
theorem fz_hs {d : Nat} {l : List AV} {S : Heap} {id n es : Nat} (hb : S.blk id = some l) (hn : l.length = n * es) (h : l.all plain1 = true) : fz (d + 1 + 1) (.hs id 0 n es) S = some (.is n l, S.set id none) := by
  rw [fz, hb]
  simp only [Nat.zero_add, hn, Nat.le_refl, if_true, List.drop_zero]
  rw [List.take_of_length_le (by omega), fzM_plain h]

-- append
theorem app_nil {es by' n : Nat} {cs : List AV} {S : Heap} (h0 : n ≠ 0) (hn : cs.length = n * es) (h1 : n * by' ≤ mostRoom) (h2 : n ≤ mostRoom) : aAppend es by' .nils (.is n cs) S = some (.hs S.next 0 n es, S.alloc cs) := by
  unfold aAppend rowOf
  simp only [hn, if_true]
  unfold aAppendN
  simp only [h0, if_false, h1, h2, and_self, if_true]
theorem app_nil0 {es by' : Nat} {cs : List AV} {S : Heap} (hn : cs.length = 0 * es) : aAppend es by' .nils (.is 0 cs) S = some (.nils, S) := by
  unfold aAppend rowOf
  simp only [hn, if_true]
  rfl
theorem app_nilnil {es by' : Nat} {S : Heap} : aAppend es by' .nils .nils S = some (.nils, S) := rfl
theorem app_hs {es by' id m n : Nat} {cs new : List AV} {S : Heap} (h : S.blk id = some cs) (hl : cs.length = m * es) (hn : new.length = n * es) (h0 : n ≠ 0) (hb : (m + n) * by' ≤ mostRoom) (hm : m + n ≤ mostRoom) (hc : new.all cell = true) :
    aAppend es by' (.hs id 0 m es) (.is n new) S = some (.hs S.next 0 (m + n) es, (S.set id none).alloc (cs ++ new)) := by
  unfold aAppend rowOf
  simp only [hn, if_true]
  unfold aAppendN
  simp only [h0, if_false, h, hl, Nat.zero_add, Nat.le_refl, hb, hm, hc, and_self, List.drop_zero, if_true]
  rw [List.take_of_length_le (by omega)]
theorem app_hs0 {es by' id m : Nat} {cs : List AV} {S : Heap} (hn : cs.length = 0 * es) : aAppend es by' (.hs id 0 m es) (.is 0 cs) S = some (.hs id 0 m es, S) := by
  unfold aAppend rowOf
  simp only [hn, if_true]
  rfl
theorem room {n b : Nat} (h : n ≤ 1000) (hb : b ≤ 1000) : n * b ≤ mostRoom := by
  have : n * b ≤ 1000 * 1000 := Nat.mul_le_mul h hb
  unfold mostRoom; omega
theorem room1 {n : Nat} (h : n ≤ 1000) : n ≤ mostRoom := by unfold mostRoom; omega

/-- What is known beforehand says nothing of these. -/
def Silent (B : CallF) : Prop := ∀ f way args S, f ≠ f_spindlelaw14_awake → B f way args S = none

-- rows of numbers
def ints (cs : List AV) : Prop := ∀ c ∈ cs, ∃ i, c = .int .i64 i
def Row (N es : Nat) (a : AV) : Prop := a = .nils ∨ ∃ n cs, a = .is n cs ∧ n ≤ N ∧ cs.length = n * es ∧ ints cs
def Rows (N : Nat) (a : AV) : Prop := a = .nils ∨ ∃ n cs, a = .is n cs ∧ n ≤ N ∧ cs.length = n ∧ ∀ c ∈ cs, Row N 1 c
def nrm (a : AV) : AV := match a with | .is 0 _ => .nils | a => a
def nrmB (a : AV) : AV := match a with | .is 0 _ => .nils | .is n cs => .is n (cs.map nrm) | a => a
def cut (a : AV) : List AV := match a with | .is _ cs => cs | _ => []
theorem ints_plain {cs : List AV} (h : ints cs) : cs.all plain1 = true := List.all_eq_true.2 fun c hc => by obtain ⟨i, rfl⟩ := h c hc; rfl
theorem ints_cell {cs : List AV} (h : ints cs) : cs.all cell = true := List.all_eq_true.2 fun c hc => by obtain ⟨i, rfl⟩ := h c hc; rfl
theorem noIdL_all : ∀ {l : List AV}, (∀ c ∈ l, noId c = true) → noIdL l = true
  | [], _ => rfl
  | a :: l, h => by simp only [noIdL, h a (by simp), noIdL_all (l := l) fun c hc => h c (by simp [hc]), Bool.and_self]
theorem ints_noId {cs : List AV} (h : ints cs) : noIdL cs = true := noIdL_all fun c hc => by obtain ⟨i, rfl⟩ := h c hc; rfl
theorem Row.noId {N es : Nat} {a : AV} (h : Row N es a) : noId a = true := by
  obtain rfl | ⟨n, cs, rfl, _, _, h⟩ := h
  · rfl
  · simp only [Go.Ab.noId, ints_noId h]
theorem Row.plain {N es : Nat} {a : AV} (h : Row N es a) : plain1 a = true := by obtain rfl | ⟨n, cs, rfl, _⟩ := h <;> rfl
theorem Row.cell {N es : Nat} {a : AV} (h : Row N es a) : cell a = true := by obtain rfl | ⟨n, cs, rfl, _⟩ := h <;> rfl
theorem Row.nrm {N es : Nat} {a : AV} (h : Row N es a) : Row N es (nrm a) := by
  obtain rfl | ⟨n, cs, rfl, h1, h2, h3⟩ := h
  · exact .inl rfl
  · cases n with
    | zero => exact .inl rfl
    | succ n => exact .inr ⟨_, _, rfl, h1, h2, h3⟩
theorem Row.mono {N N' es : Nat} {a : AV} (h : Row N es a) (hN : N ≤ N') : Row N' es a := by
  obtain rfl | ⟨n, cs, rfl, h1, h2, h3⟩ := h
  · exact .inl rfl
  · exact .inr ⟨_, _, rfl, by omega, h2, h3⟩
theorem nrm_nrm (a : AV) : nrm (nrm a) = nrm a := by
  cases a with
  | is n cs => cases n <;> rfl
  | _ => rfl
theorem Rows.noId {N : Nat} {a : AV} (h : Rows N a) : noId a = true := by
  obtain rfl | ⟨n, cs, rfl, _, _, h⟩ := h
  · rfl
  · simp only [Go.Ab.noId, noIdL_all fun c hc => (h c hc).noId]
theorem Rows.plain {N : Nat} {a : AV} (h : Rows N a) : plain1 a = true := by obtain rfl | ⟨n, cs, rfl, _⟩ := h <;> rfl
theorem Rows.cell {N : Nat} {a : AV} (h : Rows N a) : cell a = true := by obtain rfl | ⟨n, cs, rfl, _⟩ := h <;> rfl
theorem Rows.nrm {N : Nat} {a : AV} (h : Rows N a) : Rows N (nrmB a) := by
  obtain rfl | ⟨n, cs, rfl, h1, h2, h3⟩ := h
  · exact .inl rfl
  · cases n with
    | zero => exact .inl rfl
    | succ n => exact .inr ⟨n + 1, cs.map Go.Ab.tNearU.nrm, rfl, h1, by simp [h2], fun c hc => by
        obtain ⟨d, hd, rfl⟩ := List.mem_map.1 hc
        exact (h3 d hd).nrm⟩
theorem nrmB_nrmB (a : AV) : nrmB (nrmB a) = nrmB a := by
  cases a with
  | is n cs =>
    cases n with
    | zero => rfl
    | succ n => simp [nrmB, Function.comp_def, nrm_nrm]
  | _ => rfl
theorem Rows.mono {N N' : Nat} {a : AV} (h : Rows N a) (hN : N ≤ N') : Rows N' a := by
  obtain rfl | ⟨n, cs, rfl, h1, h2, h3⟩ := h
  · exact .inl rfl
  · exact .inr ⟨_, _, rfl, by omega, h2, fun c hc => (h3 c hc).mono hN⟩

-- copies of rows
theorem eql25 (a : AV) {N es : Nat} (h : Row N es a) : aBin Try.prog .eql 25 a .nils = some (.bool (match a with | .nils => true | _ => false)) := by obtain rfl | ⟨n, cs, rfl, _⟩ := h <;> kernel_rfl
theorem eql26 (a : AV) {N es : Nat} (h : Row N es a) : aBin Try.prog .eql 26 a .nils = some (.bool (match a with | .nils => true | _ => false)) := by obtain rfl | ⟨n, cs, rfl, _⟩ := h <;> kernel_rfl
theorem eql27 (a : AV) {N : Nat} (h : Rows N a) : aBin Try.prog .eql 27 a .nils = some (.bool (match a with | .nils => true | _ => false)) := by obtain rfl | ⟨n, cs, rfl, _⟩ := h <;> kernel_rfl
theorem frozen_new {S : Heap} {cs : List AV} {n es : Nat} (hl : cs.length = n * es) (hp : cs.all plain1 = true) (d : Nat) : fz (d + 1 + 1) (.hs S.next 0 n es) (S.alloc cs) = some (.is n cs, (S.alloc cs).set S.next none) := fz_hs (alloc_blk S cs) hl hp
theorem copyInts_c {B : CallF} (hB : Silent B) (k : Nat) {a : AV} (h : Row 1000 1 a) (S : Heap) : Cn B (k + 1) f_spindlekit_CopyInts 0 [a] S = some (nrm a, S) := by
  rw [c_spindlekit_CopyInts _ _ _ _ (hB _ _ _ _ (by decide)), T_spindlekit_CopyInts]
  have hn := h.noId
  obtain rfl | ⟨n, cs, rfl, h1, h2, h3⟩ := h
  · simp [app_nilnil, fz40_nils, nrm]
  · by_cases h0 : n = 0
    · subst h0
      simp [app_nil0 (S := S) h2, fz40_nils, nrm]
    · rw [app_nil h0 h2 (room h1 (by omega)) (room1 h1)]
      simp only [bO_s]
      rw [frozen_new h2 (ints_plain h3)]
      simp only [bO_s]
      rw [tr_S hn ((Ext.alloc S cs).set (Nat.le_refl _) none)]
      have : nrm (.is n cs) = .is n cs := by cases n with | zero => exact absurd rfl h0 | succ n => rfl
      rw [this]
theorem clone1_c {B : CallF} (hB : Silent B) (k : Nat) {a : AV} (h : Row 1000 1 a) (S : Heap) : Cn B (k + 1) f_slices_Clone_int_int 0 [a] S = some (a, S) := by
  rw [c_slices_Clone_int_int _ _ _ _ (hB _ _ _ _ (by decide)), T_slices_Clone_int_int, eql25 a h]
  have hn := h.noId
  obtain rfl | ⟨n, cs, rfl, h1, h2, h3⟩ := h
  · simp [fz40_nils]
  · simp only [bO_s, asBool_b, Bool.false_eq_true, if_false]
    by_cases h0 : n = 0
    · subst h0
      have hcs : cs = [] := List.length_eq_zero_iff.1 (by omega)
      subst hcs
      rw [app_hs0 (by simp)]
      simp only [bO_s]
      rw [frozen_new (by simp) rfl]
      simp only [bO_s]
      rw [tr_S hn ((Ext.alloc S []).set (Nat.le_refl _) none)]
    · rw [app_hs (cs := []) (alloc_blk S []) (by simp) h2 h0 (by rw [Nat.zero_add]; exact room h1 (by omega)) (by rw [Nat.zero_add]; exact room1 h1) (ints_cell h3)]
      simp only [bO_s, List.nil_append, Nat.zero_add]
      rw [show (S.alloc []).next = ((S.alloc []).set S.next none).next from rfl, frozen_new h2 (ints_plain h3)]
      simp only [bO_s]
      rw [tr_S hn]
      exact (((Ext.alloc S []).set (Nat.le_refl _) none).trans (Ext.alloc _ cs)).set (by simp) none
theorem clone2_c {B : CallF} (hB : Silent B) (k : Nat) {a : AV} (h : Row 1000 2 a) (S : Heap) : Cn B (k + 1) f_slices_Clone_api_Vec_api_Vec 0 [a] S = some (a, S) := by
  rw [c_slices_Clone_api_Vec_api_Vec _ _ _ _ (hB _ _ _ _ (by decide)), T_slices_Clone_api_Vec_api_Vec, eql26 a h]
  have hn := h.noId
  obtain rfl | ⟨n, cs, rfl, h1, h2, h3⟩ := h
  · simp [fz40_nils]
  · simp only [bO_s, asBool_b, Bool.false_eq_true, if_false]
    by_cases h0 : n = 0
    · subst h0
      have hcs : cs = [] := List.length_eq_zero_iff.1 (by omega)
      subst hcs
      rw [app_hs0 (by simp)]
      simp only [bO_s]
      rw [frozen_new (by simp) rfl]
      simp only [bO_s]
      rw [tr_S hn ((Ext.alloc S []).set (Nat.le_refl _) none)]
    · rw [app_hs (cs := []) (alloc_blk S []) (by simp) h2 h0 (by rw [Nat.zero_add]; exact room h1 (by omega)) (by rw [Nat.zero_add]; exact room1 h1) (ints_cell h3)]
      simp only [bO_s, List.nil_append, Nat.zero_add]
      rw [show (S.alloc []).next = ((S.alloc []).set S.next none).next from rfl, frozen_new h2 (ints_plain h3)]
      simp only [bO_s]
      rw [tr_S hn]
      exact (((Ext.alloc S []).set (Nat.le_refl _) none).trans (Ext.alloc _ cs)).set (by simp) none
/-- The copy of a row of rows is a new block, with the same cells. -/
theorem clone3_c {B : CallF} (hB : Silent B) (k : Nat) {n : Nat} {cs : List AV} (h : Rows 1000 (.is n cs)) (S : Heap) : ∃ id S', Cn B (k + 1) f_slices_Clone_int_int_v2 0 [.is n cs] S = some (.hs id 0 n 1, S') ∧ S.next ≤ id ∧ id < S'.next ∧ S'.blk id = some cs ∧ Ext S S' := by
  rw [c_slices_Clone_int_int_v2 _ _ _ _ (hB _ _ _ _ (by decide)), T_slices_Clone_int_int_v2, eql27 _ h]
  obtain h | ⟨n', cs', he, h1, h2, h3⟩ := h
  · cases h
  · cases he
    simp only [bO_s, asBool_b, Bool.false_eq_true, if_false]
    by_cases h0 : n = 0
    · subst h0
      have hcs : cs = [] := List.length_eq_zero_iff.1 (by omega)
      subst hcs
      rw [app_hs0 (by simp)]
      simp only [bO_s]
      exact ⟨S.next, S.alloc [], by rw [tr_id2 (by rfl)], Nat.le_refl _, Nat.lt_succ_self _, alloc_blk S [], Ext.alloc S []⟩
    · have hc : cs.all cell = true := List.all_eq_true.2 fun c hc => (h3 c hc).cell
      rw [app_hs (cs := []) (alloc_blk S []) (by simp) (by omega) h0 (by rw [Nat.zero_add]; exact room h1 (by omega)) (by rw [Nat.zero_add]; exact room1 h1) hc]
      simp only [bO_s, List.nil_append, Nat.zero_add]
      exact ⟨(S.alloc []).next, _, by rw [tr_id2 (by rfl)], by simp, by simp, alloc_blk ((S.alloc []).set S.next none) cs, ((Ext.alloc S []).set (Nat.le_refl _) none).trans (Ext.alloc _ cs)⟩
end Go.Ab.tNearU

set_option maxRecDepth 100000
set_option linter.unusedSimpArgs false
set_option linter.unusedVariables false
set_option linter.unusedSectionVars false
namespace Go.Ab.tNearU
open Go Go.Proofs

theorem loop_ind {step : LSt → Option (LSt ⊕ (Nat × LSt))} {α : Type} {f : Nat × LSt → Option α} (I : Nat → LSt) (c : Nat) {x : Nat × LSt} (h1 : ∀ i, i < c → step (I i) = some (.inl (I (i + 1)))) (h2 : step (I c) = some (.inr x)) :
    bO (ctlW.loop step (I 0)) f = f x := by
  have : ∀ n i, i + n = c → bO (ctlW.loop step (I i)) f = f x := by
    intro n
    induction n with
    | zero =>
      intro i h
      have : i = c := by omega
      subst this
      rw [bloop, h2]
    | succ n ih =>
      intro i h
      rw [bloop, h1 i (by omega)]
      exact ih (i + 1) (by omega)
  exact this c 0 (by omega)

-- looks at rows
theorem len25 {a : AV} {N es : Nat} (h : Row N es a) (hes : 0 < es) : ∃ n, n ≤ N ∧ (cut a).length = n * es ∧ aLen Try.prog 25 a = some (.int .i64 n) ∧ ∀ i, i < n → aIdx es a (i : Int) = some (.iptr ((cut a).drop (i * es))) := by
  obtain rfl | ⟨n, cs, rfl, h1, h2, h3⟩ := h
  · exact ⟨0, by omega, by simp [cut], by kernel_rfl, fun i hi => by omega⟩
  · exact ⟨n, h1, h2, by kernel_rfl, fun i hi => by simp [aIdx, hi, cut]⟩
theorem len26 {a : AV} {N es : Nat} (h : Row N es a) (hes : 0 < es) : ∃ n, n ≤ N ∧ (cut a).length = n * es ∧ aLen Try.prog 26 a = some (.int .i64 n) ∧ ∀ i, i < n → aIdx es a (i : Int) = some (.iptr ((cut a).drop (i * es))) := by
  obtain rfl | ⟨n, cs, rfl, h1, h2, h3⟩ := h
  · exact ⟨0, by omega, by simp [cut], by kernel_rfl, fun i hi => by omega⟩
  · exact ⟨n, h1, h2, by kernel_rfl, fun i hi => by simp [aIdx, hi, cut]⟩
theorem len27 {a : AV} {N : Nat} (h : Rows N a) : ∃ n, n ≤ N ∧ (cut a).length = n ∧ aLen Try.prog 27 a = some (.int .i64 n) ∧ ∀ i, i < n → aIdx 1 a (i : Int) = some (.iptr ((cut a).drop i)) := by
  obtain rfl | ⟨n, cs, rfl, h1, h2, h3⟩ := h
  · exact ⟨0, by omega, by simp [cut], by kernel_rfl, fun i hi => by omega⟩
  · exact ⟨n, h1, h2, by kernel_rfl, fun i hi => by simp [aIdx, hi, cut]⟩
theorem Row.ints {a : AV} {N es : Nat} (h : Row N es a) : ints (cut a) := by
  obtain rfl | ⟨n, cs, rfl, h1, h2, h3⟩ := h
  · intro c hc; simp [cut] at hc
  · exact h3
theorem Rows.mem {a : AV} {N : Nat} (h : Rows N a) : ∀ c ∈ cut a, Row N 1 c := by
  obtain rfl | ⟨n, cs, rfl, h1, h2, h3⟩ := h
  · intro c hc; simp [cut] at hc
  · exact h3
theorem cut_nrm {N es : Nat} {a : AV} (h : Row N es a) : cut (nrm a) = cut a := by
  obtain rfl | ⟨n, cs, rfl, h1, h2, h3⟩ := h
  · rfl
  · cases n with
    | zero => exact (List.length_eq_zero_iff.1 (show cs.length = 0 by simpa using h2)).symm
    | succ n => rfl
theorem cut_nrmB {N : Nat} {a : AV} (h : Rows N a) : (cut (nrmB a)).map cut = (cut a).map cut := by
  obtain rfl | ⟨n, cs, rfl, h1, h2, h3⟩ := h
  · rfl
  · cases n with
    | zero => simp [nrmB, cut]; exact (List.length_eq_zero_iff.1 (by omega))
    | succ n =>
      simp only [nrmB, cut, List.map_map]
      exact List.map_congr_left fun c hc => cut_nrm (h3 c hc)

-- equality of rows
theorem equalInts_c {B : CallF} (hB : Silent B) (k : Nat) {a b : AV} (ha : Row 1000 1 a) (hb : Row 1000 1 b) (he : cut a = cut b) (S : Heap) : Cn B (k + 1) f_spindlekit_EqualInts 0 [a, b] S = some (.bool true, S) := by
  rw [c_spindlekit_EqualInts _ _ _ _ _ (hB _ _ _ _ (by decide)), T_spindlekit_EqualInts]
  obtain ⟨n, hn, hl, hL, hI⟩ := len25 ha (by omega)
  obtain ⟨n', hn', hl', hL', hI'⟩ := len25 hb (by omega)
  have : n' = n := by rw [← he] at hl'; omega
  subst this
  simp only [hL, hL', bO_s, asInt_i, bne_self_eq_false, Bool.false_eq_true, if_false]
  refine (loop_ind (fun i => ([a, b, .int .i64 (i : Int)], S)) n' (x := (0, [], S)) (fun i hi => ?_) ?_).trans ?_
  · have hlt : (i : Int) < n' := by omega
    have hw : IntKind.wrap .i64 ((i : Int) + 1) = (i : Int) + 1 := wr _ (by omega)
    obtain ⟨v, hv⟩ := ha.ints ((cut a)[i]'(by omega)) (List.getElem_mem _)
    have hg : (cut a)[i]? = some (.int .i64 v) := by rw [List.getElem?_eq_getElem (by omega), hv]
    simp [hL, hlt, hI i hi, hI' i hi, ← he, hg, hw]
  · simp [hL]
  · simp [sel]
theorem equalVecs_c {B : CallF} (hB : Silent B) (k : Nat) {a b : AV} (ha : Row 1000 2 a) (hb : Row 1000 2 b) (he : cut a = cut b) (S : Heap) : Cn B (k + 1) f_spindlekit_EqualVecs 0 [a, b] S = some (.bool true, S) := by
  rw [c_spindlekit_EqualVecs _ _ _ _ _ (hB _ _ _ _ (by decide)), T_spindlekit_EqualVecs]
  obtain ⟨n, hn, hl, hL, hI⟩ := len26 ha (by omega)
  obtain ⟨n', hn', hl', hL', hI'⟩ := len26 hb (by omega)
  have : n' = n := by rw [← he] at hl'; omega
  subst this
  simp only [hL, hL', bO_s, asInt_i, bne_self_eq_false, Bool.false_eq_true, if_false]
  refine (loop_ind (fun i => ([a, b, .int .i64 (i : Int)], S)) n' (x := (0, [], S)) (fun i hi => ?_) ?_).trans ?_
  · have hlt : (i : Int) < n' := by omega
    have hw : IntKind.wrap .i64 ((i : Int) + 1) = (i : Int) + 1 := wr _ (by omega)
    obtain ⟨v, hv⟩ := ha.ints ((cut a)[i * 2]'(by omega)) (List.getElem_mem _)
    obtain ⟨u, hu⟩ := ha.ints ((cut a)[i * 2 + 1]'(by omega)) (List.getElem_mem _)
    have hg : List.take 2 ((cut a).drop (i * 2)) = [.int .i64 v, .int .i64 u] := by
      rw [List.drop_eq_getElem_cons (by omega), List.drop_eq_getElem_cons (by omega), hv, hu]
      rfl
    have hlen : 2 ≤ (cut a).length - i * 2 := by omega
    simp [hL, hlt, hI i hi, hI' i hi, ← he, hg, hw, neq92, hlen]
  · simp [hL]
  · simp [sel]
theorem equalBlocks_c {B : CallF} (hB : Silent B) (k : Nat) {a b : AV} (ha : Rows 1000 a) (hb : Rows 1000 b) (he : (cut a).map cut = (cut b).map cut) (S : Heap) : Cn B (k + 2) f_spindlekit_EqualBlocks 0 [a, b] S = some (.bool true, S) := by
  rw [c_spindlekit_EqualBlocks _ _ _ _ _ (hB _ _ _ _ (by decide)), T_spindlekit_EqualBlocks]
  obtain ⟨n, hn, hl, hL, hI⟩ := len27 ha
  obtain ⟨n', hn', hl', hL', hI'⟩ := len27 hb
  have hnn : n' = n := by have := congrArg List.length he; simp at this; omega
  subst hnn
  simp only [hL, hL', bO_s, asInt_i, bne_self_eq_false, Bool.false_eq_true, if_false]
  refine (loop_ind (fun i => ([a, b, .int .i64 (i : Int)], S)) n' (x := (0, [], S)) (fun i hi => ?_) ?_).trans ?_
  · have hlt : (i : Int) < n' := by omega
    have hw : IntKind.wrap .i64 ((i : Int) + 1) = (i : Int) + 1 := wr _ (by omega)
    have h1 : i < (cut a).length := by omega
    have h2 : i < (cut b).length := by omega
    have hg : (cut a)[i]? = some (cut a)[i] := List.getElem?_eq_getElem h1
    have hg' : (cut b)[i]? = some (cut b)[i] := List.getElem?_eq_getElem h2
    have hc : cut ((cut a)[i]) = cut ((cut b)[i]) := by
      have := congrArg (fun l => l[i]?) he
      simp [hg, hg'] at this
      exact this
    have hq := equalInts_c hB k (ha.mem _ (List.getElem_mem h1)) (hb.mem _ (List.getElem_mem h2)) hc S
    simp [hL, hlt, hI i hi, hI' i hi, hg, hg', hw, hq]
  · simp [hL]
  · simp [sel]

/-- A macroblock. -/
structure M where
  pre : List Int
  r : AV
  v : AV
  cb : Int
  qp : Int
  b : AV
  s : ByteArray
def M.cells (m : M) : List AV := m.pre.map (AV.int .u8) ++ [m.r, m.v, .int .u8 m.cb, .int .i64 m.qp, m.b, .str m.s]
structure Good (N : Nat) (m : M) : Prop where
  pre : m.pre.length = 23
  r : Row N 1 m.r
  v : Row N 2 m.v
  b : Rows N m.b
def M.norm (m : M) : M := { m with r := nrm m.r, v := nrm m.v, b := nrmB m.b }
structure Sim (m m' : M) : Prop where
  pre : m.pre = m'.pre
  r : cut m.r = cut m'.r
  v : cut m.v = cut m'.v
  b : (cut m.b).map cut = (cut m'.b).map cut
  cb : m.cb = m'.cb
  qp : m.qp = m'.qp
  s : m.s = m'.s
theorem Sim.refl (m : M) : Sim m m := ⟨rfl, rfl, rfl, rfl, rfl, rfl, rfl⟩
theorem Sim.symm {m m' : M} (h : Sim m m') : Sim m' m := ⟨h.pre.symm, h.r.symm, h.v.symm, h.b.symm, h.cb.symm, h.qp.symm, h.s.symm⟩
theorem Good.norm {N : Nat} {m : M} (h : Good N m) : Good N m.norm := ⟨h.pre, h.r.nrm, h.v.nrm, h.b.nrm⟩
theorem Good.sim {N : Nat} {m : M} (h : Good N m) : Sim m.norm m := ⟨rfl, cut_nrm h.r, cut_nrm h.v, cut_nrmB h.b, rfl, rfl, rfl⟩
theorem norm_norm (m : M) : m.norm.norm = m.norm := by simp [M.norm, nrm_nrm, nrmB_nrmB]
theorem Good.mono {N N' : Nat} {m : M} (h : Good N m) (hN : N ≤ N') : Good N' m := ⟨h.pre, h.r.mono hN, h.v.mono hN, h.b.mono hN⟩
section
variable {m : M} (hp : m.pre.length = 23)
include hp
theorem M.len : m.cells.length = 29 := by simp [M.cells, hp]
theorem M.g23 : m.cells[23]? = some m.r := by simp [M.cells, List.getElem?_append, hp]
theorem M.g24 : m.cells[24]? = some m.v := by simp [M.cells, List.getElem?_append, hp]
theorem M.g25 : m.cells[25]? = some (.int .u8 m.cb) := by simp [M.cells, List.getElem?_append, hp]
theorem M.g26 : m.cells[26]? = some (.int .i64 m.qp) := by simp [M.cells, List.getElem?_append, hp]
theorem M.g27 : m.cells[27]? = some m.b := by simp [M.cells, List.getElem?_append, hp]
theorem M.g28 : m.cells[28]? = some (.str m.s) := by simp [M.cells, List.getElem?_append, hp]
theorem M.s23 (x : AV) : setCells m.cells 23 [x] = ({ m with r := x } : M).cells := by simp [M.cells, setCells, List.set_append, hp]
theorem M.s24 (x : AV) : setCells m.cells 24 [x] = ({ m with v := x } : M).cells := by simp [M.cells, setCells, List.set_append, hp]
theorem M.s27 (x : AV) : setCells m.cells 27 [x] = ({ m with b := x } : M).cells := by simp [M.cells, setCells, List.set_append, hp]
theorem M.t29 : List.take 29 m.cells = m.cells := List.take_of_length_le (by rw [M.len hp]; omega)
end
theorem setCells_append : ∀ (new pre old post : List AV), old.length = new.length → setCells (pre ++ old ++ post) pre.length new = pre ++ new ++ post
  | [], pre, old, post, h => by
    have : old = [] := List.length_eq_zero_iff.1 h
    subst this; rfl
  | v :: new, pre, o :: old, post, h => by
    simp only [setCells]
    have : (pre ++ o :: old ++ post).set pre.length v = pre ++ [v] ++ old ++ post := by simp [List.set_append]
    rw [this]
    have := setCells_append new (pre ++ [v]) old post (by simpa using h)
    simpa using this
  | _ :: _, _, [], _, h => by simp at h
theorem setCells_all {l new : List AV} (h : l.length = new.length) : setCells l 0 new = new := by simpa using setCells_append new [] l [] h
theorem M.z {m : M} (hp : m.pre.length = 23) : setCells [.int .u8 0, .int .u8 0, .int .u8 0, .int .u8 0, .int .u8 0, .int .u8 0, .int .u8 0, .int .u8 0, .int .u8 0, .int .u8 0, .int .u8 0, .int .u8 0, .int .u8 0, .int .u8 0, .int .u8 0, .int .u8 0, .int .u8 0, .int .u8 0, .int .u8 0, .int .u8 0, .int .u8 0, .int .u8 0, .int .u8 0, .nils, .nils, .int .u8 0, .int .i64 0, .nils, .str ByteArray.empty] 0 m.cells = m.cells := setCells_all (M.len hp).symm
theorem Good.cell {N : Nat} {m : M} (h : Good N m) : m.cells.all cell = true := by
  refine List.all_eq_true.2 fun c hc => ?_
  simp only [M.cells, List.mem_append, List.mem_map, List.mem_cons, List.not_mem_nil, or_false] at hc
  rcases hc with ⟨i, _, rfl⟩ | rfl | rfl | rfl | rfl | rfl | rfl
  · rfl
  · exact h.r.cell
  · exact h.v.cell
  · rfl
  · rfl
  · exact h.b.cell
  · rfl
theorem Good.plain {N : Nat} {m : M} (h : Good N m) : m.cells.all plain1 = true := by
  refine List.all_eq_true.2 fun c hc => ?_
  simp only [M.cells, List.mem_append, List.mem_map, List.mem_cons, List.not_mem_nil, or_false] at hc
  rcases hc with ⟨i, _, rfl⟩ | rfl | rfl | rfl | rfl | rfl | rfl
  · rfl
  · exact h.r.plain
  · exact h.v.plain
  · rfl
  · rfl
  · exact h.b.plain
  · rfl
theorem Good.noId {N : Nat} {m : M} (h : Good N m) : noIdL m.cells = true := by
  refine noIdL_all fun c hc => ?_
  simp only [M.cells, List.mem_append, List.mem_map, List.mem_cons, List.not_mem_nil, or_false] at hc
  rcases hc with ⟨i, _, rfl⟩ | rfl | rfl | rfl | rfl | rfl | rfl
  · rfl
  · exact h.r.noId
  · exact h.v.noId
  · rfl
  · rfl
  · exact h.b.noId
  · rfl
theorem strEq_self (s : ByteArray) : strEq s s = true := by simp [strEq]
theorem equalMb_c {B : CallF} (hB : Silent B) (k : Nat) {m m' : M} (h : Good 1000 m) (h' : Good 1000 m') (hs : Sim m m') (S : Heap) : Cn B (k + 3) f_spindlekit_EqualMb 0 [.agg m.cells, .agg m'.cells] S = some (.bool true, S) := by
  rw [c_spindlekit_EqualMb _ _ _ _ _ (hB _ _ _ _ (by decide)), T_spindlekit_EqualMb]
  have e1 := equalInts_c hB (k + 1) h.r h'.r hs.r S
  have e2 := equalVecs_c hB (k + 1) h.v h'.v hs.v S
  have e3 := equalBlocks_c hB k h.b h'.b hs.b S
  have hp := h.pre
  have hp' := h'.pre
  simp only [asAgg_a, M.len hp, M.len hp', M.g23 hp, M.g23 hp', M.g24 hp, M.g24 hp', M.g25 hp, M.g25 hp', M.g26 hp, M.g26 hp', M.g27 hp, M.g27 hp', M.g28 hp, M.g28 hp', ← hs.cb, ← hs.qp, ← hs.s, bO_s, e1, e2, e3, asInt_i, asBool_b, asStr_s, strEq_self]
  have hpp := hs.pre
  obtain ⟨pre, r, v, cb, qp, b, s⟩ := m
  obtain ⟨pre', r', v', cb', qp', b', s'⟩ := m'
  simp only at hpp hp
  subst hpp
  match pre, hp with
  | a :: b1 :: c :: rest, hp =>
    simp only [List.length_cons] at hp
    have t1 : List.take 16 (List.drop 3 (List.map (AV.int .u8) (a :: b1 :: c :: rest) ++ [r, v, .int .u8 cb, .int .i64 qp, b, .str s])) = (rest.take 16).map (AV.int .u8) := by
      simp only [List.map_cons, List.cons_append, List.drop_succ_cons, List.drop_zero]
      rw [List.take_append_of_le_length (by simp; omega), List.map_take]
    have t2 : List.take 4 (List.drop 19 (List.map (AV.int .u8) (a :: b1 :: c :: rest) ++ [r, v, .int .u8 cb, .int .i64 qp, b, .str s])) = (rest.drop 16).map (AV.int .u8) := by
      simp only [List.map_cons, List.cons_append, List.drop_succ_cons]
      rw [List.drop_append_of_le_length (by simp; omega), List.take_append_of_le_length (by simp; omega), List.take_of_length_le (by simp; omega), List.map_drop]
    have t1' : List.take 16 (List.drop 3 (List.map (AV.int .u8) (a :: b1 :: c :: rest) ++ [r', v', .int .u8 cb', .int .i64 qp', b', .str s'])) = (rest.take 16).map (AV.int .u8) := by
      simp only [List.map_cons, List.cons_append, List.drop_succ_cons, List.drop_zero]
      rw [List.take_append_of_le_length (by simp; omega), List.map_take]
    have t2' : List.take 4 (List.drop 19 (List.map (AV.int .u8) (a :: b1 :: c :: rest) ++ [r', v', .int .u8 cb', .int .i64 qp', b', .str s'])) = (rest.drop 16).map (AV.int .u8) := by
      simp only [List.map_cons, List.cons_append, List.drop_succ_cons]
      rw [List.drop_append_of_le_length (by simp; omega), List.take_append_of_le_length (by simp; omega), List.take_of_length_le (by simp; omega), List.map_drop]
    have q1 := eql23 (rest.take 16) (rest.take 16) (by simp; omega) (by simp; omega)
    have q2 := eql24 (rest.drop 16) (rest.drop 16) (by simp; omega) (by simp; omega)
    simp only [M.cells] at *
    simp only [t1, t2, t1', t2', q1, q2]
    simp only [List.map_cons, List.cons_append, List.getElem?_cons_zero, List.getElem?_cons_succ, bO_s, asInt_i, beq_self_eq_true, if_true, gB_t, asBool_b, tr_same]
    rfl
end Go.Ab.tNearU

set_option maxRecDepth 100000
set_option linter.unusedSimpArgs false
set_option linter.unusedVariables false
set_option linter.unusedSectionVars false
namespace Go.Ab.tNearU
open Go Go.Proofs

theorem fzM_one {d : Nat} {l1 l2 : List AV} {x y : AV} {S S' : Heap} (h1 : l1.all plain1 = true) (h2 : l2.all plain1 = true) (h : fz (d + 1) x S = some (y, S')) : fzM (fz (d + 1)) (l1 ++ x :: l2) S = some (l1 ++ y :: l2, S') := by
  rw [fzM_app h1]
  simp only [fzM, h, fzM_plain h2]
theorem nrmB_cut {N n : Nat} {a : AV} (h : Rows N a) (hl : (cut a).length = n) (h0 : n ≠ 0) : nrmB a = .is n ((cut a).map nrm) := by
  obtain rfl | ⟨n', cs, rfl, h1, h2, h3⟩ := h
  · simp [cut] at hl; omega
  · simp only [cut] at hl ⊢
    have : n' = n := by omega
    subst this
    cases n' with
    | zero => exact absurd rfl h0
    | succ n => rfl
theorem nrmB_cut0 {N : Nat} {a : AV} (h : Rows N a) (hl : (cut a).length = 0) : nrmB a = .nils := by
  obtain rfl | ⟨n', cs, rfl, h1, h2, h3⟩ := h
  · rfl
  · simp only [cut] at hl
    have : n' = 0 := by omega
    subst this; rfl
theorem copyBlocks_c {B : CallF} (hB : Silent B) (k : Nat) {a : AV} (h : Rows 1000 a) (S : Heap) : Cn B (k + 2) f_spindlekit_CopyBlocks 0 [a] S = some (nrmB a, S) := by
  rw [c_spindlekit_CopyBlocks _ _ _ _ (hB _ _ _ _ (by decide)), T_spindlekit_CopyBlocks]
  obtain ⟨n, hn, hl, hL, hI⟩ := len27 h
  refine loop_to (fun i s => ∃ x T, s = ([a, x, .int .i64 (i : Int)], T) ∧ Ext S T ∧ ((i = 0 ∧ x = .nils) ∨ (i ≠ 0 ∧ ∃ id, x = .hs id 0 i 1 ∧ S.next ≤ id ∧ T.blk id = some (((cut a).take i).map nrm))))
    (fun y => ∃ x T, y = (0, [x], T) ∧ Ext S T ∧ ((n = 0 ∧ x = .nils) ∨ (n ≠ 0 ∧ ∃ id, x = .hs id 0 n 1 ∧ S.next ≤ id ∧ T.blk id = some (((cut a).take n).map nrm)))) n ⟨.nils, S, rfl, Ext.refl S, .inl ⟨rfl, rfl⟩⟩ ?_ ?_
  rotate_left
  · rintro y ⟨x, T, rfl, hT, ⟨h0, rfl⟩ | ⟨h0, id, rfl, h1, h2⟩⟩
    · simp only [sel, nthA_0, fz40_nils, bO_s]
      rw [tr_S rfl hT, nrmB_cut0 h (by omega)]
    · simp only [sel, nthA_0]
      rw [List.take_of_length_le (by omega)] at h2
      have hp : ((cut a).map nrm).all plain1 = true := List.all_eq_true.2 fun c hc => by
        obtain ⟨d, hd, rfl⟩ := List.mem_map.1 hc
        exact (h.mem d hd).nrm.plain
      rw [show (40 : Nat) = 38 + 1 + 1 from rfl, fz_hs h2 (by simp; omega) hp]
      simp only [bO_s]
      have hq := nrmB_cut h hl h0
      rw [← hq, tr_S h.nrm.noId (hT.set h1 none)]
  · rintro i s hi ⟨x, T, rfl, hT, hx⟩
    by_cases hin : i < n
    · refine .inr ⟨hin, ?_⟩
      have hlt : (i : Int) < n := by omega
      have hw : IntKind.wrap .i64 ((i : Int) + 1) = (i : Int) + 1 := wr _ (by omega)
      have h1 : i < (cut a).length := by omega
      have hg : (cut a)[i]? = some (cut a)[i] := List.getElem?_eq_getElem h1
      have hm := h.mem _ (List.getElem_mem h1)
      have hq := copyInts_c hB k hm T
      have htk : (((cut a).take (i + 1)).map nrm) = (((cut a).take i).map nrm) ++ [nrm (cut a)[i]] := by
        rw [List.take_add_one, hg, Option.toList_some, List.map_append]; rfl
      simp only [nthA_0, nthA_s, asInt_i, hL, bO_s, hlt, decide_true, if_true, hI i hin, seeV_i, List.getElem?_drop, Nat.add_zero, hg, hq, hm.nrm.cell, gB_t, hw]
      rcases hx with ⟨rfl, rfl⟩ | ⟨h0, id, rfl, h3, h4⟩
      · rw [app_nil (n := 1) (by omega) rfl (room (by omega) (by omega)) (room1 (by omega))]
        simp only [bO_s]
        exact ⟨_, rfl, _, _, rfl, hT.trans (Ext.alloc T _), .inr ⟨by omega, T.next, rfl, hT.1, by rw [alloc_blk, htk]; rfl⟩⟩
      · rw [app_hs (n := 1) h4 (by simp; omega) rfl (by omega) (room (by omega) (by omega)) (room1 (by omega)) (by simp [hm.nrm.cell])]
        simp only [bO_s]
        refine ⟨_, rfl, _, _, rfl, (hT.set h3 none).trans (Ext.alloc (T.set id none) _), .inr ⟨by omega, T.next, rfl, hT.1, ?_⟩⟩
        rw [show T.next = (T.set id none).next from rfl, alloc_blk, htk]
    · refine .inl ⟨(0, [x], T), ?_, x, T, rfl, hT, ?_⟩
      · have hlt : ¬ ((i : Int) < n) := by omega
        simp [hL, hlt]
      · have : i = n := by omega
        subst this; exact hx
theorem copyMb_c {B : CallF} (hB : Silent B) (k : Nat) {m : M} (h : Good 1000 m) (S : Heap) : Cn B (k + 3) f_spindlekit_CopyMb 0 [.agg m.cells] S = some (.agg m.norm.cells, S) := by
  rw [c_spindlekit_CopyMb _ _ _ _ (hB _ _ _ _ (by decide)), T_spindlekit_CopyMb]
  have hp := h.pre
  have e1 := copyInts_c hB (k + 1) h.r S
  have h24 : ∀ r x, setCells ({ m with r := r } : M).cells 24 [x] = ({ m with r := r, v := x } : M).cells := fun r x => M.s24 (m := { m with r := r }) hp x
  have h27 : ∀ r v x, setCells ({ m with r := r, v := v } : M).cells 27 [x] = ({ m with r := r, v := v, b := x } : M).cells := fun r v x => M.s27 (m := { m with r := r, v := v }) hp x
  have hl1 : ∀ r, ({ m with r := r } : M).cells.length = 29 := fun r => M.len (m := { m with r := r }) hp
  have hl2 : ∀ r v, ({ m with r := r, v := v } : M).cells.length = 29 := fun r v => M.len (m := { m with r := r, v := v }) hp
  have hl3 : ∀ r v b, ({ m with r := r, v := v, b := b } : M).cells.length = 29 := fun r v b => M.len (m := { m with r := r, v := v, b := b }) hp
  have ht3 : ∀ r v b, List.take 29 ({ m with r := r, v := v, b := b } : M).cells = ({ m with r := r, v := v, b := b } : M).cells := fun r v b => M.t29 (m := { m with r := r, v := v, b := b }) hp
  have hz3 : ∀ r v b, _ := fun r v b => M.z (m := { m with r := r, v := v, b := b }) hp
  have e3 : ∀ T, _ := fun T => copyBlocks_c hB k h.b T
  have hcr := h.r.nrm.cell
  have hcb := h.b.nrm.cell
  -- the copy of the pairs
  have e2 : ∃ x T, aAppend 2 16 .nils m.v S = some (x, T) ∧ Ext S T ∧ cell x = true ∧ ∃ T', fz 39 x T = some (nrm m.v, T') ∧ Ext S T' := by
    obtain hv | ⟨n, cs, hv, h1, h2, h3⟩ := h.v
    · rw [hv]; exact ⟨.nils, S, app_nilnil, Ext.refl S, rfl, S, rfl, Ext.refl S⟩
    · rw [hv]
      by_cases h0 : n = 0
      · subst h0
        exact ⟨.nils, S, app_nil0 h2, Ext.refl S, rfl, S, rfl, Ext.refl S⟩
      · refine ⟨_, _, app_nil h0 h2 (room h1 (by omega)) (room1 h1), Ext.alloc S cs, rfl, _, ?_, (Ext.alloc S cs).set (Nat.le_refl _) none⟩
        rw [show (39 : Nat) = 37 + 1 + 1 from rfl, frozen_new h2 (ints_plain h3)]
        cases n with
        | zero => exact absurd rfl h0
        | succ n => rfl
  obtain ⟨x, T, e2, hT, hcx, T', hfz, hT'⟩ := e2
  simp only [asAgg_a, M.len hp, beq_self_eq_true, gB_t, M.g23 hp, M.g24 hp, M.g27 hp, bO_s, same_nil, e1, e2, e3, hcr, hcb, hcx, M.s23 hp, h24, h27, hl1, hl2, hl3, ht3, hz3, List.drop_zero, Nat.zero_add, Nat.le_refl, decide_true, List.all_cons, List.all_nil, Bool.and_true, show decide (24 ≤ 29) = true from rfl, show decide (25 ≤ 29) = true from rfl, show decide (28 ≤ 29) = true from rfl]
  have hall : ({ m with r := nrm m.r, v := x, b := nrmB m.b } : M).cells.all cell = true := by
    refine List.all_eq_true.2 fun c hc => ?_
    simp only [M.cells, List.mem_append, List.mem_map, List.mem_cons, List.not_mem_nil, or_false] at hc
    rcases hc with ⟨i, _, rfl⟩ | rfl | rfl | rfl | rfl | rfl | rfl
    · rfl
    · exact hcr
    · exact hcx
    · rfl
    · rfl
    · exact hcb
    · rfl
  rw [hall]
  have hf : fz 40 (.agg ({ m with r := nrm m.r, v := x, b := nrmB m.b } : M).cells) T = some (.agg m.norm.cells, T') := by
    rw [show (40 : Nat) = 39 + 1 from rfl, fz]
    have := fzM_one (d := 38) (l1 := m.pre.map (AV.int .u8) ++ [nrm m.r]) (l2 := [.int .u8 m.cb, .int .i64 m.qp, nrmB m.b, .str m.s]) (x := x) (y := nrm m.v) (S := T) (S' := T') (by simp [h.r.nrm.plain, plain1]; exact h.r.nrm.plain) (by simp [plain1]; exact h.b.nrm.plain) hfz
    simp only [List.append_assoc, List.singleton_append] at this
    simp only [M.cells, M.norm]
    rw [this]
  simp only [gB_t, hf, bO_s]
  rw [tr_S]
  · simp only [Go.Ab.noId, h.norm.noId]
  · exact hT'
theorem clone3nil_c {B : CallF} (hB : Silent B) (k : Nat) (S : Heap) : Cn B (k + 1) f_slices_Clone_int_int_v2 0 [.nils] S = some (.nils, S) := by
  rw [c_slices_Clone_int_int_v2 _ _ _ _ (hB _ _ _ _ (by decide)), T_slices_Clone_int_int_v2, eql27 (N := 0) _ (.inl rfl)]
  simp
theorem mbCopy_c {B : CallF} (hB : Silent B) (k : Nat) {m : M} (h : Good 1000 m) (S : Heap) : Cn B (k + 2) f_mb_Copy 0 [.agg m.cells] S = some (.agg m.cells, S) := by
  rw [c_mb_Copy _ _ _ _ (hB _ _ _ _ (by decide)), T_mb_Copy]
  have hp := h.pre
  have e1 := clone1_c hB k h.r S
  have e2 := clone2_c hB k h.v S
  have hcr := h.r.cell
  have hcv := h.v.cell
  have h23 : setCells m.cells 23 [m.r] = m.cells := M.s23 hp m.r
  have h24 : setCells m.cells 24 [m.v] = m.cells := M.s24 hp m.v
  obtain hb | ⟨n, cs, hb, h1, h2, h3⟩ := h.b
  · have e3 := clone3nil_c hB k S
    have h27 : setCells m.cells 27 [.nils] = m.cells := by have := M.s27 hp m.b; rw [← hb]; exact this
    have g27 : m.cells[27]? = some .nils := by rw [M.g27 hp, hb]
    have hL : aLen Try.prog 27 .nils = some (.int .i64 0) := by kernel_rfl
    simp only [asAgg_a, M.len hp, beq_self_eq_true, gB_t, M.g23 hp, M.g24 hp, g27, bO_s, same_nil, e1, e2, e3, hcr, hcv, show cell .nils = true from rfl, h23, h24, h27, Nat.le_refl, decide_true, List.all_cons, List.all_nil, Bool.and_true, show decide (24 ≤ 29) = true from rfl, show decide (25 ≤ 29) = true from rfl, show decide (28 ≤ 29) = true from rfl, hL, asInt_i]
    rw [bloop]
    simp only [nthA_0, nthA_s, asInt_i, aggCells_a, sel, List.drop_zero, M.t29 hp, M.len hp, h.cell, M.z hp, gB_t, beq_self_eq_true, Nat.zero_add, Nat.le_refl, decide_true, fz40_agg h.plain, bO_s, List.length_cons, List.length_nil, show decide ((0 : Int) < 0) = false from rfl, Bool.false_eq_true, if_false]
    simp
  · have hb' : Rows 1000 (.is n cs) := hb ▸ h.b
    obtain ⟨id, S1, e3, i1, i2, i3, i4⟩ := clone3_c hB k hb' S
    have g27 : m.cells[27]? = some (.is n cs) := by rw [M.g27 hp, hb]
    have h27 := M.s27 hp (.hs id 0 n 1)
    have hL : aLen Try.prog 27 (.hs id 0 n 1) = some (.int .i64 n) := by kernel_rfl
    have g27' : ({ m with b := .hs id 0 n 1 } : M).cells[27]? = some (.hs id 0 n 1) := M.g27 (m := { m with b := .hs id 0 n 1 }) hp
    simp only [asAgg_a, M.len hp, beq_self_eq_true, gB_t, M.g23 hp, M.g24 hp, g27, bO_s, same_nil, e1, e2, e3, hcr, hcv, show cell (.hs id 0 n 1) = true from rfl, h23, h24, h27, Nat.le_refl, decide_true, List.all_cons, List.all_nil, Bool.and_true, show decide (24 ≤ 29) = true from rfl, show decide (25 ≤ 29) = true from rfl, show decide (28 ≤ 29) = true from rfl, g27', hL, asInt_i]
    generalize hZ : AV.agg [.int .u8 0, .int .u8 0, .int .u8 0, .int .u8 0, .int .u8 0, .int .u8 0, .int .u8 0, .int .u8 0, .int .u8 0, .int .u8 0, .int .u8 0, .int .u8 0, .int .u8 0, .int .u8 0, .int .u8 0, .int .u8 0, .int .u8 0, .int .u8 0, .int .u8 0, .int .u8 0, .int .u8 0, .int .u8 0, .int .u8 0, .nils, .nils, .int .u8 0, .int .i64 0, .nils, .str ByteArray.empty] = Z
    have hZ' : AV.agg (aggCells Z) = Z := by subst hZ; rfl
    refine loop_to (fun i s => ∃ T, s = ([.agg ({ m with b := .hs id 0 n 1 } : M).cells, Z, .int .i64 n, .int .i64 (i : Int)], T) ∧ Ext S T ∧ T.blk id = some cs)
      (fun y => ∃ T, y = (0, [.agg ({ m with b := .hs id 0 n 1 } : M).cells, Z], T) ∧ Ext S T ∧ T.blk id = some cs) n ⟨S1, rfl, i4, i3⟩ ?_ ?_
    rotate_left
    · rintro y ⟨T, rfl, hT, hTb⟩
      subst hZ
      have hl : ({ m with b := .hs id 0 n 1 } : M).cells.length = 29 := M.len (m := { m with b := .hs id 0 n 1 }) hp
      have hall : ({ m with b := .hs id 0 n 1 } : M).cells.all cell = true := by
        refine List.all_eq_true.2 fun c hc => ?_
        simp only [M.cells, List.mem_append, List.mem_map, List.mem_cons, List.not_mem_nil, or_false] at hc
        rcases hc with ⟨i, _, rfl⟩ | rfl | rfl | rfl | rfl | rfl | rfl
        · rfl
        · exact hcr
        · exact hcv
        · rfl
        · rfl
        · rfl
        · rfl
      have hpl : cs.all plain1 = true := List.all_eq_true.2 fun c hc => (h3 c hc).plain
      have hf : fz 40 (.agg ({ m with b := .hs id 0 n 1 } : M).cells) T = some (.agg m.cells, T.set id none) := by
        rw [show (40 : Nat) = 39 + 1 from rfl, fz]
        have := fzM_one (d := 38) (l1 := m.pre.map (AV.int .u8) ++ [m.r, m.v, .int .u8 m.cb, .int .i64 m.qp]) (l2 := [.str m.s]) (x := .hs id 0 n 1) (y := .is n cs) (S := T) (S' := T.set id none) (by simp [plain1]; exact ⟨h.r.plain, h.v.plain⟩) rfl (by rw [show (38 : Nat) + 1 = 37 + 1 + 1 from rfl]; exact fz_hs hTb (by omega) hpl)
        simp only [List.append_assoc, List.cons_append, List.nil_append] at this
        simp only [M.cells, hb]
        rw [this]
      simp only [nthA_0, nthA_s, aggCells_a, sel, List.drop_zero, M.t29 (m := { m with b := .hs id 0 n 1 }) hp, hl, hall, M.z (m := { m with b := .hs id 0 n 1 }) hp, gB_t, beq_self_eq_true, Nat.zero_add, Nat.le_refl, decide_true, hf, bO_s, List.length_cons, List.length_nil]
      rw [tr_S]
      · simp only [Go.Ab.noId, h.noId]
      · exact hT.set i1 none
    · rintro i s hi ⟨T, rfl, hT, hTb⟩
      by_cases hin : i < n
      · refine .inr ⟨hin, ?_⟩
        have hlt : (i : Int) < n := by omega
        have hw : IntKind.wrap .i64 ((i : Int) + 1) = (i : Int) + 1 := wr _ (by omega)
        have hg : cs[i]? = some cs[i] := List.getElem?_eq_getElem (by omega)
        have hm := h3 cs[i] (List.getElem_mem _)
        have hq := clone1_c hB k hm T
        have hix : aIdx 1 (.hs id 0 n 1) (i : Int) = some (.ptr id i) := by simp [aIdx, hin]
        have hput : putV (.ptr id i) [cs[i]] T = some (T.set id (some cs)) := by
          simp only [putV, hTb, List.length_cons, List.length_nil, setCells, List.set_getElem_self]
          rw [if_pos (by omega)]
        have hcc := hm.cell
        simp only [nthA_0, nthA_s, asInt_i, bO_s, hlt, decide_true, if_true, aggCells_a, g27', gB_t, same_nil, hix, seeV_p, hTb, hg, hq, hcc, List.all_cons, List.all_nil, Bool.and_true, hput, hw, hZ']
        exact ⟨_, rfl, T.set id (some cs), rfl, hT.set i1 _, by simp⟩
      · have : i = n := by omega
        subst this
        refine .inl ⟨_, ?_, T, rfl, hT, hTb⟩
        simp [hZ']
end Go.Ab.tNearU

set_option maxRecDepth 100000
set_option linter.unusedSimpArgs false
set_option linter.unusedVariables false
set_option linter.unusedSectionVars false
namespace Go.Ab.tNearU
open Go Go.Proofs

def zM : M := ⟨[0, 0, 0, 0, 0, 0, 0, 0, 0, 0, 0, 0, 0, 0, 0, 0, 0, 0, 0, 0, 0, 0, 0], .nils, .nils, 0, 0, .nils, ByteArray.empty⟩
theorem zM_cells : zM.cells = [.int .u8 0, .int .u8 0, .int .u8 0, .int .u8 0, .int .u8 0, .int .u8 0, .int .u8 0, .int .u8 0, .int .u8 0, .int .u8 0, .int .u8 0, .int .u8 0, .int .u8 0, .int .u8 0, .int .u8 0, .int .u8 0, .int .u8 0, .int .u8 0, .int .u8 0, .int .u8 0, .int .u8 0, .int .u8 0, .int .u8 0, .nils, .nils, .int .u8 0, .int .i64 0, .nils, .str ByteArray.empty] := (rfl)
theorem M.z0 {m : M} (hp : m.pre.length = 23) : setCells zM.cells 0 m.cells = m.cells := M.z hp
theorem zM_good : Good 1000 zM := ⟨rfl, .inl rfl, .inl rfl, .inl rfl⟩
theorem zM_norm : zM.norm = zM := rfl
theorem room2 {n b : Nat} (h : n ≤ 10000) (hb : b ≤ 1000) : n * b ≤ mostRoom := by
  have : n * b ≤ 10000 * 1000 := Nat.mul_le_mul h hb
  unfold mostRoom; omega
theorem room3 {n : Nat} (h : n ≤ 10000) : n ≤ mostRoom := by unfold mostRoom; omega

-- lists of macroblocks
def flat (ms : List M) : List AV := ms.flatMap M.cells
def Pre (ms : List M) : Prop := ∀ m ∈ ms, m.pre.length = 23
theorem flat_len : ∀ {ms : List M}, Pre ms → (flat ms).length = ms.length * 29
  | [], _ => rfl
  | m :: ms, h => by
    have := flat_len (ms := ms) fun x hx => h x (by simp [hx])
    simp only [flat, List.flatMap_cons, List.length_append, M.len (h m (by simp)), List.length_cons] at this ⊢
    omega
theorem flat_app (a b : List M) : flat (a ++ b) = flat a ++ flat b := by simp [flat]
theorem flat_split {ms : List M} {i : Nat} (hi : i < ms.length) : flat ms = flat (ms.take i) ++ ms[i].cells ++ flat (ms.drop (i + 1)) := by
  have : ms = ms.take i ++ ms[i] :: ms.drop (i + 1) := by rw [← List.drop_eq_getElem_cons hi, List.take_append_drop]
  calc flat ms = flat (ms.take i ++ ms[i] :: ms.drop (i + 1)) := by rw [← this]
    _ = _ := by rw [flat_app]; simp only [flat, List.flatMap_cons, List.append_assoc]
theorem flat_at {ms : List M} (h : Pre ms) {i : Nat} (hi : i < ms.length) : List.take 29 (List.drop (i * 29) (flat ms)) = ms[i].cells := by
  have hl : (flat (ms.take i)).length = i * 29 := by
    rw [flat_len fun x hx => h x (List.mem_of_mem_take hx), List.length_take]
    rw [Nat.min_eq_left (by omega)]
  have hm := M.len (h _ (List.getElem_mem hi))
  rw [flat_split hi, ← hl, List.append_assoc, List.drop_append_of_le_length (Nat.le_refl _), List.drop_length, List.nil_append, ← hm, List.take_append_of_le_length (Nat.le_refl _), List.take_length]
theorem flat_set {ms : List M} (h : Pre ms) {i : Nat} (hi : i < ms.length) (m : M) (hm : m.pre.length = 23) : setCells (flat ms) (i * 29) m.cells = flat (ms.set i m) := by
  have hl : (flat (ms.take i)).length = i * 29 := by
    rw [flat_len fun x hx => h x (List.mem_of_mem_take hx), List.length_take]
    rw [Nat.min_eq_left (by omega)]
  have h1 := M.len (h _ (List.getElem_mem hi))
  rw [flat_split hi, ← hl, setCells_append _ _ _ _ (by rw [h1, M.len hm]), List.set_eq_take_append_cons_drop, if_pos hi]
  simp [flat]
theorem flat_same {ms : List M} (h : Pre ms) {i : Nat} (hi : i < ms.length) : setCells (flat ms) (i * 29) ms[i].cells = flat ms := by
  rw [flat_set h hi _ (h _ (List.getElem_mem hi)), List.set_getElem_self]
theorem flat_all {p : AV → Bool} {ms : List M} (h : ∀ m ∈ ms, m.cells.all p = true) : (flat ms).all p = true := by
  simp only [flat, List.all_flatMap, List.all_eq_true]
  exact fun m hm => List.all_eq_true.1 (h m hm)
theorem Pre.of {ms : List M} {N : Nat} (h : ∀ m ∈ ms, Good N m) : Pre ms := fun m hm => (h m hm).pre

/-- A list of macroblocks that can be read. -/
def Rd (S : Heap) (a : AV) (ms : List M) : Prop := (a = .nils ∧ ms = []) ∨ a = .is ms.length (flat ms) ∨ ∃ q, a = .hs q 0 ms.length 29 ∧ S.blk q = some (flat ms) ∧ q < S.next
theorem Rd.ext {S T : Heap} {a : AV} {ms : List M} (h : Rd S a ms) (hT : Ext S T) : Rd T a ms := by
  obtain h | h | ⟨q, h1, h2, h3⟩ := h
  · exact .inl h
  · exact .inr (.inl h)
  · exact .inr (.inr ⟨q, h1, (hT.2.2 q h3).trans h2, by have := hT.1; omega⟩)
theorem Rd.len {S : Heap} {a : AV} {ms : List M} (h : Rd S a ms) : aLen Try.prog 22 a = some (.int .i64 ms.length) := by
  obtain ⟨rfl, rfl⟩ | rfl | ⟨q, rfl, h2, h3⟩ := h <;> kernel_rfl
theorem Rd.at {S : Heap} {a : AV} {ms : List M} (h : Rd S a ms) (hp : Pre ms) {i : Nat} (hi : i < ms.length) :
    ∃ t cs o, aIdx 29 a (i : Int) = some t ∧ seeV t S = some (cs, o) ∧ o + 29 ≤ cs.length ∧ List.take 29 (List.drop o cs) = ms[i].cells := by
  have hl := flat_len hp
  obtain ⟨rfl, rfl⟩ | rfl | ⟨q, rfl, h2, h3⟩ := h
  · simp at hi
  · exact ⟨.iptr ((flat ms).drop (i * 29)), (flat ms).drop (i * 29), 0, by simp [aIdx, hi], rfl, by rw [List.length_drop]; omega, by rw [List.drop_zero]; exact flat_at hp hi⟩
  · exact ⟨.ptr q (i * 29), flat ms, i * 29, by simp [aIdx, hi], by simp [h2], by omega, flat_at hp hi⟩
theorem equalMbs_c {B : CallF} (hB : Silent B) (k : Nat) {a b : AV} {ms ms' : List M} {S : Heap} (ha : Rd S a ms) (hb : Rd S b ms') (hg : ∀ m ∈ ms, Good 1000 m) (hg' : ∀ m ∈ ms', Good 1000 m) (hl : ms.length = ms'.length) (hm : ms.length ≤ 10000)
    (hs : ∀ i (h : i < ms.length) (h' : i < ms'.length), Sim ms[i] ms'[i]) : Cn B (k + 4) f_spindlekit_EqualMbs 0 [a, b] S = some (.bool true, S) := by
  rw [c_spindlekit_EqualMbs _ _ _ _ _ (hB _ _ _ _ (by decide)), T_spindlekit_EqualMbs]
  simp only [ha.len, hb.len, ← hl, bO_s, asInt_i, bne_self_eq_false, Bool.false_eq_true, if_false]
  refine (loop_ind (fun i => ([a, b, .int .i64 (i : Int)], S)) ms.length (x := (0, [], S)) (fun i hi => ?_) ?_).trans ?_
  · have hlt : (i : Int) < ms.length := by omega
    have hw : IntKind.wrap .i64 ((i : Int) + 1) = (i : Int) + 1 := wr _ (by omega)
    obtain ⟨t, cs, o, h1, h2, h3, h4⟩ := ha.at (Pre.of hg) hi
    obtain ⟨t', cs', o', h1', h2', h3', h4'⟩ := hb.at (Pre.of hg') (hl ▸ hi : i < ms'.length)
    have he := equalMb_c hB k (hg _ (List.getElem_mem hi)) (hg' _ (List.getElem_mem (hl ▸ hi))) (hs i hi (hl ▸ hi)) S
    simp only [nthA_0, nthA_s, asInt_i, ha.len, hlt, decide_true, if_true, bO_s, h1, h2, h3, h4, h1', h2', h3', h4', gB_t, same_nil, he, asBool_b, Bool.not_true, Bool.false_eq_true, if_false, hw]
    rfl
  · simp [ha.len]
  · simp [sel]

/-- A slice so far: at p, with its macroblocks at q. -/
structure Obj (S : Heap) (p q : Nat) (fi w : Int) (ms : List M) : Prop where
  blk : S.blk p = some [.int .i64 fi, .int .i64 w, if ms = [] then .nils else .hs q 0 ms.length 29]
  cells : ms ≠ [] → S.blk q = some (flat ms)
  ne : ms ≠ [] → q ≠ p
  lp : p < S.next
  lq : ms ≠ [] → q < S.next
  good : ∀ m ∈ ms, Good 1000 m ∧ m.norm = m
  hf : 0 ≤ fi ∧ fi < 8160
  hw : 1 ≤ w ∧ w ≤ 128
  hm : fi + ms.length ≤ 8160
theorem Obj.keep {S T : Heap} {p q : Nat} {fi w : Int} {ms : List M} (h : Obj S p q fi w ms) (hn : S.next ≤ T.next) (hp : T.blk p = S.blk p) (hq : ms ≠ [] → T.blk q = S.blk q) : Obj T p q fi w ms :=
  ⟨hp.trans h.blk, fun h0 => (hq h0).trans (h.cells h0), h.ne, by have := h.lp; omega, fun h0 => by have := h.lq h0; omega, h.good, h.hf, h.hw, h.hm⟩
theorem Obj.rd {S : Heap} {p q : Nat} {fi w : Int} {ms : List M} (h : Obj S p q fi w ms) : Rd S (if ms = [] then .nils else .hs q 0 ms.length 29) ms := by
  by_cases h0 : ms = []
  · rw [if_pos h0]; exact .inl ⟨rfl, h0⟩
  · rw [if_neg h0]; exact .inr (.inr ⟨q, rfl, h.cells h0, h.lq h0⟩)
/-- What is found at an address. -/
def fa (fi : Int) (ms : List M) (a : Int) : M × Bool := if h : fi ≤ a ∧ a < fi + ms.length then (ms[(a - fi).toNat]'(by omega), true) else (zM, false)
theorem fa_good {fi : Int} {ms : List M} (h : ∀ m ∈ ms, Good 1000 m ∧ m.norm = m) (a : Int) : Good 1000 (fa fi ms a).1 ∧ (fa fi ms a).1.norm = (fa fi ms a).1 := by
  unfold fa
  split
  · exact h _ (List.getElem_mem _)
  · exact ⟨zM_good, rfl⟩
def pair (x : M × Bool) : AV := .tup [.agg x.1.cells, .bool x.2]
@[simp] theorem eql_ptr (i o : Nat) : aBin Try.prog .eql 32 (.ptr i o) .nilp = some (.bool false) := by kernel_rfl
@[simp] theorem eql_ptr46 (i o : Nat) : aBin Try.prog .eql 46 (.ptr i o) .nilp = some (.bool false) := by kernel_rfl
@[simp] theorem eql_nilp : aBin Try.prog .eql 32 .nilp .nilp = some (.bool true) := by kernel_rfl
@[simp] theorem eql_nilp46 : aBin Try.prog .eql 46 .nilp .nilp = some (.bool true) := by kernel_rfl
section
variable {B : CallF} (hB : Silent B) (k : Nat) {S : Heap} {p q : Nat} {fi w : Int} {ms : List M} (h : Obj S p q fi w ms)
include hB h
theorem next_c : Cn B (k + 1) f_near_Near_Next 0 [.ptr p 0] S = some (.int .i64 (fi + ms.length), S) := by
  rw [c_near_Near_Next _ _ _ _ (hB _ _ _ _ (by decide)), T_near_Near_Next]
  have hw : IntKind.i64.wrap (fi + ms.length) = fi + ms.length := wr _ (by have := h.hf; have := h.hm; omega)
  have hl := h.rd.len
  simp only [eql_ptr, bO_s, asBool_b, Bool.false_eq_true, if_false, addV_p, seeV_p, h.blk, Nat.zero_add, List.getElem?_cons_zero, List.getElem?_cons_succ, asInt_i, gB_t, same_nil, hl, hw, tr_same]
theorem next14_c : Cn B (k + 1) f_spindleref14_Near_Next 0 [.ptr p 0] S = some (.int .i64 (fi + ms.length), S) := by
  rw [c_spindleref14_Near_Next _ _ _ _ (hB _ _ _ _ (by decide)), T_spindleref14_Near_Next]
  have hw : IntKind.i64.wrap (fi + ms.length) = fi + ms.length := wr _ (by have := h.hf; have := h.hm; omega)
  have hl := h.rd.len
  simp only [eql_ptr46, bO_s, asBool_b, Bool.false_eq_true, if_false, addV_p, seeV_p, h.blk, Nat.zero_add, List.getElem?_cons_zero, List.getElem?_cons_succ, asInt_i, gB_t, same_nil, hl, hw, tr_same]
theorem nat_c {a : Int} (ha : -200 ≤ a ∧ a ≤ 8200) : Cn B (k + 3) f_near_Near_at 0 [.ptr p 0, .int .i64 a] S = some (pair (fa fi ms a), S) := by
  rw [c_near_Near_at _ _ _ _ _ (hB _ _ _ _ (by decide)), T_near_Near_at]
  have hn := next_c hB (k + 1) h
  have hf := h.hf
  have hm := h.hm
  unfold fa
  by_cases h0 : a < fi
  · have h1 : ¬ (fi ≤ a ∧ a < fi + ms.length) := by omega
    simp only [dif_neg h1, asInt_i, eql_ptr, bO_s, asBool_b, Bool.false_eq_true, if_false, addV_p, seeV_p, h.blk, Nat.zero_add, List.getElem?_cons_zero, List.getElem?_cons_succ, h0, decide_true, if_true, nthA_0, nthA_s, aggCells_a, ← zM_cells, M.z0 (m := zM) rfl, M.len (m := zM) rfl, Nat.le_refl, gB_t, List.drop_zero, M.t29 (m := zM) rfl, fz40_pair zM_good.plain, tr_same, pair]
  · by_cases h2 : a < fi + ms.length
    · have h1 : fi ≤ a ∧ a < fi + ms.length := by omega
      have h3 : ¬ (a ≥ fi + ms.length) := by omega
      obtain ⟨i, hi⟩ := Int.eq_ofNat_of_zero_le (show 0 ≤ a - fi by omega)
      have hil : i < ms.length := by omega
      have hg : ∀ m ∈ ms, Good 1000 m := fun m hm => (h.good m hm).1
      obtain ⟨t, cs, o, r1, r2, r3, r4⟩ := h.rd.at (Pre.of hg) hil
      have hg1 := hg _ (List.getElem_mem hil)
      have hc := mbCopy_c hB k hg1 S
      have hw : IntKind.i64.wrap (a - fi) = (i : Int) := by rw [hi]; exact wr _ (by omega)
      have hti : (a - fi).toNat = i := by omega
      simp only [dif_pos h1, asInt_i, eql_ptr, bO_s, asBool_b, Bool.false_eq_true, if_false, addV_p, seeV_p, h.blk, Nat.zero_add, List.getElem?_cons_zero, List.getElem?_cons_succ, h0, decide_false, hn, h3, nthA_0, nthA_s, aggCells_a, gB_t, same_nil, hw, r1, r2, r3, r4, decide_true, hc, asAgg_a, M.len hg1.pre, beq_self_eq_true, hg1.cell, Nat.le_refl, M.z0 hg1.pre, List.drop_zero, M.t29 hg1.pre, fz40_pair hg1.plain, tr_same, pair, hti, ← zM_cells, M.len (m := zM) rfl]
    · have h1 : ¬ (fi ≤ a ∧ a < fi + ms.length) := by omega
      have h3 : a ≥ fi + ms.length := by omega
      simp only [dif_neg h1, asInt_i, eql_ptr, bO_s, asBool_b, Bool.false_eq_true, if_false, addV_p, seeV_p, h.blk, Nat.zero_add, List.getElem?_cons_zero, List.getElem?_cons_succ, h0, decide_false, hn, h3, decide_true, if_true, nthA_0, nthA_s, aggCells_a, ← zM_cells, M.len (m := zM) rfl, M.z0 (m := zM) rfl, Nat.le_refl, gB_t, List.drop_zero, M.t29 (m := zM) rfl, fz40_pair zM_good.plain, tr_same, pair]
end
end Go.Ab.tNearU

set_option maxRecDepth 100000
set_option linter.unusedSimpArgs false
set_option linter.unusedVariables false
set_option linter.unusedSectionVars false
namespace Go.Ab.tNearU
open Go Go.Proofs
def lf (fi w : Int) (ms : List M) : M × Bool := if (fi + ms.length).tmod w = 0 then (zM, false) else fa fi ms (fi + ms.length - 1)
theorem lf_good {fi w : Int} {ms : List M} (h : ∀ m ∈ ms, Good 1000 m ∧ m.norm = m) : Good 1000 (lf fi w ms).1 ∧ (lf fi w ms).1.norm = (lf fi w ms).1 := by
  unfold lf
  split
  · exact ⟨zM_good, rfl⟩
  · exact fa_good h _
section
variable {B : CallF} (hB : Silent B) (k : Nat) {S : Heap} {p q : Nat} {fi w : Int} {ms : List M} (h : Obj S p q fi w ms)
include hB h
theorem above_c : Cn B (k + 4) f_near_Near_Above 0 [.ptr p 0] S = some (pair (fa fi ms (fi + ms.length - w)), S) := by
  rw [c_near_Near_Above _ _ _ _ (hB _ _ _ _ (by decide)), T_near_Near_Above]
  have hn := next_c hB (k + 2) h
  have hf := h.hf
  have hm := h.hm
  have hw := h.hw
  have ha := nat_c hB k h (a := fi + ms.length - w) (by omega)
  obtain ⟨hg, _⟩ := fa_good h.good (fi + ms.length - w)
  generalize fa fi ms (fi + ms.length - w) = x at ha hg ⊢
  simp only [eql_ptr, bO_s, asBool_b, Bool.false_eq_true, if_false, hn, asInt_i, gB_t, same_nil, addV_p, seeV_p, h.blk, Nat.zero_add, List.getElem?_cons_zero, List.getElem?_cons_succ, same_see, wr (fi + ms.length - w) (by omega), ha, pair, asTup_a, asCons_c, asAgg_a, ← zM_cells, M.len hg.pre, beq_self_eq_true, hg.cell, Nat.le_refl, decide_true, M.z0 hg.pre, List.drop_zero, M.t29 hg.pre, fz40_pair hg.plain, tr_same]
theorem last_c : Cn B (k + 4) f_near_Near_Last 0 [.ptr p 0] S = some (pair (fa fi ms (fi + ms.length - 1)), S) := by
  rw [c_near_Near_Last _ _ _ _ (hB _ _ _ _ (by decide)), T_near_Near_Last]
  have hn := next_c hB (k + 2) h
  have hf := h.hf
  have hm := h.hm
  have ha := nat_c hB k h (a := fi + ms.length - 1) (by omega)
  obtain ⟨hg, _⟩ := fa_good h.good (fi + ms.length - 1)
  generalize fa fi ms (fi + ms.length - 1) = x at ha hg ⊢
  simp only [bO_s, hn, asInt_i, Nat.zero_add, wr (fi + ms.length - 1) (by omega), ha, pair, asTup_a, asCons_c, asAgg_a, asBool_b, ← zM_cells, M.len hg.pre, beq_self_eq_true, hg.cell, gB_t, Nat.le_refl, decide_true, M.z0 hg.pre, List.drop_zero, M.t29 hg.pre, fz40_pair hg.plain, tr_same]
theorem left_c : Cn B (k + 4) f_near_Near_Left 0 [.ptr p 0] S = some (pair (lf fi w ms), S) := by
  rw [c_near_Near_Left _ _ _ _ (hB _ _ _ _ (by decide)), T_near_Near_Left]
  have hn := next_c hB (k + 2) h
  have hf := h.hf
  have hm := h.hm
  have hw := h.hw
  have ha := nat_c hB k h (a := fi + ms.length - 1) (by omega)
  obtain ⟨hg, _⟩ := fa_good h.good (fi + ms.length - 1)
  unfold lf
  have hw0 : w ≠ 0 := by omega
  by_cases h0 : (fi + ms.length).tmod w = 0
  · simp only [if_pos h0, eql_ptr, bO_s, asBool_b, Bool.false_eq_true, if_false, hn, asInt_i, gB_t, same_nil, addV_p, seeV_p, h.blk, Nat.zero_add, List.getElem?_cons_zero, List.getElem?_cons_succ, same_see, rem64 _ _ hw0, h0, beq_self_eq_true, if_true, nthA_0, nthA_s, aggCells_a, ← zM_cells, M.len (m := zM) rfl, M.z0 (m := zM) rfl, Nat.le_refl, decide_true, List.drop_zero, M.t29 (m := zM) rfl, fz40_pair zM_good.plain, tr_same, pair]
  · rw [if_neg h0]
    have hx : ¬ (yldId ≤ f_near_Near_at) := by decide
    have hb : ((fi + ms.length).tmod w == 0) = false := by simp [h0]
    generalize fa fi ms (fi + ms.length - 1) = x at ha hg ⊢
    simp only [eql_ptr, bO_s, asBool_b, Bool.false_eq_true, if_false, hn, asInt_i, gB_t, same_nil, addV_p, seeV_p, h.blk, Nat.zero_add, List.getElem?_cons_zero, List.getElem?_cons_succ, same_see, rem64 _ _ hw0, hb, nthA_0, nthA_s, aggCells_a, ← zM_cells, wr (fi + ms.length - 1) (by omega)]
    simp only [callK, hx, if_false, OAn.way, OAn.cFrz, List.cons_append, List.nil_append, List.append_nil, ha, pair, bO_s, asTup_a, asCons_c, asAgg_a, asBool_b, M.len hg.pre, M.len (m := zM) rfl, beq_self_eq_true, hg.cell, gB_t, Nat.zero_add, Nat.le_refl, decide_true, M.z0 hg.pre, List.drop_zero, M.t29 hg.pre, fz40_pair hg.plain, tr_same, Bool.false_eq_true]
-- the reference's
theorem nat14_c {a : Int} (ha : -200 ≤ a ∧ a ≤ 8200) : Cn B (k + 4) f_spindleref14_Near_at 0 [.ptr p 0, .int .i64 a] S = some (pair (fa fi ms a), S) := by
  rw [c_spindleref14_Near_at _ _ _ _ _ (hB _ _ _ _ (by decide)), T_spindleref14_Near_at]
  have hn := next14_c hB (k + 2) h
  have hf := h.hf
  have hm := h.hm
  unfold fa
  by_cases h0 : a < fi
  · have h1 : ¬ (fi ≤ a ∧ a < fi + ms.length) := by omega
    simp only [dif_neg h1, asInt_i, bO_s, asBool_b, Bool.false_eq_true, if_false, addV_p, seeV_p, h.blk, Nat.zero_add, List.getElem?_cons_zero, List.getElem?_cons_succ, h0, decide_true, if_true, nthA_0, nthA_s, aggCells_a, ← zM_cells, M.z0 (m := zM) rfl, M.len (m := zM) rfl, Nat.le_refl, gB_t, List.drop_zero, M.t29 (m := zM) rfl, fz40_pair zM_good.plain, tr_same, pair]
  · by_cases h2 : a < fi + ms.length
    · have h1 : fi ≤ a ∧ a < fi + ms.length := by omega
      have h3 : ¬ (a ≥ fi + ms.length) := by omega
      obtain ⟨i, hi⟩ := Int.eq_ofNat_of_zero_le (show 0 ≤ a - fi by omega)
      have hil : i < ms.length := by omega
      have hg : ∀ m ∈ ms, Good 1000 m := fun m hm => (h.good m hm).1
      obtain ⟨t, cs, o, r1, r2, r3, r4⟩ := h.rd.at (Pre.of hg) hil
      have hg1 := hg _ (List.getElem_mem hil)
      have hc := copyMb_c hB k hg1 S
      rw [(h.good _ (List.getElem_mem hil)).2] at hc
      have hw : IntKind.i64.wrap (a - fi) = (i : Int) := by rw [hi]; exact wr _ (by omega)
      have hti : (a - fi).toNat = i := by omega
      simp only [dif_pos h1, asInt_i, bO_s, asBool_b, Bool.false_eq_true, if_false, addV_p, seeV_p, h.blk, Nat.zero_add, List.getElem?_cons_zero, List.getElem?_cons_succ, h0, decide_false, hn, h3, nthA_0, nthA_s, aggCells_a, gB_t, same_nil, hw, r1, r2, r3, r4, decide_true, hc, asAgg_a, M.len hg1.pre, beq_self_eq_true, hg1.cell, Nat.le_refl, M.z0 hg1.pre, List.drop_zero, M.t29 hg1.pre, fz40_pair hg1.plain, tr_same, pair, hti, ← zM_cells, M.len (m := zM) rfl]
    · have h1 : ¬ (fi ≤ a ∧ a < fi + ms.length) := by omega
      have h3 : a ≥ fi + ms.length := by omega
      simp only [dif_neg h1, asInt_i, bO_s, asBool_b, Bool.false_eq_true, if_false, addV_p, seeV_p, h.blk, Nat.zero_add, List.getElem?_cons_zero, List.getElem?_cons_succ, h0, decide_false, hn, h3, decide_true, if_true, nthA_0, nthA_s, aggCells_a, ← zM_cells, M.len (m := zM) rfl, M.z0 (m := zM) rfl, Nat.le_refl, gB_t, List.drop_zero, M.t29 (m := zM) rfl, fz40_pair zM_good.plain, tr_same, pair]
theorem above14_c : Cn B (k + 5) f_spindleref14_Near_Above 0 [.ptr p 0] S = some (pair (fa fi ms (fi + ms.length - w)), S) := by
  rw [c_spindleref14_Near_Above _ _ _ _ (hB _ _ _ _ (by decide)), T_spindleref14_Near_Above]
  have hn := next14_c hB (k + 3) h
  have hf := h.hf
  have hm := h.hm
  have hw := h.hw
  have ha := nat14_c hB k h (a := fi + ms.length - w) (by omega)
  obtain ⟨hg, _⟩ := fa_good h.good (fi + ms.length - w)
  generalize fa fi ms (fi + ms.length - w) = x at ha hg ⊢
  simp only [eql_ptr46, bO_s, asBool_b, Bool.false_eq_true, if_false, hn, asInt_i, gB_t, same_nil, addV_p, seeV_p, h.blk, Nat.zero_add, List.getElem?_cons_zero, List.getElem?_cons_succ, same_see, wr (fi + ms.length - w) (by omega), ha, pair, asTup_a, asCons_c, asAgg_a, ← zM_cells, M.len hg.pre, beq_self_eq_true, hg.cell, Nat.le_refl, decide_true, M.z0 hg.pre, List.drop_zero, M.t29 hg.pre, fz40_pair hg.plain, tr_same]
theorem last14_c : Cn B (k + 5) f_spindleref14_Near_Last 0 [.ptr p 0] S = some (pair (fa fi ms (fi + ms.length - 1)), S) := by
  rw [c_spindleref14_Near_Last _ _ _ _ (hB _ _ _ _ (by decide)), T_spindleref14_Near_Last]
  have hn := next14_c hB (k + 3) h
  have hf := h.hf
  have hm := h.hm
  have ha := nat14_c hB k h (a := fi + ms.length - 1) (by omega)
  obtain ⟨hg, _⟩ := fa_good h.good (fi + ms.length - 1)
  generalize fa fi ms (fi + ms.length - 1) = x at ha hg ⊢
  simp only [eql_ptr46, bO_s, asBool_b, Bool.false_eq_true, if_false, hn, asInt_i, Nat.zero_add, wr (fi + ms.length - 1) (by omega), ha, pair, asTup_a, asCons_c, asAgg_a, ← zM_cells, M.len hg.pre, beq_self_eq_true, hg.cell, gB_t, Nat.le_refl, decide_true, M.z0 hg.pre, List.drop_zero, M.t29 hg.pre, fz40_pair hg.plain, tr_same]
theorem left14_c : Cn B (k + 5) f_spindleref14_Near_Left 0 [.ptr p 0] S = some (pair (lf fi w ms), S) := by
  rw [c_spindleref14_Near_Left _ _ _ _ (hB _ _ _ _ (by decide)), T_spindleref14_Near_Left]
  have hn := next14_c hB (k + 3) h
  have hf := h.hf
  have hm := h.hm
  have hw := h.hw
  have ha := nat14_c hB k h (a := fi + ms.length - 1) (by omega)
  obtain ⟨hg, _⟩ := fa_good h.good (fi + ms.length - 1)
  unfold lf
  have hw0 : w ≠ 0 := by omega
  by_cases h0 : (fi + ms.length).tmod w = 0
  · simp only [if_pos h0, eql_ptr46, bO_s, asBool_b, Bool.false_eq_true, if_false, hn, asInt_i, gB_t, same_nil, addV_p, seeV_p, h.blk, Nat.zero_add, List.getElem?_cons_zero, List.getElem?_cons_succ, same_see, rem64 _ _ hw0, h0, beq_self_eq_true, if_true, nthA_0, nthA_s, aggCells_a, ← zM_cells, M.len (m := zM) rfl, M.z0 (m := zM) rfl, Nat.le_refl, decide_true, List.drop_zero, M.t29 (m := zM) rfl, fz40_pair zM_good.plain, tr_same, pair]
  · rw [if_neg h0]
    have hb : ((fi + ms.length).tmod w == 0) = false := by simp [h0]
    generalize fa fi ms (fi + ms.length - 1) = x at ha hg ⊢
    simp only [eql_ptr46, bO_s, asBool_b, Bool.false_eq_true, if_false, hn, asInt_i, gB_t, same_nil, addV_p, seeV_p, h.blk, Nat.zero_add, List.getElem?_cons_zero, List.getElem?_cons_succ, same_see, rem64 _ _ hw0, hb, nthA_0, nthA_s, aggCells_a, ← zM_cells, wr (fi + ms.length - 1) (by omega), ha, pair, asTup_a, asCons_c, asAgg_a, M.len hg.pre, M.len (m := zM) rfl, beq_self_eq_true, hg.cell, Nat.le_refl, decide_true, M.z0 hg.pre, List.drop_zero, M.t29 hg.pre, fz40_pair hg.plain, tr_same]
end
end Go.Ab.tNearU

set_option maxRecDepth 100000
set_option linter.unusedSimpArgs false
set_option linter.unusedVariables false
set_option linter.unusedSectionVars false
namespace Go.Ab.tNearU
open Go Go.Proofs
theorem new_ok {B : CallF} (hB : Silent B) (k : Nat) {fi w : Int} (hf : 0 ≤ fi ∧ fi < 8160) (hw : 1 ≤ w ∧ w ≤ 128) (S : Heap) : Cn B (k + 1) f_near_New 0 [.int .i64 fi, .int .i64 w] S = some (.tup [.ptr S.next 0, .int .i64 0], S.alloc [.int .i64 fi, .int .i64 w, .nils]) := by
  rw [c_near_New _ _ _ _ _ (hB _ _ _ _ (by decide)), T_near_New]
  have h1 : ¬ (fi < 0) := by omega
  have h2 : ¬ (fi ≥ 8160) := by omega
  have h3 : ¬ (w < 1) := by omega
  have h4 : ¬ (w > 128) := by omega
  simp only [asInt_i, h1, h2, h3, h4, decide_false, Bool.false_eq_true, if_false, bO_s, nthA_0, nthA_s, asBool_b]
  rw [tr_id2 (by rfl)]
theorem new14_ok {B : CallF} (hB : Silent B) (k : Nat) {fi w : Int} (hf : 0 ≤ fi ∧ fi < 8160) (hw : 1 ≤ w ∧ w ≤ 128) (S : Heap) : Cn B (k + 1) f_spindleref14_New 0 [.int .i64 fi, .int .i64 w] S = some (.tup [.ptr S.next 0, .int .i64 0], S.alloc [.int .i64 fi, .int .i64 w, .nils]) := by
  rw [c_spindleref14_New _ _ _ _ _ (hB _ _ _ _ (by decide)), T_spindleref14_New]
  have h1 : ¬ (fi < 0) := by omega
  have h2 : ¬ (fi ≥ 8160) := by omega
  have h3 : ¬ (w < 1) := by omega
  have h4 : ¬ (w > 128) := by omega
  simp only [asInt_i, h1, h2, h3, h4, decide_false, Bool.false_eq_true, if_false, bO_s, nthA_0, nthA_s, asBool_b]
  rw [tr_id2 (by rfl)]
theorem new_bad {B : CallF} (hB : Silent B) (k : Nat) {fi w : Int} (h : ¬ ((0 ≤ fi ∧ fi < 8160) ∧ 1 ≤ w ∧ w ≤ 128)) (S : Heap) : Cn B (k + 1) f_near_New 0 [.int .i64 fi, .int .i64 w] S = some (.tup [.nilp, .int .i64 3], S) := by
  rw [c_near_New _ _ _ _ _ (hB _ _ _ _ (by decide)), T_near_New]
  by_cases h1 : fi < 0
  · simp [h1]
  · by_cases h2 : fi ≥ 8160
    · simp [h1, h2]
    · by_cases h3 : w < 1
      · simp [h1, h2, h3]
      · have h4 : w > 128 := by omega
        simp [h1, h2, h3, h4]
theorem new14_bad {B : CallF} (hB : Silent B) (k : Nat) {fi w : Int} (h : ¬ ((0 ≤ fi ∧ fi < 8160) ∧ 1 ≤ w ∧ w ≤ 128)) (S : Heap) : Cn B (k + 1) f_spindleref14_New 0 [.int .i64 fi, .int .i64 w] S = some (.tup [.nilp, .int .i64 3], S) := by
  rw [c_spindleref14_New _ _ _ _ _ (hB _ _ _ _ (by decide)), T_spindleref14_New]
  by_cases h1 : fi < 0
  · simp [h1]
  · by_cases h2 : fi ≥ 8160
    · simp [h1, h2]
    · by_cases h3 : w < 1
      · simp [h1, h2, h3]
      · have h4 : w > 128 := by omega
        simp [h1, h2, h3, h4]
theorem new_obj {fi w : Int} (hf : 0 ≤ fi ∧ fi < 8160) (hw : 1 ≤ w ∧ w ≤ 128) (S : Heap) (q : Nat) : Obj (S.alloc [.int .i64 fi, .int .i64 w, .nils]) S.next q fi w [] :=
  ⟨by rw [alloc_blk, if_pos rfl], fun h => absurd rfl h, fun h => absurd rfl h, Nat.lt_succ_self _, fun h => absurd rfl h, fun m hm => by simp at hm, hf, hw, by simp; omega⟩

/-- What the heap is after an addition. -/
def addH (S : Heap) (p q : Nat) (fi w : Int) (ms : List M) (m : M) : Heap :=
  if ms = [] then (S.alloc m.cells).set p (some [.int .i64 fi, .int .i64 w, .hs S.next 0 1 29])
  else ((S.set q none).alloc (flat ms ++ m.cells)).set p (some [.int .i64 fi, .int .i64 w, .hs S.next 0 (ms.length + 1) 29])
section
variable {S : Heap} {p q : Nat} {fi w : Int} {ms : List M} (h : Obj S p q fi w ms) {m : M} (hg : Good 1000 m ∧ m.norm = m) (hm : fi + ms.length < 8160)
include h
theorem addH_next : (addH S p q fi w ms m).next = S.next + 1 := by unfold addH; split <;> rfl
theorem addH_cx : (addH S p q fi w ms m).cx = S.cx := by unfold addH; split <;> rfl
theorem addH_other {j : Nat} (h1 : j < S.next) (h2 : j ≠ p) (h3 : ms ≠ [] → j ≠ q) : (addH S p q fi w ms m).blk j = S.blk j := by
  unfold addH
  split
  · rw [set_other _ _ h2, alloc_other _ _ (by omega)]
  · rename_i h0
    rw [set_other _ _ h2, alloc_other _ _ (by rw [set_next]; omega), set_other _ _ (h3 h0)]
include hg hm
theorem addH_obj : Obj (addH S p q fi w ms m) p S.next fi w (ms ++ [m]) := by
  have hlp := h.lp
  refine ⟨?_, fun _ => ?_, fun _ => by omega, by rw [addH_next h]; omega, fun _ => by rw [addH_next h]; omega, fun x hx => ?_, h.hf, h.hw, by simp; omega⟩
  · rw [if_neg (by simp)]
    unfold addH
    split
    · rename_i h0; subst h0; rw [set_blk]; rfl
    · rw [set_blk]; simp
  · unfold addH
    split
    · rename_i h0; subst h0; rw [set_other _ _ (by omega), alloc_blk]; simp [flat]
    · rename_i h0
      rw [set_other _ _ (by omega), show S.next = (S.set q none).next from rfl, alloc_blk]; simp [flat]
  · rcases List.mem_append.1 hx with hx | hx
    · exact h.good x hx
    · rw [List.mem_singleton.1 hx]; exact hg
theorem addH_ne : (addH S p q fi w ms m).blk p ≠ S.blk p := by
  rw [h.blk, (addH_obj h hg hm).blk, if_neg (by simp)]
  by_cases h0 : ms = []
  · simp [h0]
  · have := h.lq h0
    simp [h0]
/-- What an addition does. -/
theorem add_steps : ∃ T, aAppend 29 128 (if ms = [] then .nils else .hs q 0 ms.length 29) (.is 1 m.cells) S = some (.hs S.next 0 (ms.length + 1) 29, T) ∧ putV (.ptr p 2) [.hs S.next 0 (ms.length + 1) 29] T = some (addH S p q fi w ms m) := by
  have hlp := h.lp
  have hf := h.hf
  have hl := flat_len (Pre.of fun m hm => (h.good m hm).1)
  by_cases h0 : ms = []
  · subst h0
    rw [if_pos rfl]
    refine ⟨_, app_nil (n := 1) (by omega) (by rw [M.len hg.1.pre]) (room2 (by omega) (by omega)) (room3 (by omega)), ?_⟩
    have hb : (S.alloc m.cells).blk p = some [.int .i64 fi, .int .i64 w, .nils] := by rw [alloc_other _ _ (by omega), h.blk, if_pos rfl]
    simp only [putV, hb, List.length_nil, List.length_cons, addH, if_true]
    rfl
  · rw [if_neg h0]
    have hlq := h.lq h0
    refine ⟨_, app_hs (n := 1) (h.cells h0) hl (by rw [M.len hg.1.pre]) (by omega) (room2 (by omega) (by omega)) (room3 (by omega)) hg.1.cell, ?_⟩
    have hb : ((S.set q none).alloc (flat ms ++ m.cells)).blk p = some [.int .i64 fi, .int .i64 w, .hs q 0 ms.length 29] := by
      rw [alloc_other _ _ (by rw [set_next]; omega), set_other _ _ (Ne.symm (h.ne h0)), h.blk, if_neg h0]
    simp only [putV, hb, List.length_nil, List.length_cons, addH, if_neg h0]
    rfl
theorem add_c {B : CallF} (hB : Silent B) (k : Nat) : Cn B (k + 3) f_near_Near_Add 0 [.ptr p 0, .agg m.cells] S = some (.int .i64 0, addH S p q fi w ms m) := by
  rw [c_near_Near_Add _ _ _ _ _ (hB _ _ _ _ (by decide)), T_near_Near_Add]
  have hn := next_c hB (k + 1) h
  have h1 : ¬ (fi + ms.length ≥ 8160) := by omega
  have hc := mbCopy_c hB k hg.1 S
  obtain ⟨T, e1, e2⟩ := add_steps h hg hm
  simp only [asAgg_a, ← zM_cells, M.len hg.1.pre, beq_self_eq_true, gB_t, eql_ptr, bO_s, asBool_b, Bool.false_eq_true, if_false, hn, asInt_i, h1, decide_false, addV_p, seeV_p, h.blk, Nat.zero_add, List.getElem?_cons_zero, List.getElem?_cons_succ, same_nil, same_see, List.drop_zero, M.t29 hg.1.pre, hc, Nat.le_refl, decide_true, M.z0 hg.1.pre, e1, show cell (.hs S.next 0 (ms.length + 1) 29) = true from rfl, List.all_cons, List.all_nil, Bool.and_true, e2]
  rw [tr_ne p h.lp (addH_ne h hg hm)]
theorem add14_c {B : CallF} (hB : Silent B) (k : Nat) {m' : M} (hg' : Good 1000 m') (he : m'.norm = m) : Cn B (k + 4) f_spindleref14_Near_Add 0 [.ptr p 0, .agg m'.cells] S = some (.int .i64 0, addH S p q fi w ms m) := by
  rw [c_spindleref14_Near_Add _ _ _ _ _ (hB _ _ _ _ (by decide)), T_spindleref14_Near_Add]
  have hn := next14_c hB (k + 2) h
  have h1 : ¬ (fi + ms.length ≥ 8160) := by omega
  have hc := copyMb_c hB k hg' S
  rw [he] at hc
  obtain ⟨T, e1, e2⟩ := add_steps h hg hm
  simp only [asAgg_a, ← zM_cells, M.len hg'.pre, M.len hg.1.pre, beq_self_eq_true, gB_t, eql_ptr46, bO_s, asBool_b, Bool.false_eq_true, if_false, hn, asInt_i, h1, decide_false, addV_p, seeV_p, h.blk, Nat.zero_add, List.getElem?_cons_zero, List.getElem?_cons_succ, same_nil, same_see, List.drop_zero, M.t29 hg'.pre, hc, Nat.le_refl, decide_true, M.z0 hg.1.pre, e1, show cell (.hs S.next 0 (ms.length + 1) 29) = true from rfl, List.all_cons, List.all_nil, Bool.and_true, e2]
  rw [tr_ne p h.lp (addH_ne h hg hm)]
end
section
variable {S : Heap} {p q : Nat} {fi w : Int} {ms : List M} (h : Obj S p q fi w ms) {m : M} (hg : Good 1000 m) (hm : ¬ fi + ms.length < 8160)
include h hg hm
theorem addLong_c {B : CallF} (hB : Silent B) (k : Nat) : Cn B (k + 3) f_near_Near_Add 0 [.ptr p 0, .agg m.cells] S = some (.int .i64 6, S) := by
  rw [c_near_Near_Add _ _ _ _ _ (hB _ _ _ _ (by decide)), T_near_Near_Add]
  have hn := next_c hB (k + 1) h
  have h1 : fi + ms.length ≥ 8160 := by omega
  simp only [asAgg_a, M.len hg.pre, beq_self_eq_true, gB_t, eql_ptr, bO_s, asBool_b, Bool.false_eq_true, if_false, hn, asInt_i, h1, decide_true, if_true, tr_same]
theorem addLong14_c {B : CallF} (hB : Silent B) (k : Nat) : Cn B (k + 4) f_spindleref14_Near_Add 0 [.ptr p 0, .agg m.cells] S = some (.int .i64 6, S) := by
  rw [c_spindleref14_Near_Add _ _ _ _ _ (hB _ _ _ _ (by decide)), T_spindleref14_Near_Add]
  have hn := next14_c hB (k + 2) h
  have h1 : fi + ms.length ≥ 8160 := by omega
  simp only [asAgg_a, M.len hg.pre, beq_self_eq_true, gB_t, eql_ptr46, bO_s, asBool_b, Bool.false_eq_true, if_false, hn, asInt_i, h1, decide_true, if_true, tr_same]
end
end Go.Ab.tNearU

set_option maxRecDepth 100000
set_option linter.unusedSimpArgs false
set_option linter.unusedVariables false
set_option linter.unusedSectionVars false
namespace Go.Ab.tNearU
open Go Go.Proofs
theorem gB_of {β : Type} {b : Bool} {k : Option β} (h : b = true) : gB b k = k := by rw [h]; rfl
theorem rowOf_rd {S : Heap} {a : AV} {ms : List M} (h : Rd S a ms) (hp : Pre ms) : rowOf 29 a S = some (ms.length, flat ms) := by
  have hl := flat_len hp
  obtain ⟨rfl, rfl⟩ | rfl | ⟨q, rfl, h2, h3⟩ := h
  · rfl
  · simp only [rowOf, hl, if_true]
  · simp only [rowOf, h2, Nat.zero_add, hl, Nat.le_refl, and_self, if_true, List.drop_zero]
    rw [List.take_of_length_le (by omega)]
theorem repCells_len (n : Nat) : (repCells n zM.cells).length = n * 29 := by
  show (List.replicate n zM.cells).flatten.length = _
  simp [M.len (m := zM) rfl]
theorem mbs_c {B : CallF} (hB : Silent B) (k : Nat) {S : Heap} {p q : Nat} {fi w : Int} {ms : List M} (h : Obj S p q fi w ms) : Cn B (k + 3) f_near_Near_Mbs 0 [.ptr p 0] S = some (.is ms.length (flat ms), S) := by
  rw [c_near_Near_Mbs _ _ _ _ (hB _ _ _ _ (by decide)), T_near_Near_Mbs]
  have hg : ∀ m ∈ ms, Good 1000 m := fun m hm => (h.good m hm).1
  have hl := flat_len (Pre.of hg)
  have hf := h.hf
  have hm := h.hm
  have hrd := h.rd
  have hlen := hrd.len
  have hb1 : (S.alloc (repCells ms.length zM.cells)).blk p = some [.int .i64 fi, .int .i64 w, if ms = [] then .nils else .hs q 0 ms.length 29] := by rw [alloc_other _ _ (by have := h.lp; omega), h.blk]
  have hrow := rowOf_rd (hrd.ext (Ext.alloc S (repCells ms.length zM.cells))) (Pre.of hg)
  have hcell : (flat ms).all cell = true := flat_all fun m hm => (hg m hm).cell
  have hcopy : aCopy 29 (.hs S.next 0 ms.length 29) (if ms = [] then .nils else .hs q 0 ms.length 29) (S.alloc (repCells ms.length zM.cells)) = some (.int .i64 (ms.length : Nat), (S.alloc (repCells ms.length zM.cells)).set S.next (some (flat ms))) := by
    unfold aCopy
    simp only [hrow, alloc_blk, repCells_len, Nat.zero_add, Nat.le_refl, hcell, and_self, if_true, Nat.min_self]
    rw [List.take_of_length_le (by omega), setCells_all (by rw [repCells_len, hl])]
  simp only [eql_ptr, bO_s, asBool_b, Bool.false_eq_true, if_false, addV_p, seeV_p, h.blk, Nat.zero_add, List.getElem?_cons_zero, List.getElem?_cons_succ, hlen, asInt_i, gB_t, Int.toNat_natCast, ← zM_cells, hb1, hcopy]
  rw [gB_of (by simp; omega)]
  have hE : Ext S ((S.alloc (repCells ms.length zM.cells)).set S.next (some (flat ms))) := (Ext.alloc S _).set (Nat.le_refl _) _
  refine loop_to (fun i s => ∃ T, s = ([.hs S.next 0 ms.length 29, .int .i64 (ms.length : Nat), .int .i64 (i : Int)], T) ∧ Ext S T ∧ T.blk S.next = some (flat ms))
    (fun y => ∃ T, y = (0, [.hs S.next 0 ms.length 29], T) ∧ Ext S T ∧ T.blk S.next = some (flat ms)) ms.length ⟨_, rfl, hE, by simp⟩ ?_ ?_
  · rintro i s hi ⟨T, rfl, hT, hTb⟩
    by_cases hin : i < ms.length
    · refine .inr ⟨hin, ?_⟩
      have hlt : (i : Int) < ms.length := by omega
      have hw : IntKind.wrap .i64 ((i : Int) + 1) = (i : Int) + 1 := wr _ (by omega)
      have hix : aIdx 29 (.hs S.next 0 ms.length 29) (i : Int) = some (.ptr S.next (i * 29)) := by simp [aIdx, hin]
      have hg1 := hg _ (List.getElem_mem hin)
      have hc := mbCopy_c hB k hg1 T
      have hlen2 : i * 29 + 29 ≤ (flat ms).length := by omega
      have hput : putV (.ptr S.next (i * 29)) ms[i].cells T = some (T.set S.next (some (flat ms))) := by
        simp only [putV, hTb, M.len hg1.pre, hlen2, if_true, flat_same (Pre.of hg) hin]
      simp only [nthA_0, nthA_s, asInt_i, hlt, decide_true, if_true, hix, bO_s, seeV_p, hTb, hlen2, gB_t, flat_at (Pre.of hg) hin, hc, asAgg_a, M.len hg1.pre, beq_self_eq_true, hg1.cell, hput, hw]
      exact ⟨_, rfl, T.set S.next (some (flat ms)), rfl, hT.set (Nat.le_refl _) _, by simp⟩
    · have : i = ms.length := by omega
      subst this
      refine .inl ⟨_, ?_, T, rfl, hT, hTb⟩
      simp
  · rintro y ⟨T, rfl, hT, hTb⟩
    simp only [sel, nthA_0]
    rw [show (40 : Nat) = 38 + 1 + 1 from rfl, fz_hs hTb hl (flat_all fun m hm => (hg m hm).plain)]
    simp only [bO_s]
    rw [tr_S]
    · simp only [Go.Ab.noId]
      refine noIdL_all fun c hc => ?_
      obtain ⟨m, hm, hc⟩ := List.mem_flatMap.1 hc
      have : ∀ {l : List AV}, noIdL l = true → ∀ c ∈ l, Go.Ab.noId c = true := by
        intro l
        induction l with
        | nil => intro _ c hc; simp at hc
        | cons a l ih =>
          intro h c hc
          simp only [noIdL, Bool.and_eq_true] at h
          rcases List.mem_cons.1 hc with rfl | hc
          · exact h.1
          · exact ih h.2 c hc
      exact this (hg m hm).noId c hc
    · exact hT.set (Nat.le_refl _) none
def madeOk (fi w : Int) (n : Nat) : Prop := (0 ≤ fi ∧ fi < 8160) ∧ (1 ≤ w ∧ w ≤ 128) ∧ fi + n ≤ 8160
theorem made_c {B : CallF} (hB : Silent B) (k : Nat) {S : Heap} {a : AV} {ms : List M} (ha : Rd S a ms) (hg : ∀ m ∈ ms, Good 1000 m) (hn : ms.length ≤ 1000) {fi w : Int} :
    (madeOk fi w ms.length ∧ ∃ T q, Cn B (k + 4) f_spindlelaw14_made 0 [.int .i64 fi, .int .i64 w, a] S = some (.ptr S.next 0, T) ∧ Obj T S.next q fi w (ms.map M.norm) ∧ Ext S T ∧ S.next ≤ q) ∨ (¬ madeOk fi w ms.length ∧ Cn B (k + 4) f_spindlelaw14_made 0 [.int .i64 fi, .int .i64 w, a] S = some (.nilp, S)) := by
  rw [c_spindlelaw14_made _ _ _ _ _ _ (hB _ _ _ _ (by decide)), T_spindlelaw14_made]
  by_cases hv : (0 ≤ fi ∧ fi < 8160) ∧ 1 ≤ w ∧ w ≤ 128
  · have hnew := new_ok hB (k + 2) hv.1 hv.2 S
    simp only [asInt_i, hnew, bO_s, asTup_a, asCons_c, eql_ptr, asBool_b, Bool.false_eq_true, if_false, nthA_0, nthA_s, bne_self_eq_false]
    refine loop_ex (fun (o : Option (AV × Heap)) => (madeOk fi w ms.length ∧ ∃ T q, o = some (.ptr S.next 0, T) ∧ Obj T S.next q fi w (ms.map M.norm) ∧ Ext S T ∧ S.next ≤ q) ∨ (¬ madeOk fi w ms.length ∧ o = some (.nilp, S)))
      (fun i s => ∃ T q, s = ([a, .ptr S.next 0, .int .i64 (i : Int)], T) ∧ Obj T S.next q fi w ((ms.take i).map M.norm) ∧ Ext S T ∧ S.next ≤ q)
      (fun y => (∃ T q, y = (0, [.ptr S.next 0], T) ∧ Obj T S.next q fi w (ms.map M.norm) ∧ Ext S T ∧ S.next ≤ q) ∨ (¬ madeOk fi w ms.length ∧ ∃ T, y = (1, [.nilp], T) ∧ Ext S T)) ms.length
      ⟨_, S.next, rfl, new_obj hv.1 hv.2 S _, Ext.alloc S _, Nat.le_refl _⟩ ?_ ?_
    · rintro i s hi ⟨T, q, rfl, hO, hT, hq⟩
      by_cases hin : i < ms.length
      · have hlt : (i : Int) < ms.length := by omega
        have hw : IntKind.wrap .i64 ((i : Int) + 1) = (i : Int) + 1 := wr _ (by omega)
        have ha' := ha.ext hT
        obtain ⟨t, cs, o, r1, r2, r3, r4⟩ := ha'.at (Pre.of hg) hin
        have hg1 := hg _ (List.getElem_mem hin)
        have hc := copyMb_c hB k hg1 T
        have hl : ((ms.take i).map M.norm).length = i := by simp; omega
        by_cases hm : fi + i < 8160
        · have hadd := add_c hO (m := ms[i].norm) ⟨hg1.norm, norm_norm _⟩ (by rw [hl]; exact hm) hB k
          refine .inr ⟨hin, ?_⟩
          simp only [nthA_0, nthA_s, asInt_i, ha'.len, bO_s, hlt, decide_true, if_true, r1, r2, r3, r4, gB_t, hc, asAgg_a, hadd, bne_self_eq_false, Bool.false_eq_true, if_false, hw]
          refine ⟨_, rfl, _, _, rfl, ?_, ⟨?_, ?_, fun j hj => ?_⟩, hT.1⟩
          · have := addH_obj hO (m := ms[i].norm) ⟨hg1.norm, norm_norm _⟩ (by rw [hl]; exact hm)
            rw [List.take_add_one, List.getElem?_eq_getElem hin, Option.toList_some, List.map_append]
            exact this
          · rw [addH_next hO]; have := hT.1; omega
          · rw [addH_cx hO]; exact hT.2.1
          · rw [addH_other hO (by have := hT.1; omega) (by omega) (fun _ => by omega)]; exact hT.2.2 j hj
        · have hadd := addLong_c hO (m := ms[i].norm) hg1.norm (by rw [hl]; exact hm) hB k
          refine .inl ⟨(1, [.nilp], T), ?_, .inr ⟨?_, T, rfl, hT⟩⟩
          · simp only [nthA_0, nthA_s, asInt_i, ha'.len, bO_s, hlt, decide_true, if_true, r1, r2, r3, r4, gB_t, hc, asAgg_a, hadd, show ((6 : Int) != 0) = true from rfl]
          · rintro ⟨_, _, h3⟩; omega
      · have : i = ms.length := by omega
        subst this
        refine .inl ⟨(0, [.ptr S.next 0], T), ?_, .inl ⟨T, q, rfl, ?_, hT, hq⟩⟩
        · simp only [nthA_0, nthA_s, asInt_i, (ha.ext hT).len, bO_s, Int.lt_irrefl, decide_false, Bool.false_eq_true, if_false]
        · rw [List.take_length] at hO; exact hO
    · rintro y (⟨T, q, rfl, hO, hT, hq⟩ | ⟨h1, T, rfl, hT⟩)
      · refine .inl ⟨⟨hv.1, hv.2, by have := hO.hm; simp at this; exact this⟩, T, q, ?_, hO, hT, hq⟩
        simp only [sel, nthA_0]
        rw [tr_id2 (by rfl)]
      · refine .inr ⟨h1, ?_⟩
        simp only [sel, nthA_0]
        rw [tr_S rfl hT]
  · have hnew := new_bad hB (k + 2) hv S
    refine .inr ⟨fun h => hv ⟨h.1, h.2.1⟩, ?_⟩
    simp only [asInt_i, hnew, bO_s, asTup_a, asCons_c, eql_nilp, asBool_b, if_true, nthA_0, nthA_s, tr_same]
end Go.Ab.tNearU

set_option maxRecDepth 100000
set_option linter.unusedSimpArgs false
set_option linter.unusedVariables false
set_option linter.unusedSectionVars false
namespace Go.Ab.tNearU
open Go Go.Proofs
theorem maxLen_is : maxLen = 9223372036854775807 := by unfold maxLen; rfl
def rl (a : AV) : Nat := match a with | .is n _ => n | _ => 0
theorem rl25 {N es : Nat} {a : AV} (h : Row N es a) : aLen Try.prog 25 a = some (.int .i64 (rl a)) := by obtain rfl | ⟨n, cs, rfl, _⟩ := h <;> kernel_rfl
theorem rl26 {N es : Nat} {a : AV} (h : Row N es a) : aLen Try.prog 26 a = some (.int .i64 (rl a)) := by obtain rfl | ⟨n, cs, rfl, _⟩ := h <;> kernel_rfl
theorem rl27 {N : Nat} {a : AV} (h : Rows N a) : aLen Try.prog 27 a = some (.int .i64 (rl a)) := by obtain rfl | ⟨n, cs, rfl, _⟩ := h <;> kernel_rfl
theorem Row.small {N es K : Nat} {a : AV} (h : Row N es a) (hk : rl a ≤ K) : Row K es a := by
  obtain rfl | ⟨n, cs, rfl, h1, h2, h3⟩ := h
  · exact .inl rfl
  · exact .inr ⟨n, cs, rfl, hk, h2, h3⟩
theorem Rows.small {N K : Nat} {a : AV} (h : Rows N a) (hk : rl a ≤ K) (hr : ∀ c ∈ cut a, rl c ≤ K) : Rows K a := by
  obtain rfl | ⟨n, cs, rfl, h1, h2, h3⟩ := h
  · exact .inl rfl
  · exact .inr ⟨n, cs, rfl, hk, h2, fun c hc => (h3 c hc).small (hr c hc)⟩
theorem Rows.rl {N : Nat} {a : AV} (h : Rows N a) : (cut a).length = rl a ∧ Go.Ab.tNearU.rl a ≤ N := by
  obtain rfl | ⟨n, cs, rfl, h1, h2, h3⟩ := h
  · exact ⟨rfl, Nat.zero_le _⟩
  · exact ⟨h2, h1⟩
theorem Rd.field {S : Heap} {a : AV} {ms : List M} (h : Rd S a ms) (hp : Pre ms) {i : Nat} (hi : i < ms.length) :
    ∃ t, aIdx 29 a (i : Int) = some t ∧ ∀ f, f < 29 → ∃ t' cs o, addV t f = some t' ∧ seeV t' S = some (cs, o) ∧ cs[o]? = ms[i].cells[f]? := by
  have hl := flat_len hp
  have hc : ∀ f, f < 29 → (flat ms)[i * 29 + f]? = ms[i].cells[f]? := fun f hf => by
    rw [← flat_at hp hi, List.getElem?_take_of_lt hf, List.getElem?_drop]
  obtain ⟨rfl, rfl⟩ | rfl | ⟨q, rfl, h2, h3⟩ := h
  · simp at hi
  · exact ⟨.iptr ((flat ms).drop (i * 29)), by simp [aIdx, hi], fun f hf => ⟨_, _, 0, rfl, rfl, by rw [List.drop_drop, List.getElem?_drop, Nat.add_zero]; exact hc f hf⟩⟩
  · exact ⟨.ptr q (i * 29), by simp [aIdx, hi], fun f hf => ⟨_, flat ms, i * 29 + f, rfl, by simp [h2], hc f hf⟩⟩
theorem few_c {B : CallF} (hB : Silent B) (k : Nat) {S : Heap} {a : AV} {ms : List M} (ha : Rd S a ms) (hg : ∀ m ∈ ms, Good maxLen m) (hl : ms.length ≤ maxLen) (most : Int) :
    ∃ b, Cn B (k + 1) f_spindlelaw14_Few 0 [a, .int .i64 most] S = some (.bool b, S) ∧ (b = true → (ms.length : Int) ≤ most ∧ ∀ m ∈ ms, Good 60 m) := by
  rw [c_spindlelaw14_Few _ _ _ _ _ (hB _ _ _ _ (by decide)), T_spindlelaw14_Few]
  have hmx := maxLen_is
  simp only [asInt_i, ha.len, bO_s]
  by_cases h0 : (ms.length : Int) > most
  · simp only [h0, decide_true, if_true, tr_same]
    exact ⟨false, rfl, fun h => by cases h⟩
  · simp only [h0, decide_false, Bool.false_eq_true, if_false]
    refine loop_ex (fun (o : Option (AV × Heap)) => ∃ b, o = some (.bool b, S) ∧ (b = true → (ms.length : Int) ≤ most ∧ ∀ m ∈ ms, Good 60 m))
      (fun i s => s = ([a, .int .i64 (i : Int)], S) ∧ ∀ j (h : j < ms.length), j < i → Good 60 ms[j])
      (fun y => (y = (0, [], S) ∧ ∀ m ∈ ms, Good 60 m) ∨ y = (1, [.bool false], S)) ms.length ⟨rfl, fun j h h' => by omega⟩ ?_ ?_
    · rintro i s hi ⟨rfl, hs⟩
      by_cases hin : i < ms.length
      · have hlt : (i : Int) < ms.length := by omega
        have hw : IntKind.wrap .i64 ((i : Int) + 1) = (i : Int) + 1 := wr _ (by omega)
        obtain ⟨t, r1, rf⟩ := ha.field (Pre.of hg) hin
        have hg1 := hg _ (List.getElem_mem hin)
        obtain ⟨t23, c23, o23, a23, b23, d23⟩ := rf 23 (by omega)
        obtain ⟨t24, c24, o24, a24, b24, d24⟩ := rf 24 (by omega)
        obtain ⟨t27, c27, o27, a27, b27, d27⟩ := rf 27 (by omega)
        obtain ⟨t28, c28, o28, a28, b28, d28⟩ := rf 28 (by omega)
        rw [M.g23 hg1.pre] at d23
        rw [M.g24 hg1.pre] at d24
        rw [M.g27 hg1.pre] at d27
        rw [M.g28 hg1.pre] at d28
        obtain ⟨m, hm⟩ : ∃ m, ms[i] = m := ⟨_, rfl⟩
        rw [hm] at hg1 d23 d24 d27 d28
        have l1 := rl25 hg1.r
        have l2 := rl26 hg1.v
        have l3 := rl27 hg1.b
        simp only [nthA_0, nthA_s, asInt_i, ha.len, bO_s, hlt, decide_true, if_true, r1, a23, b23, d23, a24, b24, d24, a27, b27, d27, a28, b28, d28, l1, l2, l3, asStr_s]
        by_cases c1 : (rl m.r : Int) > 40
        · simp only [c1, decide_true, if_true, bO_s, nthA_0, nthA_s, asInt_i, asBool_b]
          exact .inl ⟨_, rfl, .inr rfl⟩
        by_cases c2 : (rl m.v : Int) > 40
        · simp only [c1, c2, decide_true, decide_false, Bool.false_eq_true, if_false, if_true, bO_s, nthA_0, nthA_s, asInt_i, asBool_b]
          exact .inl ⟨_, rfl, .inr rfl⟩
        by_cases c3 : (rl m.b : Int) > 60
        · simp only [c1, c2, c3, decide_true, decide_false, Bool.false_eq_true, if_false, if_true, bO_s, nthA_0, nthA_s, asInt_i, asBool_b]
          exact .inl ⟨_, rfl, .inr rfl⟩
        by_cases c4 : (m.s.size : Int) > 400
        · simp only [c1, c2, c3, c4, decide_true, decide_false, Bool.false_eq_true, if_false, if_true, bO_s, nthA_0, nthA_s, asInt_i, asBool_b]
          exact .inl ⟨_, rfl, .inr rfl⟩
        simp only [c1, c2, c3, c4, decide_true, decide_false, Bool.false_eq_true, if_false, if_true, bO_s, nthA_0, nthA_s, asInt_i, asBool_b]
        obtain ⟨hbl, hbN⟩ := hg1.b.rl
        refine loop_ex (fun (o : Option (LSt ⊕ (Nat × LSt))) => (∃ x, o = some (.inr x) ∧ ((x = (0, [], S) ∧ ∀ m ∈ ms, Good 60 m) ∨ x = (1, [.bool false], S))) ∨ (i < ms.length ∧ ∃ s', o = some (.inl s') ∧ (s' = ([a, .int .i64 ((i + 1 : Nat) : Int)], S) ∧ ∀ j (h : j < ms.length), j < i + 1 → Good 60 ms[j])))
          (fun j s => s = ([a, .int .i64 (i : Int), .int .i64 (j : Int)], S) ∧ ∀ u (h : u < (cut m.b).length), u < j → rl (cut m.b)[u] ≤ 40)
          (fun y => (y = (0, [a, .int .i64 (i : Int)], S) ∧ ∀ c ∈ cut m.b, rl c ≤ 40) ∨ y = (1, [.bool false], S)) (rl m.b) ⟨rfl, fun u h h' => by omega⟩ ?_ ?_
        · rintro j s hj ⟨rfl, hu⟩
          obtain ⟨n27, hn27, hl27, hL27, hI27⟩ := len27 hg1.b
          have hnn : n27 = rl m.b := by omega
          by_cases hjn : j < rl m.b
          · have hltj : (j : Int) < rl m.b := by omega
            have hwj : IntKind.wrap .i64 ((j : Int) + 1) = (j : Int) + 1 := wr _ (by omega)
            have hjc : j < (cut m.b).length := by omega
            have hgj : (cut m.b)[j]? = some (cut m.b)[j] := List.getElem?_eq_getElem hjc
            have l4 := rl25 (hg1.b.mem _ (List.getElem_mem hjc))
            simp only [nthA_0, nthA_s, asInt_i, bO_s, r1, a27, b27, d27, l3, hltj, decide_true, if_true, hI27 j (by omega), seeV_i, List.getElem?_drop, Nat.add_zero, hgj, l4]
            by_cases c5 : (rl (cut m.b)[j] : Int) > 40
            · simp only [c5, decide_true, if_true]
              exact .inl ⟨_, rfl, .inr rfl⟩
            · simp only [c5, decide_false, Bool.false_eq_true, if_false, hwj]
              refine .inr ⟨hjn, _, rfl, rfl, fun u h h' => ?_⟩
              by_cases hju : u < j
              · exact hu u h hju
              · have : u = j := by omega
                subst this; omega
          · have : j = rl m.b := by omega
            refine .inl ⟨(0, [a, .int .i64 (i : Int)], S), ?_, .inl ⟨rfl, fun c hc => ?_⟩⟩
            · have hltj : ¬ (j : Int) < rl m.b := by omega
              simp only [nthA_0, nthA_s, asInt_i, bO_s, r1, a27, b27, d27, l3, hltj, decide_false, Bool.false_eq_true, if_false]
            · obtain ⟨u, hu', rfl⟩ := List.getElem_of_mem hc
              exact hu u hu' (by omega)
        · rintro y (⟨rfl, h⟩ | rfl)
          · simp only [sel, nthA_0, nthA_s, asInt_i, hw]
            refine .inr ⟨hin, _, rfl, rfl, fun j h' h'' => ?_⟩
            by_cases hji : j < i
            · exact hs j h' hji
            · have : j = i := by omega
              subst this
              rw [hm]
              exact ⟨hg1.pre, hg1.r.small (by omega), hg1.v.small (by omega), hg1.b.small (by omega) fun c hc => by have := h c hc; omega⟩
          · simp only [sel, nthA_0, asBool_b]
            exact .inl ⟨_, rfl, .inr rfl⟩
      · have : i = ms.length := by omega
        subst this
        refine .inl ⟨(0, [], S), ?_, .inl ⟨rfl, fun m hm => ?_⟩⟩
        · simp only [nthA_0, nthA_s, asInt_i, ha.len, bO_s, Int.lt_irrefl, decide_false, Bool.false_eq_true, if_false]
        · obtain ⟨j, hj, rfl⟩ := List.getElem_of_mem hm
          exact hs j hj hj
    · rintro y (⟨rfl, h⟩ | rfl)
      · exact ⟨true, by simp only [sel, tr_same], fun _ => ⟨by omega, h⟩⟩
      · exact ⟨false, by simp only [sel, nthA_0, asBool_b, tr_same], fun h => by cases h⟩
end Go.Ab.tNearU

set_option maxRecDepth 100000
set_option linter.unusedSimpArgs false
set_option linter.unusedVariables false
set_option linter.unusedSectionVars false
namespace Go.Ab.tNearU
open Go Go.Proofs

-- what the arguments are
theorem c3 : Try.prog.cellsOf 3 = 1 := by kernel_rfl
theorem c5 : Try.prog.cellsOf 5 = 1 := by kernel_rfl
theorem c9 : Try.prog.cellsOf 9 = 1 := by kernel_rfl
theorem c23 : Try.prog.cellsOf 23 = 16 := by kernel_rfl
theorem c24 : Try.prog.cellsOf 24 = 4 := by kernel_rfl
theorem c25 : Try.prog.cellsOf 25 = 1 := by kernel_rfl
theorem c26 : Try.prog.cellsOf 26 = 1 := by kernel_rfl
theorem c27 : Try.prog.cellsOf 27 = 1 := by kernel_rfl
theorem c29 : Try.prog.cellsOf 29 = 29 := by kernel_rfl
theorem c92 : Try.prog.cellsOf 92 = 2 := by kernel_rfl
theorem one_of {l : List AV} {i : Nat} {c : AV} (h : List.take 1 (List.drop i l) = [c]) : l[i]? = some c := by
  have := congrArg (fun l => l[0]?) h
  simpa [List.getElem?_take_of_lt] using this
theorem of_one {l : List AV} {i : Nat} (h : i < l.length) : List.take 1 (List.drop i l) = [l[i]] := by
  rw [List.drop_eq_getElem_cons h]; rfl
theorem av5 {N F : Nat} {xs : List AV} (h : avOk Try.prog N (F + 1) 5 xs) : ∃ n : Int, xs = [.int .u8 n] ∧ 0 ≤ n ∧ n ≤ 255 := by
  unfold avOk at h
  rw [Try.underlying5] at h
  simp only at h
  obtain ⟨n, h1, h2⟩ := h
  exact ⟨n, h1, by simpa [Lit.wf, IntKind.min, IntKind.max, IntKind.signed, IntKind.bits] using h2⟩
theorem av3 {N F : Nat} {xs : List AV} (h : avOk Try.prog N (F + 1) 3 xs) : ∃ n : Int, xs = [.int .i64 n] ∧ -9223372036854775808 ≤ n ∧ n ≤ 9223372036854775807 := by
  unfold avOk at h
  rw [Try.underlying3] at h
  simp only at h
  obtain ⟨n, h1, h2⟩ := h
  exact ⟨n, h1, by simpa [Lit.wf, IntKind.min, IntKind.max, IntKind.signed, IntKind.bits] using h2⟩
theorem av9 {N F : Nat} {xs : List AV} (h : avOk Try.prog N (F + 1) 9 xs) : ∃ s, xs = [.str s] ∧ s.size ≤ N := by
  unfold avOk at h
  rw [show Try.prog.underlying 9 = some .string by kernel_rfl] at h
  exact h
theorem av25 {N F : Nat} {xs : List AV} (h : avOk Try.prog N (F + 2) 25 xs) : ∃ a, xs = [a] ∧ Row N 1 a := by
  unfold avOk at h
  rw [show Try.prog.underlying 25 = some (.slice 3) by kernel_rfl] at h
  simp only [c3, Nat.mul_one] at h
  obtain rfl | ⟨n, cs, rfl, h1, h2, h3⟩ := h
  · exact ⟨_, rfl, .inl rfl⟩
  · refine ⟨_, rfl, .inr ⟨n, cs, rfl, h1, by omega, fun c hc => ?_⟩⟩
    obtain ⟨i, hi, rfl⟩ := List.getElem_of_mem hc
    obtain ⟨v, hv, _⟩ := av3 (h3 i (by omega))
    rw [of_one hi] at hv
    exact ⟨v, by simpa using hv⟩
theorem av92 {N F : Nat} {xs : List AV} (h : avOk Try.prog N (F + 2) 92 xs) : ∃ x y : Int, xs = [.int .i64 x, .int .i64 y] := by
  unfold avOk at h
  obtain ⟨f1, f2, hS, o1, o2, t1, t2⟩ : ∃ f1 f2 : Field, Try.prog.underlying 92 = some (.struct #[f1, f2]) ∧ f1.offset = 0 ∧ f2.offset = 1 ∧ f1.type = 3 ∧ f2.type = 3 := by
    have hq : (match Try.prog.underlying 92 with | some (.struct fs) => fs.toList.map (fun f => (f.offset, f.type)) | _ => []) = [(0, 3), (1, 3)] := by kernel_rfl
    split at hq
    · rename_i fs hfs
      obtain ⟨l⟩ := fs
      match l, hq with
      | [f1, f2], hq =>
        simp only [List.map_cons, List.map_nil, List.cons.injEq, Prod.mk.injEq, and_true] at hq
        obtain ⟨⟨a2, a3⟩, b2, b3⟩ := hq
        exact ⟨f1, f2, hfs, a2, b2, a3, b3⟩
    · cases hq
  rw [hS] at h
  simp only [c92] at h
  obtain ⟨hl, hf⟩ := h
  have h1 := hf f1 (by simp)
  have h2 := hf f2 (by simp)
  rw [o1, t1, c3] at h1
  rw [o2, t2, c3] at h2
  obtain ⟨x, hx, _⟩ := av3 h1
  obtain ⟨y, hy, _⟩ := av3 h2
  refine ⟨x, y, ?_⟩
  match xs, hl with
  | [a, b], _ =>
    simp at hx hy
    rw [hx, hy]
theorem av26 {N F : Nat} {xs : List AV} (h : avOk Try.prog N (F + 3) 26 xs) : ∃ a, xs = [a] ∧ Row N 2 a := by
  unfold avOk at h
  rw [show Try.prog.underlying 26 = some (.slice 92) by kernel_rfl] at h
  simp only [c92] at h
  obtain rfl | ⟨n, cs, rfl, h1, h2, h3⟩ := h
  · exact ⟨_, rfl, .inl rfl⟩
  · refine ⟨_, rfl, .inr ⟨n, cs, rfl, h1, h2, fun c hc => ?_⟩⟩
    obtain ⟨i, hi, rfl⟩ := List.getElem_of_mem hc
    obtain ⟨x, y, hv⟩ := av92 (h3 (i / 2) (by omega))
    rw [List.drop_eq_getElem_cons (by omega), List.drop_eq_getElem_cons (by omega)] at hv
    simp only [List.take_succ_cons, List.take_zero, List.cons.injEq, and_true] at hv
    by_cases hp : i / 2 * 2 = i
    · exact ⟨x, by simp only [hp] at hv; exact hv.1⟩
    · have : i / 2 * 2 + 1 = i := by omega
      exact ⟨y, by simp only [this] at hv; exact hv.2⟩
theorem av27 {N F : Nat} {xs : List AV} (h : avOk Try.prog N (F + 3) 27 xs) : ∃ a, xs = [a] ∧ Rows N a := by
  unfold avOk at h
  rw [show Try.prog.underlying 27 = some (.slice 25) by kernel_rfl] at h
  simp only [c25, Nat.mul_one] at h
  obtain rfl | ⟨n, cs, rfl, h1, h2, h3⟩ := h
  · exact ⟨_, rfl, .inl rfl⟩
  · refine ⟨_, rfl, .inr ⟨n, cs, rfl, h1, by omega, fun c hc => ?_⟩⟩
    obtain ⟨i, hi, rfl⟩ := List.getElem_of_mem hc
    obtain ⟨v, hv, hr⟩ := av25 (h3 i (by omega))
    rw [of_one hi] at hv
    rw [List.singleton_inj.1 hv]
    exact hr
theorem map_of : ∀ {l : List AV}, (∀ c ∈ l, ∃ i : Int, c = .int .u8 i ∧ 0 ≤ i ∧ i ≤ 255) → ∃ is : List Int, l = is.map (AV.int .u8) ∧ ∀ i ∈ is, 0 ≤ i ∧ i ≤ 255
  | [], _ => ⟨[], rfl, by simp⟩
  | c :: l, h => by
    obtain ⟨i, rfl, hi⟩ := h c (by simp)
    obtain ⟨is, rfl, his⟩ := map_of (l := l) fun c hc => h c (by simp [hc])
    exact ⟨i :: is, rfl, fun j hj => by rcases List.mem_cons.1 hj with rfl | hj; exact hi; exact his j hj⟩
theorem av29 {N F : Nat} {xs : List AV} (h : avOk Try.prog N (F + 4) 29 xs) : ∃ m : M, xs = m.cells ∧ Good N m ∧ (∀ i ∈ m.pre, 0 ≤ i ∧ i ≤ 255) ∧ (0 ≤ m.cb ∧ m.cb ≤ 255) ∧ (-9223372036854775808 ≤ m.qp ∧ m.qp ≤ 9223372036854775807) ∧ m.s.size ≤ N := by
  unfold avOk at h
  rw [Try.underlying29] at h
  simp only [c29] at h
  obtain ⟨hl, hf⟩ := h
  simp only [List.mem_toArray, List.mem_cons, List.not_mem_nil, or_false, forall_eq_or_imp, forall_eq, c5, c23, c24, c25, c26, c27, c3, c9] at hf
  obtain ⟨g0, g1, g2, g3, g4, g5, g6, g7, g8, g9, g10⟩ := hf
  obtain ⟨n0, e0, i0⟩ := av5 g0
  obtain ⟨n1, e1, i1⟩ := av5 g1
  obtain ⟨n2, e2, i2⟩ := av5 g2
  obtain ⟨r, e5, i5⟩ := av25 g5
  obtain ⟨v, e6, i6⟩ := av26 g6
  obtain ⟨cb, e7, i7⟩ := av5 g7
  obtain ⟨qp, e8, i8⟩ := av3 g8
  obtain ⟨b, e9, i9⟩ := av27 g9
  obtain ⟨s, e10, i10⟩ := av9 g10
  unfold avOk at g3 g4
  rw [show Try.prog.underlying 23 = some (.array 16 5) by kernel_rfl] at g3
  rw [show Try.prog.underlying 24 = some (.array 4 5) by kernel_rfl] at g4
  simp only [c5, Nat.mul_one] at g3 g4
  have hpre : ∀ c ∈ xs.take 23, ∃ i : Int, c = .int .u8 i ∧ 0 ≤ i ∧ i ≤ 255 := by
    intro c hc
    obtain ⟨j, hj, rfl⟩ := List.getElem_of_mem hc
    simp only [List.length_take] at hj
    have hj' : j < xs.length := by omega
    have hc : ∀ n, xs[j]? = some (AV.int .u8 n) → (xs.take 23)[j]'(by simp; omega) = .int .u8 n := fun n h => by
      rw [List.getElem_take]
      rw [List.getElem?_eq_getElem hj'] at h
      exact Option.some.inj h
    by_cases h0 : j = 0
    · subst h0; exact ⟨n0, hc _ (one_of e0), i0⟩
    by_cases h1 : j = 1
    · subst h1; exact ⟨n1, hc _ (one_of e1), i1⟩
    by_cases h2 : j = 2
    · subst h2; exact ⟨n2, hc _ (one_of e2), i2⟩
    by_cases h3 : j < 19
    · obtain ⟨n, e, i⟩ := av5 (g3.2 (j - 3) (by omega))
      rw [List.drop_take, List.take_take, List.drop_drop, Nat.min_eq_left (by omega)] at e
      have := one_of e
      rw [show 3 + (j - 3) = j by omega] at this
      exact ⟨n, hc _ this, i⟩
    · obtain ⟨n, e, i⟩ := av5 (g4.2 (j - 19) (by omega))
      rw [List.drop_take, List.take_take, List.drop_drop, Nat.min_eq_left (by omega)] at e
      have := one_of e
      rw [show 19 + (j - 19) = j by omega] at this
      exact ⟨n, hc _ this, i⟩
  obtain ⟨is, his, hir⟩ := map_of hpre
  have hil : is.length = 23 := by have := congrArg List.length his; simp at this; omega
  refine ⟨⟨is, r, v, cb, qp, b, s⟩, ?_, ⟨hil, i5, i6, i9⟩, hir, i7, i8, i10⟩
  have e : xs = xs.take 23 ++ xs.drop 23 := (List.take_append_drop 23 xs).symm
  rw [e, his]
  simp only [M.cells]
  congr 1
  refine List.ext_getElem? fun j => ?_
  rw [List.getElem?_drop]
  match j with
  | 0 => exact one_of e5
  | 1 => exact one_of e6
  | 2 => exact one_of e7
  | 3 => exact one_of e8
  | 4 => exact one_of e9
  | 5 => exact one_of e10
  | j + 6 => rw [List.getElem?_eq_none (by omega)]; simp
theorem mbs_of {Q : M → Prop} {R : List AV → Prop} (hR : ∀ l, R l → ∃ m : M, l = m.cells ∧ Q m) : ∀ (n : Nat) (cs : List AV), cs.length = n * 29 → (∀ i, i < n → R (List.take 29 (List.drop (i * 29) cs))) → ∃ ms : List M, ms.length = n ∧ cs = flat ms ∧ ∀ m ∈ ms, Q m
  | 0, cs, hl, _ => ⟨[], rfl, List.length_eq_zero_iff.1 (by omega), by simp⟩
  | n + 1, cs, hl, h => by
    obtain ⟨m, e, hm⟩ := hR _ (h 0 (by omega))
    obtain ⟨ms, h1, h2, h3⟩ := mbs_of hR n (cs.drop 29) (by simp; omega) fun i hi => by
      have := h (i + 1) (by omega)
      rw [List.drop_drop]
      rw [show 29 + i * 29 = (i + 1) * 29 by omega]
      exact this
    refine ⟨m :: ms, by simp [h1], ?_, fun x hx => by rcases List.mem_cons.1 hx with rfl | hx; exact hm; exact h3 x hx⟩
    rw [Nat.zero_mul, List.drop_zero] at e
    rw [← List.take_append_drop 29 cs, e, h2]
    rfl
/-- What is known of each macroblock that is an argument. -/
structure Arg (m : M) : Prop where
  good : Good maxLen m
  pre : ∀ i ∈ m.pre, 0 ≤ i ∧ i ≤ 255
  cb : 0 ≤ m.cb ∧ m.cb ≤ 255
  qp : -9223372036854775808 ≤ m.qp ∧ m.qp ≤ 9223372036854775807
  s : m.s.size ≤ maxLen
theorem av22 {F : Nat} {xs : List AV} (h : avOk Try.prog maxLen (F + 5) 22 xs) : ∃ a ms, xs = [a] ∧ (∀ S, Rd S a ms) ∧ ms.length ≤ maxLen ∧ (∀ m ∈ ms, Arg m) ∧ noId a = true := by
  unfold avOk at h
  rw [Try.underlying22] at h
  simp only [c29] at h
  obtain rfl | ⟨n, cs, rfl, h1, h2, h3⟩ := h
  · exact ⟨_, [], rfl, fun S => .inl ⟨rfl, rfl⟩, Nat.zero_le _, by simp, rfl⟩
  · obtain ⟨ms, e1, e2, e3⟩ := mbs_of (Q := Arg) (R := avOk Try.prog maxLen (F + 4) 29) (fun l hl => by
      obtain ⟨m, a1, a2, a3, a4, a5, a6⟩ := av29 hl
      exact ⟨m, a1, a2, a3, a4, a5, a6⟩) n cs h2 h3
    subst e1 e2
    refine ⟨_, ms, rfl, fun S => .inr (.inl rfl), h1, e3, ?_⟩
    simp only [Go.Ab.noId]
    refine noIdL_all fun c hc => ?_
    obtain ⟨m, hm, hc⟩ := List.mem_flatMap.1 hc
    have hg := (e3 m hm).good
    simp only [M.cells, List.mem_append, List.mem_map, List.mem_cons, List.not_mem_nil, or_false] at hc
    rcases hc with ⟨i, _, rfl⟩ | rfl | rfl | rfl | rfl | rfl | rfl
    · rfl
    · exact hg.r.noId
    · exact hg.v.noId
    · rfl
    · rfl
    · exact hg.b.noId
    · rfl
theorem arg3 {a : AV} (h : argOk Try.prog maxLen 16 3 a) : ∃ n : Int, a = .int .i64 n ∧ -9223372036854775808 ≤ n ∧ n ≤ 9223372036854775807 := by
  unfold argOk at h
  rw [Try.underlying3] at h
  obtain ⟨n, h1, h2⟩ := av3 h
  exact ⟨n, by simpa using h1, h2⟩
theorem arg22 {a : AV} (h : argOk Try.prog maxLen 16 22 a) : ∃ ms, (∀ S, Rd S a ms) ∧ ms.length ≤ maxLen ∧ (∀ m ∈ ms, Arg m) := by
  unfold argOk at h
  rw [Try.underlying22] at h
  obtain ⟨a', ms, h1, h2, h3, h4, _⟩ := av22 (F := 11) h
  cases h1
  exact ⟨ms, h2, h3, h4⟩
theorem arg29 {a : AV} (h : argOk Try.prog maxLen 16 29 a) : ∃ m : M, a = .agg m.cells ∧ Arg m := by
  unfold argOk at h
  rw [Try.underlying29] at h
  obtain ⟨cs, rfl, h⟩ := h
  obtain ⟨m, a1, a2, a3, a4, a5, a6⟩ := av29 (F := 12) h
  exact ⟨m, by rw [a1], a2, a3, a4, a5, a6⟩
end Go.Ab.tNearU

set_option maxRecDepth 100000
set_option linter.unusedSimpArgs false
set_option linter.unusedVariables false
set_option linter.unusedSectionVars false
namespace Go.Ab.tNearU
open Go Go.Proofs

/-- What is known beforehand: the chapter's small example, computed by the kernel. -/
noncomputable def Bk : CallF := fun f _ xs S => if f = f_spindlelaw14_awake ∧ xs = [] then locC (tabN (rows (ctlF 1000)) 60) f_spindlelaw14_awake 0 [] S else none
def isTrue : Option (AV × Heap) → Bool
  | some (.bool true, _) => true
  | _ => false
theorem awake_computed : isTrue (tabN (rows (ctlF 1000)) 60 f_spindlelaw14_awake 0 [] S0) = true := by kernel_rfl
theorem mixed : Try.prog.follows .mixedOrders = true := by kernel_rfl
theorem noG : ∀ (i : Nat) (cs : List AV), (fun _ => none : Nat → Option (List AV)) i = some cs → noIdL cs = true := fun _ _ h => by cases h
theorem Bk_ok : NOk Try.prog (fun _ => none) Bk := by
  have h0 := locC_ok noG (tabN_ok (rngC_ok (ctlF_ok 1000)) mixed (rows (ctlF 1000)) 60)
  refine ⟨fun f way args S r hlt h => ?_, fun f way args S h => ?_⟩
  · unfold Bk at h
    split at h
    · rename_i hc
      obtain ⟨rfl, rfl⟩ := hc
      exact h0.ok _ _ _ _ _ hlt h
    · cases h
  · unfold Bk
    rw [if_neg]
    rintro ⟨rfl, _⟩
    exact absurd h (by decide)
theorem Bk_silent : Silent Bk := fun f way args S h => by
  unfold Bk
  rw [if_neg fun hc => h hc.1]
theorem Bk_awake (S : Heap) : Bk f_spindlelaw14_awake 0 [] S = some (.bool true, S) := by
  unfold Bk
  rw [if_pos ⟨rfl, rfl⟩]
  have h := awake_computed
  unfold isTrue at h
  split at h
  · rename_i S' hs
    have hn : noIdL ([] : List AV) = true := rfl
    unfold locC
    rw [if_pos hn, hs]
    rfl
  · cases h
theorem Cn_ok (k : Nat) : NOk Try.prog (fun _ => none) (Cn Bk k) := callN_ok (rngC_ok ctlW_ok) mixed noG An Bk_ok k
theorem awake_c (k : Nat) (S : Heap) : Cn Bk k f_spindlelaw14_awake 0 [] S = some (.bool true, S) := by
  cases k with
  | zero => exact Bk_awake S
  | succ k => simp only [Cn, callN, Bk_awake]

theorem neq4 (x y : Bool) : aBin Try.prog .neq 4 (.bool x) (.bool y) = some (.bool (x != y)) := by cases x <;> cases y <;> kernel_rfl
theorem eql4 (x y : Bool) : aBin Try.prog .eql 4 (.bool x) (.bool y) = some (.bool (x == y)) := by cases x <;> cases y <;> kernel_rfl
theorem fa_at {fi a : Int} {ms : List M} (i : Nat) (hi : i < ms.length) (ha : a = fi + i) : fa fi ms a = (ms[i], true) := by
  subst ha
  unfold fa
  rw [dif_pos (by omega)]
  have : (fi + (i : Int) - fi).toNat = i := by omega
  simp only [this]
theorem fa_no {fi a : Int} {ms : List M} (h : ¬ (fi ≤ a ∧ a < fi + ms.length)) : fa fi ms a = (zM, false) := by
  unfold fa
  rw [dif_neg h]
theorem places_law (k : Nat) {a : AV} {ms : List M} (ha : ∀ S, Rd S a ms) (hl : ms.length ≤ maxLen) (hA : ∀ m ∈ ms, Arg m) (fi w : Int) (hfi : -9223372036854775808 ≤ fi ∧ fi ≤ 9223372036854775807) :
    ∃ S', Cn Bk (k + 7) f_spindlelaw14_NearPlaces 0 [.int .i64 fi, .int .i64 w, a] S0 = some (.bool true, S') := by
  have hB := Bk_silent
  rw [c_spindlelaw14_NearPlaces _ _ _ _ _ _ (hB _ _ _ _ (by decide)), T_spindlelaw14_NearPlaces]
  obtain ⟨b, hb, hbt⟩ := few_c hB (k + 5) (ha S0) (fun m hm => (hA m hm).good) hl 40
  simp only [asInt_i, hb, bO_s, asBool_b]
  cases b with
  | false => exact some_tr _ _ _
  | true =>
    obtain ⟨hn40, hg60⟩ := hbt rfl
    have hg : ∀ m ∈ ms, Good 1000 m := fun m hm => (hg60 m hm).mono (by omega)
    have hlen : ∀ S, aLen Try.prog 22 a = some (.int .i64 ms.length) := fun S => (ha S).len
    rcases made_c hB (k + 2) (ha S0) hg (by omega) (fi := fi) (w := w) with ⟨⟨hf, hw, hm⟩, T, q, hmade, hO, hT, _⟩ | ⟨hno, hmade⟩
    · have hns : (ms.map M.norm).length = ms.length := List.length_map ..
      have e1 := left_c hB (k + 2) hO
      have e2 := above_c hB (k + 2) hO
      have e3 := last_c hB (k + 2) hO
      have e4 := next_c hB (k + 5) hO
      have e5 := mbs_c hB (k + 3) hO
      have hgn : ∀ m ∈ ms.map M.norm, Good 1000 m := fun m hm => (hO.good m hm).1
      have hsim : ∀ i (h : i < (ms.map M.norm).length) (h' : i < ms.length), Sim (ms.map M.norm)[i] ms[i] := fun i h h' => by
        rw [List.getElem_map]; exact (hg _ (List.getElem_mem h')).sim
      have e6 := equalMbs_c hB (k + 2) (S := T) (a := .is (ms.map M.norm).length (flat (ms.map M.norm))) (.inr (.inl rfl)) (ha T) hgn hg hns (by omega) hsim
      have e7 : ∀ i (h : i < ms.length), Cn Bk (k + 6) f_spindlekit_EqualMb 0 [.agg ms[i].norm.cells, .agg ms[i].cells] T = some (.bool true, T) := fun i h =>
        equalMb_c hB (k + 3) (hg _ (List.getElem_mem h)).norm (hg _ (List.getElem_mem h)) (hg _ (List.getElem_mem h)).sim T
      have e8 := awake_c (k + 6) T
      have h1 : ¬ (w < 1) := by omega
      have hw0 : w ≠ 0 := by omega
      have hwn : IntKind.wrap .i64 (fi + ms.length) = fi + ms.length := wr _ (by omega)
      rw [hns] at e2 e3 e4 e5 e6
      unfold lf at e1
      rw [hns] at e1
      by_cases hn0 : ms.length = 0
      · have hc : ¬ ((ms.length : Int) > 0) := by omega
        have hc2 : ¬ ((ms.length : Int) ≥ w) := by omega
        have f1 : (if (fi + (ms.length : Int)).tmod w = 0 then (zM, false) else fa fi (ms.map M.norm) (fi + (ms.length : Int) - 1)) = (zM, false) := by
          split
          · rfl
          · exact fa_no (by rw [hns]; omega)
        rw [f1] at e1
        rw [fa_no (by rw [hns]; omega)] at e2 e3
        simp only [asInt_i, bO_s, asBool_b, Bool.not_true, Bool.not_false, Bool.false_eq_true, if_false, if_true, hmade, eql_ptr, eql_nilp, h1, decide_false, decide_true, e1, e2, e3, e4, e5, e6, e8, pair, asTup_a, asCons_c, asAgg_a, ← zM_cells, M.len (m := zM) rfl, M.z0 (m := zM) rfl, M.t29 (m := zM) rfl, zM_good.cell, beq_self_eq_true, bne_self_eq_false, gB_t, Nat.zero_add, Nat.le_refl, List.drop_zero, hlen T, same_nil, same_see, rem64 _ _ hw0, neq4, nthA_0, nthA_s, hwn, hc, hc2]
        exact some_tr _ _ _
      · have hl1 : ms.length - 1 < ms.length := by omega
        have hc : (ms.length : Int) > 0 := by omega
        obtain ⟨t1, cs1, o1, r1, r2, r3, r4⟩ := (ha T).at (Pre.of hg) hl1
        have gl := (hg _ (List.getElem_mem hl1)).norm
        have hwl : IntKind.wrap .i64 ((ms.length : Int) - 1) = ((ms.length - 1 : Nat) : Int) := by rw [wr _ (by omega)]; omega
        have hfa : fa fi (ms.map M.norm) (fi + (ms.length : Int) - 1) = (ms[ms.length - 1].norm, true) := by
          rw [fa_at (ms.length - 1) (by omega) (by omega), List.getElem_map]
        rw [hfa] at e1 e3
        by_cases hz : (fi + (ms.length : Int)).tmod w = 0
        · rw [if_pos hz] at e1
          by_cases hc2 : (ms.length : Int) ≥ w
          · obtain ⟨wn, hwn'⟩ := Int.eq_ofNat_of_zero_le (show 0 ≤ w by omega)
            have hl2 : ms.length - wn < ms.length := by omega
            obtain ⟨t2, cs2, o2, u1, u2, u3, u4⟩ := (ha T).at (Pre.of hg) hl2
            have ga := (hg _ (List.getElem_mem hl2)).norm
            have hwa : IntKind.wrap .i64 ((ms.length : Int) - w) = ((ms.length - wn : Nat) : Int) := by rw [wr _ (by omega)]; omega
            rw [fa_at (ms.length - wn) (by omega) (by omega), List.getElem_map] at e2
            simp only [asInt_i, bO_s, asBool_b, Bool.not_true, Bool.not_false, Bool.false_eq_true, if_false, if_true, hmade, eql_ptr, eql_nilp, h1, decide_false, decide_true, e1, e2, e3, e4, e5, e6, e8, pair, asTup_a, asCons_c, asAgg_a, ← zM_cells, M.len (m := zM) rfl, M.z0 (m := zM) rfl, M.t29 (m := zM) rfl, zM_good.cell, beq_self_eq_true, bne_self_eq_false, gB_t, Nat.zero_add, Nat.le_refl, List.drop_zero, hlen T, same_nil, same_see, rem64 _ _ hw0, neq4, nthA_0, nthA_s, hwn, hc, M.len gl.pre, M.z0 gl.pre, M.t29 gl.pre, gl.cell, hwl, r1, r2, r3, r4, e7 _ hl1, M.len ga.pre, M.z0 ga.pre, M.t29 ga.pre, ga.cell, hwa, u1, u2, u3, u4, e7 _ hl2, hc2, hz]
            exact some_tr _ _ _
          · rw [fa_no (by rw [hns]; omega)] at e2
            simp only [asInt_i, bO_s, asBool_b, Bool.not_true, Bool.not_false, Bool.false_eq_true, if_false, if_true, hmade, eql_ptr, eql_nilp, h1, decide_false, decide_true, e1, e2, e3, e4, e5, e6, e8, pair, asTup_a, asCons_c, asAgg_a, ← zM_cells, M.len (m := zM) rfl, M.z0 (m := zM) rfl, M.t29 (m := zM) rfl, zM_good.cell, beq_self_eq_true, bne_self_eq_false, gB_t, Nat.zero_add, Nat.le_refl, List.drop_zero, hlen T, same_nil, same_see, rem64 _ _ hw0, neq4, nthA_0, nthA_s, hwn, hc, M.len gl.pre, M.z0 gl.pre, M.t29 gl.pre, gl.cell, hwl, r1, r2, r3, r4, e7 _ hl1, hc2, hz]
            exact some_tr _ _ _
        · rw [if_neg hz] at e1
          have hz' : ((fi + (ms.length : Int)).tmod w != 0) = true := by simp [hz]
          by_cases hc2 : (ms.length : Int) ≥ w
          · obtain ⟨wn, hwn'⟩ := Int.eq_ofNat_of_zero_le (show 0 ≤ w by omega)
            have hl2 : ms.length - wn < ms.length := by omega
            obtain ⟨t2, cs2, o2, u1, u2, u3, u4⟩ := (ha T).at (Pre.of hg) hl2
            have ga := (hg _ (List.getElem_mem hl2)).norm
            have hwa : IntKind.wrap .i64 ((ms.length : Int) - w) = ((ms.length - wn : Nat) : Int) := by rw [wr _ (by omega)]; omega
            rw [fa_at (ms.length - wn) (by omega) (by omega), List.getElem_map] at e2
            simp only [asInt_i, bO_s, asBool_b, Bool.not_true, Bool.not_false, Bool.false_eq_true, if_false, if_true, hmade, eql_ptr, eql_nilp, h1, decide_false, decide_true, e1, e2, e3, e4, e5, e6, e8, pair, asTup_a, asCons_c, asAgg_a, ← zM_cells, M.len (m := zM) rfl, M.z0 (m := zM) rfl, M.t29 (m := zM) rfl, zM_good.cell, beq_self_eq_true, bne_self_eq_false, gB_t, Nat.zero_add, Nat.le_refl, List.drop_zero, hlen T, same_nil, same_see, rem64 _ _ hw0, neq4, nthA_0, nthA_s, hwn, hc, M.len gl.pre, M.z0 gl.pre, M.t29 gl.pre, gl.cell, hwl, r1, r2, r3, r4, e7 _ hl1, M.len ga.pre, M.z0 ga.pre, M.t29 ga.pre, ga.cell, hwa, u1, u2, u3, u4, e7 _ hl2, hc2, hz']
            exact some_tr _ _ _
          · rw [fa_no (by rw [hns]; omega)] at e2
            simp only [asInt_i, bO_s, asBool_b, Bool.not_true, Bool.not_false, Bool.false_eq_true, if_false, if_true, hmade, eql_ptr, eql_nilp, h1, decide_false, decide_true, e1, e2, e3, e4, e5, e6, e8, pair, asTup_a, asCons_c, asAgg_a, ← zM_cells, M.len (m := zM) rfl, M.z0 (m := zM) rfl, M.t29 (m := zM) rfl, zM_good.cell, beq_self_eq_true, bne_self_eq_false, gB_t, Nat.zero_add, Nat.le_refl, List.drop_zero, hlen T, same_nil, same_see, rem64 _ _ hw0, neq4, nthA_0, nthA_s, hwn, hc, M.len gl.pre, M.z0 gl.pre, M.t29 gl.pre, gl.cell, hwl, r1, r2, r3, r4, e7 _ hl1, hc2, hz']
            exact some_tr _ _ _
    · simp only [Bool.not_true, Bool.false_eq_true, if_false, hmade, bO_s, eql_nilp, asBool_b, if_true]
      by_cases k1 : fi < 0
      · simp only [k1, decide_true, if_true, bO_s, nthA_0, asBool_b]; exact some_tr _ _ _
      by_cases k2 : w < 1
      · simp only [k1, k2, decide_true, decide_false, Bool.false_eq_true, if_false, if_true, bO_s, nthA_0, asBool_b]; exact some_tr _ _ _
      by_cases k3 : w > 128
      · simp only [k1, k2, k3, decide_true, decide_false, Bool.false_eq_true, if_false, if_true, bO_s, nthA_0, asBool_b]; exact some_tr _ _ _
      by_cases k4 : IntKind.wrap .i64 (fi + ms.length) > 8160
      · simp only [k1, k2, k3, hlen S0, asInt_i, k4, decide_true, decide_false, Bool.false_eq_true, if_false, if_true, bO_s, nthA_0, asBool_b]; exact some_tr _ _ _
      have k5 : fi ≥ 8160 := by
        by_cases h : fi ≥ 8160
        · exact h
        · exfalso
          rw [wr _ (by omega)] at k4
          exact hno ⟨⟨by omega, by omega⟩, ⟨by omega, by omega⟩, by omega⟩
      simp only [k1, k2, k3, hlen S0, asInt_i, k4, k5, decide_true, decide_false, Bool.false_eq_true, if_false, if_true, bO_s, nthA_0, asBool_b]; exact some_tr _ _ _
end Go.Ab.tNearU

set_option maxRecDepth 100000
set_option linter.unusedSimpArgs false
set_option linter.unusedVariables false
set_option linter.unusedSectionVars false
namespace Go.Ab.tNearU
open Go Go.Proofs

/-- Two slices with the same macroblocks, apart. -/
structure Two (S : Heap) (p q p' q' : Nat) (fi w : Int) (ms : List M) : Prop where
  a : Obj S p q fi w ms
  b : Obj S p' q' fi w ms
  ne : p ≠ p'
  nq : ms ≠ [] → q ≠ p' ∧ q' ≠ p ∧ q ≠ q'
theorem Two.add {S : Heap} {p q p' q' : Nat} {fi w : Int} {ms : List M} (h : Two S p q p' q' fi w ms) {m : M} (hg : Good 1000 m ∧ m.norm = m) (hm : fi + ms.length < 8160) :
    let T := addH S p q fi w ms m
    Obj T p' q' fi w ms ∧ Two (addH T p' q' fi w ms m) p S.next p' T.next fi w (ms ++ [m]) := by
  intro T
  have O1 : Obj T p S.next fi w (ms ++ [m]) := addH_obj h.a hg hm
  have tn : T.next = S.next + 1 := addH_next h.a
  have lp := h.a.lp
  have lp' := h.b.lp
  have O1' : Obj T p' q' fi w ms := h.b.keep (by omega) (addH_other h.a lp' (Ne.symm h.ne) fun h0 => Ne.symm (h.nq h0).1) fun h0 => addH_other h.a (h.b.lq h0) (h.nq h0).2.1 fun h0 => Ne.symm (h.nq h0).2.2
  refine ⟨O1', ?_⟩
  have O2 := addH_obj O1' hg hm
  have un : (addH T p' q' fi w ms m).next = T.next + 1 := addH_next O1'
  have O2' : Obj (addH T p' q' fi w ms m) p S.next fi w (ms ++ [m]) := O1.keep (by omega) (addH_other O1' (by omega) h.ne fun h0 => Ne.symm (h.nq h0).2.1)
    fun _ => addH_other O1' (by omega) (by omega) fun h0 => by have := h.b.lq h0; omega
  exact ⟨O2', O2, h.ne, fun _ => ⟨by omega, by omega, by omega⟩⟩
theorem same_c {B : CallF} (hB : Silent B) (k : Nat) {S : Heap} {p q p' q' : Nat} {fi w : Int} {ms : List M} (h : Obj S p q fi w ms) (h' : Obj S p' q' fi w ms) :
    Cn B (k + 6) f_spindlelaw14_same 0 [.ptr p 0, .ptr p' 0] S = some (.bool true, S) := by
  rw [c_spindlelaw14_same _ _ _ _ _ (hB _ _ _ _ (by decide)), T_spindlelaw14_same]
  have hg : ∀ m ∈ ms, Good 1000 m := fun m hm => (h.good m hm).1
  have e1 := left_c hB (k + 1) h
  have e2 := left14_c hB k h'
  have e3 := above_c hB (k + 1) h
  have e4 := above14_c hB k h'
  have e5 := last_c hB (k + 1) h
  have e6 := last14_c hB k h'
  have e7 := next_c hB (k + 4) h
  have e8 := next14_c hB (k + 4) h'
  have e9 := mbs_c hB (k + 2) h
  have e10 := equalMbs_c hB (k + 1) (S := S) (a := .is ms.length (flat ms)) (.inr (.inl rfl)) h'.rd hg hg rfl (by have := h.hm; have := h.hf; omega) (fun i h1 h2 => Sim.refl _)
  obtain ⟨g1, _⟩ := lf_good (fi := fi) (w := w) h.good
  obtain ⟨g2, _⟩ := fa_good (fi := fi) h.good (fi + ms.length - w)
  obtain ⟨g3, _⟩ := fa_good (fi := fi) h.good (fi + ms.length - 1)
  generalize lf fi w ms = x1 at e1 e2 g1
  generalize fa fi ms (fi + ms.length - w) = x2 at e3 e4 g2
  generalize fa fi ms (fi + ms.length - 1) = x3 at e5 e6 g3
  have m1 := equalMb_c hB (k + 2) g1 g1 (Sim.refl _) S
  have m2 := equalMb_c hB (k + 2) g2 g2 (Sim.refl _) S
  have m3 := equalMb_c hB (k + 2) g3 g3 (Sim.refl _) S
  simp only [e1, e2, e3, e4, e5, e6, e7, e8, e9, pair, bO_s, asTup_a, asCons_c, asAgg_a, asBool_b, asInt_i, ← zM_cells, M.len g1.pre, M.len g2.pre, M.len g3.pre, beq_self_eq_true, g1.cell, g2.cell, g3.cell, gB_t, Nat.zero_add, Nat.le_refl, decide_true, M.z0 g1.pre, M.z0 g2.pre, M.z0 g3.pre, List.drop_zero, M.t29 g1.pre, M.t29 g2.pre, M.t29 g3.pre, m1, m2, m3, same_nil, same_see, if_true, eql4, addV_p, seeV_p, h'.blk, List.getElem?_cons_zero, List.getElem?_cons_succ, e10, tr_same]
theorem arg_cases {a : AV} {ms : List M} (ha : ∀ S, Rd S a ms) : (a = .nils ∧ ms = []) ∨ a = .is ms.length (flat ms) := by
  rcases ha S0 with h | h | ⟨q, h1, h2, h3⟩
  · exact .inl h
  · exact .inr h
  · exact absurd h3 (Nat.not_lt_zero _)
theorem ix_is {ms : List M} (hp : Pre ms) {i : Nat} (hi : i < ms.length) : aIdx 29 (.is ms.length (flat ms)) (i : Int) = some (.iptr ((flat ms).drop (i * 29))) ∧ 29 ≤ ((flat ms).drop (i * 29)).length ∧ List.take 29 ((flat ms).drop (i * 29)) = ms[i].cells := by
  have hl := flat_len hp
  exact ⟨by simp [aIdx, hi], by rw [List.length_drop]; omega, flat_at hp hi⟩
theorem same_ii (c c' : List AV) (S T U V : Heap) : ctlW.same [.see (.iptr c) S T, .see (.iptr c') U V] = true := same_see2 rfl rfl
theorem matches_law (k : Nat) {a : AV} {ms : List M} (ha : ∀ S, Rd S a ms) (hl : ms.length ≤ maxLen) (hA : ∀ m ∈ ms, Arg m) (fi w : Int) :
    ∃ S', Cn Bk (k + 8) f_spindlelaw14_NearMatches 0 [.int .i64 fi, .int .i64 w, a] S0 = some (.bool true, S') := by
  have hB := Bk_silent
  rw [c_spindlelaw14_NearMatches _ _ _ _ _ _ (hB _ _ _ _ (by decide)), T_spindlelaw14_NearMatches]
  obtain ⟨b, hb, hbt⟩ := few_c hB (k + 6) (ha S0) (fun m hm => (hA m hm).good) hl 40
  simp only [asInt_i, hb, bO_s, asBool_b]
  cases b with
  | false => exact some_tr _ _ _
  | true =>
    obtain ⟨hn40, hg60⟩ := hbt rfl
    have hg : ∀ m ∈ ms, Good 1000 m := fun m hm => (hg60 m hm).mono (by omega)
    have hlen : ∀ S, aLen Try.prog 22 a = some (.int .i64 ms.length) := fun S => (ha S).len
    by_cases hv : (0 ≤ fi ∧ fi < 8160) ∧ 1 ≤ w ∧ w ≤ 128
    · obtain ⟨S1, hS1⟩ : ∃ S1, S1 = S0.alloc [.int .i64 fi, .int .i64 w, .nils] := ⟨_, rfl⟩
      obtain ⟨S2, hS2⟩ : ∃ S2, S2 = S1.alloc [.int .i64 fi, .int .i64 w, .nils] := ⟨_, rfl⟩
      have n1 := new_ok hB (k + 6) hv.1 hv.2 S0
      have n2 := new14_ok hB (k + 6) hv.1 hv.2 S1
      rw [← hS1] at n1
      rw [← hS2] at n2
      have p1 : S0.next = 0 := rfl
      have p2 : S1.next = 1 := by rw [hS1]; rfl
      rw [p1] at n1
      rw [p2] at n2
      have O1 : Obj S1 0 5 fi w [] := by have := new_obj hv.1 hv.2 S0 5; rw [← hS1, p1] at this; exact this
      have O2 : Obj S2 1 6 fi w [] := by have := new_obj hv.1 hv.2 S1 6; rw [← hS2, p2] at this; exact this
      have O1' : Obj S2 0 5 fi w [] := O1.keep (by rw [hS2, alloc_next]; omega) (by rw [hS2, alloc_other _ _ (by omega)]) (fun h => absurd rfl h)
      have T0 : Two S2 0 5 1 6 fi w [] := ⟨O1', O2, by omega, fun h => absurd rfl h⟩
      simp only [n1, n2, asInt_i, bO_s, asTup_a, asCons_c, asBool_b, Bool.not_true, Bool.false_eq_true, if_false, bne_self_eq_false, eql_ptr, eql_ptr46, neq4, nthA_0, nthA_s]
      obtain ⟨c, hc⟩ : ∃ c : Nat, c = (8160 - fi).toNat := ⟨_, rfl⟩
      refine loop_ex (fun (o : Option (AV × Heap)) => ∃ S', o = some (.bool true, S'))
        (fun i s => ∃ T q q', s = ([a, .ptr 0 0, .ptr 1 0, .int .i64 (i : Int)], T) ∧ Two T 0 q 1 q' fi w ((ms.take (min i c)).map M.norm))
        (fun y => ∃ T q q', y = (0, [.ptr 0 0, .ptr 1 0], T) ∧ Two T 0 q 1 q' fi w ((ms.take (min ms.length c)).map M.norm)) ms.length ⟨S2, 5, 6, rfl, by simpa using T0⟩ ?_ ?_
      · rintro i s hi ⟨T, q, q', rfl, hT⟩
        by_cases hin : i < ms.length
        · refine .inr ⟨hin, ?_⟩
          have hlt : (i : Int) < ms.length := by omega
          have hw : IntKind.wrap .i64 ((i : Int) + 1) = ((i + 1 : Nat) : Int) := by rw [wr _ (by omega)]; omega
          rcases arg_cases ha with ⟨_, h0⟩ | hais
          · rw [h0] at hin; exact absurd hin (Nat.not_lt_zero _)
          obtain ⟨r1, r2, r3⟩ := ix_is (Pre.of hg) hin
          have hg1 := hg _ (List.getElem_mem hin)
          have s1 := same_c hB (k + 1) hT.a hT.b
          have hcp := copyMb_c hB (k + 4) hg1 T
          have hln : ((ms.take (min i c)).map M.norm).length = min i c := by simp; omega
          by_cases hic : i < c
          · have hmin : min i c = i := by omega
            have hmin2 : min (i + 1) c = i + 1 := by omega
            rw [hmin] at hT hln
            have hm : fi + ((ms.take i).map M.norm).length < 8160 := by rw [hln]; omega
            have gn : Good 1000 ms[i].norm ∧ ms[i].norm.norm = ms[i].norm := ⟨hg1.norm, norm_norm _⟩
            have a1 := add_c hT.a gn hm hB (k + 4)
            obtain ⟨O3, hT2⟩ := hT.add gn hm
            have a2 := add14_c O3 gn hm hB (k + 3) hg1 rfl
            rw [hmin2, List.take_add_one, List.getElem?_eq_getElem hin, Option.toList_some, List.map_append]
            refine ⟨_, ?_, _, _, _, rfl, hT2⟩
            simp only [nthA_0, nthA_s, asInt_i, hlen T, bO_s, hlt, decide_true, if_true, s1, asBool_b, same_nil, gB_t, Bool.not_true, Bool.false_eq_true, if_false]
            subst hais
            simp only [r1, seeV_i, bO_s, Nat.zero_add, r2, decide_true, gB_t, List.drop_zero, r3, hcp, asAgg_a, a1, asInt_i, same_ii, a2, bne_self_eq_false, nthA_0, nthA_s, asBool_b, Bool.false_eq_true, if_false, hw]
          · have hmin : min i c = c := by omega
            have hmin2 : min (i + 1) c = c := by omega
            have hm : ¬ fi + ((ms.take (min i c)).map M.norm).length < 8160 := by rw [hln]; omega
            have a1 := addLong_c hT.a hg1.norm hm hB (k + 4)
            have a2 := addLong14_c hT.b hg1 hm hB (k + 3)
            rw [hmin2, ← hmin]
            refine ⟨_, ?_, _, _, _, rfl, hT⟩
            simp only [nthA_0, nthA_s, asInt_i, hlen T, bO_s, hlt, decide_true, if_true, s1, asBool_b, same_nil, gB_t, Bool.not_true, Bool.false_eq_true, if_false]
            subst hais
            simp only [r1, seeV_i, bO_s, Nat.zero_add, r2, decide_true, gB_t, List.drop_zero, r3, hcp, asAgg_a, a1, asInt_i, same_ii, a2, bne_self_eq_false, nthA_0, nthA_s, asBool_b, Bool.false_eq_true, if_false, hw]
        · have : i = ms.length := by omega
          subst this
          refine .inl ⟨_, ?_, T, q, q', rfl, hT⟩
          simp only [nthA_0, nthA_s, asInt_i, hlen T, bO_s, Int.lt_irrefl, decide_false, Bool.false_eq_true, if_false]
      · rintro y ⟨T, q, q', rfl, hT⟩
        have s1 := same_c hB (k + 1) hT.a hT.b
        have s2 := awake_c (k + 7) T
        simp only [sel, nthA_0, nthA_s, s1, bO_s, asBool_b, if_true, s2]
        exact some_tr _ _ _
    · have n1 := new_bad hB (k + 6) hv S0
      have n2 := new14_bad hB (k + 6) hv S0
      have s2 := awake_c (k + 7) S0
      simp only [n1, n2, asInt_i, bO_s, asTup_a, asCons_c, asBool_b, Bool.not_true, Bool.false_eq_true, if_false, bne_self_eq_false, eql_nilp, eql_nilp46, neq4, nthA_0, nthA_s, if_true, s2]
      exact some_tr _ _ _
end Go.Ab.tNearU

set_option maxRecDepth 100000
set_option linter.unusedSimpArgs false
set_option linter.unusedVariables false
set_option linter.unusedSectionVars false
namespace Go.Ab.tNearU
open Go Go.Proofs
theorem nearPlaces_law (xs : List AV) (h : argsOk Try.prog maxLen 16 Try.f6.params.toList xs) : ∃ (C : CallF) (S' : Heap), NOk Try.prog (fun _ => none) C ∧ C 6 0 xs S0 = some (.bool true, S') := by
  rw [Try.params6] at h
  obtain ⟨a, r, rfl, h1, b, r2, rfl, h2, c, r3, rfl, h3, rfl⟩ := h
  obtain ⟨fi, rfl, hfi⟩ := arg3 h1
  obtain ⟨w, rfl, _⟩ := arg3 h2
  obtain ⟨ms, ha, hl, hA⟩ := arg22 h3
  obtain ⟨S', hS⟩ := places_law 0 ha hl hA fi w hfi
  exact ⟨Cn Bk 7, S', Cn_ok 7, hS⟩
theorem nearMatches_law (xs : List AV) (h : argsOk Try.prog maxLen 16 Try.f5.params.toList xs) : ∃ (C : CallF) (S' : Heap), NOk Try.prog (fun _ => none) C ∧ C 5 0 xs S0 = some (.bool true, S') := by
  rw [Try.params5] at h
  obtain ⟨a, r, rfl, h1, b, r2, rfl, h2, c, r3, rfl, h3, rfl⟩ := h
  obtain ⟨fi, rfl, hfi⟩ := arg3 h1
  obtain ⟨w, rfl, _⟩ := arg3 h2
  obtain ⟨ms, ha, hl, hA⟩ := arg22 h3
  obtain ⟨S', hS⟩ := matches_law 0 ha hl hA fi w
  exact ⟨Cn Bk 8, S', Cn_ok 8, hS⟩
end Go.Ab.tNearU
