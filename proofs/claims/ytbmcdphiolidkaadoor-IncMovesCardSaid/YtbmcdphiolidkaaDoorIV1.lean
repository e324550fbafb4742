/- Rows, macroblocks, copies: what calls come to. -/
import Derived.Test.YtbmcdphiolidkaaDoorIC
import Derived.IntWalk
set_option maxRecDepth 100000
set_option linter.unusedSimpArgs false
set_option linter.unusedVariables false
set_option linter.unusedSectionVars false
namespace Go.Ab.tNearU
open Go Go.Proofs

-- equality of arrays of bytes and of pairs
theorem pr_bind {α β : Type} {P : Program} (s : Sem α) (f : α → Sem β) : pureRun P (s >>= f) = (pureRun P s).bind fun a => pureRun P (f a) := by
  show pureRun P (Sem.bind s f) = _
  induction s with
  | pure a => rfl
  | program k ih => exact ih P
  | _ => rfl
theorem pr_pure {α : Type} {P : Program} (a : α) : pureRun P (pure a : Sem α) = some a := rfl
theorem pr_und {P : Program} {t : TypeId} {d : TypeDesc} (h : P.underlying t = some d) : pureRun P (underlying t) = some d := by
  unfold underlying
  rw [pr_bind]
  show pureRun P (match P.underlying t with | some d => pure d | none => _) = _
  rw [h]; rfl
theorem pr_int {P : Program} {d : Nat} {t : TypeId} {k k' : IntKind} {a b : Int} (h : P.underlying t = some (.int k')) : pureRun P (Op.equalIn (d + 1) t (.int k a) (.int k b)) = some (a == b) := by
  rw [Op.equalIn, pr_bind, pr_und h]
  simp [pr_pure]
theorem pr_part1 {P : Program} {t : TypeId} {k : IntKind} {cs : List Value} {i : Nat} {v : Value} (h : P.underlying t = some (.int k)) (hv : cs[i]? = some v) : pureRun P (part t cs.toArray i) = some v := by
  unfold part isAgg
  simp only [pr_bind, pr_und h, Option.bind_some, pr_pure, Bool.false_eq_true, if_false]
  rw [List.getElem?_toArray, hv]
  rfl
theorem all_range_eqI : ∀ (xs ys : List Int), xs.length = ys.length → ((List.range xs.length).all fun i => xs.getD i 0 == ys.getD i 0) = (xs == ys)
  | [], [], _ => rfl
  | x :: xs, y :: ys, h => by
    have ih := all_range_eqI xs ys (by simpa using h)
    rw [List.length_cons, List.range_succ_eq_map, List.all_cons, List.all_map]
    simp only [List.getD_cons_zero, Function.comp_def, List.getD_cons_succ, ih]
    simp [List.cons_beq_cons]
  | [], _ :: _, h => by simp at h
  | _ :: _, [], h => by simp at h
theorem pr_array {P : Program} {t e : TypeId} {n d : Nat} {k : IntKind} (ht : P.underlying t = some (.array n e)) (he : P.underlying e = some (.int k)) (hsz : pureRun P (sizeOf e) = some 1) (xs ys : List Int) (hx : xs.length = n) (hy : ys.length = n) :
    pureRun P (Op.equalIn (d + 2) t (.agg (xs.map (Value.int k)).toArray) (.agg (ys.map (Value.int k)).toArray)) = some (xs == ys) := by
  rw [← all_range_eqI xs ys (hx.trans hy.symm), hx, List.range_eq_range', Op.equalIn]
  simp only [pr_bind, pr_und ht, Option.bind_some, hsz, Std.Legacy.Range.forIn_eq_forIn_range', Std.Legacy.Range.size, Nat.sub_zero, Nat.add_sub_cancel, Nat.div_one]
  have hl : ∀ i ∈ List.range' 0 n 1, i < n := fun i hi => by simpa using (List.mem_range'_1.1 hi).2
  generalize List.range' 0 n 1 = l at hl ⊢
  induction l with
  | nil => simp [pr_pure]
  | cons i l ih =>
    have hi : i < n := hl i (by simp)
    have px : pureRun P (part e (xs.map (Value.int k)).toArray (i * 1)) = some (.int k (xs.getD i 0)) := by
      refine pr_part1 he ?_
      simp [List.getD, List.getElem?_eq_getElem (show i < xs.length by omega)]
    have py : pureRun P (part e (ys.map (Value.int k)).toArray (i * 1)) = some (.int k (ys.getD i 0)) := by
      refine pr_part1 he ?_
      simp [List.getD, List.getElem?_eq_getElem (show i < ys.length by omega)]
    simp only [List.forIn_cons, pr_bind, px, py, pr_int he, Option.bind_some, List.all_cons]
    cases hb : (xs.getD i 0 == ys.getD i 0)
    · simp [pr_pure]
    · simp only [Bool.not_true, Bool.false_eq_true, if_false, pr_pure, Option.bind_some, Bool.true_and]
      exact ih fun j hj => hl j (by simp [hj])
theorem toL_ints {k : IntKind} : ∀ xs : List Int, toL (xs.map (AV.int k)) = some (xs.map (Value.int k))
  | [] => rfl
  | x :: xs => by simp only [List.map_cons, toL, toS, toL_ints xs]
theorem eql_bytes {t n : Nat} (ht : Tryd.prog.underlying t = some (.array n 5)) (hg : Tryd.prog.eqGuardType Tryd.prog.depth t = false) (xs ys : List Int) (hx : xs.length = n) (hy : ys.length = n) :
    aBin Tryd.prog .eql t (.agg (xs.map (AV.int .u8))) (.agg (ys.map (AV.int .u8))) = some (.bool (xs == ys)) := by
  show (aggEq Tryd.prog t _ _).map AV.bool = _
  unfold aggEq
  rw [toL_ints, toL_ints]
  simp only [hg, Bool.false_eq_true, if_false, Op.equal]
  rw [show Op.maxDepth = 9998 + 2 from rfl, pr_array ht Tryd.underlying5 (by kernel_rfl) xs ys hx hy]
  rfl
theorem eql23 (xs ys : List Int) (hx : xs.length = 16) (hy : ys.length = 16) : aBin Tryd.prog .eql 23 (.agg (xs.map (AV.int .u8))) (.agg (ys.map (AV.int .u8))) = some (.bool (xs == ys)) := eql_bytes (by kernel_rfl) (by kernel_rfl) xs ys hx hy
theorem eql24 (xs ys : List Int) (hx : xs.length = 4) (hy : ys.length = 4) : aBin Tryd.prog .eql 24 (.agg (xs.map (AV.int .u8))) (.agg (ys.map (AV.int .u8))) = some (.bool (xs == ys)) := eql_bytes (by kernel_rfl) (by kernel_rfl) xs ys hx hy
theorem neq92 (a b c d : Int) : aBin Tryd.prog .neq 59 (.agg [.int .i64 a, .int .i64 b]) (.agg [.int .i64 c, .int .i64 d]) = some (.bool !(a == c && b == d)) := by
  unfold aBin
  simp only [aEql]
  unfold aggEq
  have hg : Tryd.prog.eqGuardType Tryd.prog.depth 59 = false := by kernel_rfl
  simp only [toL, toS, hg, Bool.false_eq_true, if_false, Op.equal]
  have hq : (match Tryd.prog.underlying 59 with | some (.struct fs) => fs.toList.map (fun f => (f.name, f.offset, f.type)) | _ => []) = [("X", 0, 3), ("Y", 1, 3)] := by kernel_rfl
  have hS : ∃ f1 f2 : Field, Tryd.prog.underlying 59 = some (.struct #[f1, f2]) ∧ f1.offset = 0 ∧ f2.offset = 1 ∧ f1.type = 3 ∧ f2.type = 3 ∧ f1.name = "X" ∧ f2.name = "Y" := by
    split at hq
    · rename_i fs hfs
      obtain ⟨l⟩ := fs
      match l, hq with
      | [f1, f2], hq =>
        simp only [List.map_cons, List.map_nil, List.cons.injEq, Prod.mk.injEq, and_true] at hq
        obtain ⟨⟨a1, a2, a3⟩, b1, b2, b3⟩ := hq
        exact ⟨f1, f2, hfs, a2, b2, a3, b3, a1, b1⟩
    · cases hq
  obtain ⟨f1, f2, hS, o1, o2, t1, t2, n1, n2⟩ := hS
  have hp : Tryd.prog.stoodInHeld 59 = false := by kernel_rfl
  rw [show Op.maxDepth = 9998 + 2 from rfl, Op.equalIn]
  have pP : pureRun Tryd.prog program = some Tryd.prog := rfl
  have p1 : ∀ x y : Int, pureRun Tryd.prog (part 3 #[.int .i64 x, .int .i64 y] 0) = some (.int .i64 x) := fun x y => pr_part1 (cs := [_, _]) Tryd.underlying3 rfl
  have p2 : ∀ x y : Int, pureRun Tryd.prog (part 3 #[.int .i64 x, .int .i64 y] 1) = some (.int .i64 y) := fun x y => pr_part1 (cs := [_, _]) Tryd.underlying3 rfl
  have pe : ∀ x y : Int, pureRun Tryd.prog (Op.equalIn (9998 + 1) 3 (.int .i64 x) (.int .i64 y)) = some (x == y) := fun x y => pr_int Tryd.underlying3
  simp only [pr_bind, pr_und hS, Option.bind_some, pP, hp, Bool.false_eq_true, if_false]
  rw [← Array.forIn_toList]
  have n1 : f1.name ≠ "_" := by rw [n1]; decide
  have n2 : f2.name ≠ "_" := by rw [n2]; decide
  simp only [List.forIn_cons, List.forIn_nil, pr_bind, o1, o2, t1, t2, n1, n2, ne_eq, not_false_eq_true, if_true, p1, p2, pe, Option.bind_some, List.toArray]
  by_cases h1 : a = c <;> by_cases h2 : b = d <;> simp [h1, h2, pr_bind, pr_pure, p2, pe]


-- how the parts of a T are reckoned
@[simp] theorem bO_s {α β : Type} (a : α) (f : α → Option β) : bO (some a) f = f a := (rfl)
@[simp] theorem gB_t {β : Type} (k : Option β) : gB true k = k := (rfl)
@[simp] theorem asBool_b {β : Type} (b : Bool) (f : Bool → Option β) : asBool (.bool b) f = f b := (rfl)
@[simp] theorem asInt_i {β : Type} (k : IntKind) (n : Int) (f : Int → Option β) : asInt k (.int k n) f = f n := by simp [asInt]
@[simp] theorem asAgg_a {β : Type} (l : List AV) (f : List AV → Option β) : asAgg (.agg l) f = f l := (rfl)
@[simp] theorem asTup_a {β : Type} (l : List AV) (f : List AV → Option β) : asTup (.tup l) f = f l := (rfl)
@[simp] theorem asStr_s {β : Type} (l : ByteArray) (f : ByteArray → Option β) : asStr (.str l) f = f l := (rfl)
@[simp] theorem asCons_c {β : Type} (a : AV) (l : List AV) (f : AV → List AV → Option β) : asCons (a :: l) f = f a l := (rfl)
@[simp] theorem nthA_0 (a : AV) (l : List AV) : nthA (a :: l) 0 = a := (rfl)
@[simp] theorem nthA_s (a : AV) (l : List AV) (n : Nat) : nthA (a :: l) (n + 1) = nthA l n := (rfl)
@[simp] theorem aggCells_a (l : List AV) : aggCells (.agg l) = l := (rfl)
@[simp] theorem addV_p (i o n : Nat) : addV (.ptr i o) n = some (.ptr i (o + n)) := (rfl)
@[simp] theorem seeV_p (i o : Nat) (S : Heap) : seeV (.ptr i o) S = (match S.blk i with | some cs => some (cs, o) | none => none) := (rfl)
@[simp] theorem seeV_i (cs : List AV) (S : Heap) : seeV (.iptr cs) S = some (cs, 0) := (rfl)
@[simp] theorem same_nil : ctlW.same [] = true := by simp [ctlW]
theorem same_see (a : AV) (S : Heap) : ctlW.same [.see a S S] = true := by simp [ctlW, Chk.ok]
theorem same_see2 {a b : AV} {S S' T T' : Heap} (h1 : seeV a S = seeV a S') (h2 : seeV b T = seeV b T') : ctlW.same [.see a S S', .see b T T'] = true := by simp [ctlW, Chk.ok, h1, h2]
theorem same_see1 {a : AV} {S S' : Heap} (h1 : seeV a S = seeV a S') : ctlW.same [.see a S S'] = true := by simp [ctlW, Chk.ok, h1]
theorem wr (n : Int) (h : -9223372036854775808 ≤ n ∧ n ≤ 9223372036854775807) : IntKind.i64.wrap n = n := IntWalk.i64_in n h
theorem rem64 (x y : Int) (h : y ≠ 0) : aInt .rem .i64 x y = some (.int .i64 (x.tmod y)) := by simp [aInt, h]

-- the heap a function gives back
def Ext (S S' : Heap) : Prop := S.next ≤ S'.next ∧ S'.cx = S.cx ∧ ∀ i, i < S.next → S'.blk i = S.blk i
theorem Ext.refl (S : Heap) : Ext S S := ⟨Nat.le_refl _, rfl, fun _ _ => rfl⟩
theorem Ext.trans {S T U : Heap} (h1 : Ext S T) (h2 : Ext T U) : Ext S U := ⟨Nat.le_trans h1.1 h2.1, h2.2.1.trans h1.2.1, fun i hi => (h2.2.2 i (by have := h1.1; omega)).trans (h1.2.2 i hi)⟩
theorem Ext.alloc (S : Heap) (cs : List AV) : Ext S (S.alloc cs) := ⟨Nat.le_succ _, rfl, fun i hi => by simp [Heap.alloc]; intro h; omega⟩
theorem Ext.set {S T : Heap} (h : Ext S T) {i : Nat} (hi : S.next ≤ i) (c : Option (List AV)) : Ext S (T.set i c) := ⟨h.1, h.2.1, fun j hj => by
  have : ¬ j = i := by omega
  simp [Heap.set, this, h.2.2 j hj]⟩
@[simp] theorem set_next (S : Heap) (i : Nat) (c : Option (List AV)) : (S.set i c).next = S.next := (rfl)
@[simp] theorem alloc_next (S : Heap) (c : List AV) : (S.alloc c).next = S.next + 1 := (rfl)
@[simp] theorem alloc_blk (S : Heap) (c : List AV) : (S.alloc c).blk S.next = some c := by simp [Heap.alloc]
@[simp] theorem set_blk (S : Heap) (i : Nat) (c : Option (List AV)) : (S.set i c).blk i = c := by simp [Heap.set]
theorem set_other (S : Heap) {i j : Nat} (c : Option (List AV)) (h : j ≠ i) : (S.set i c).blk j = S.blk j := by simp [Heap.set, h]
theorem alloc_other (S : Heap) {j : Nat} (c : List AV) (h : j ≠ S.next) : (S.alloc c).blk j = S.blk j := by simp [Heap.alloc, h]
theorem tr_S {S S' : Heap} {v : AV} (hv : noId v = true) (h : Ext S S') : ctlW.tr S v S' = (v, S) := by
  simp only [ctlW, trim]
  rw [if_pos ⟨hv, h.2.1, h.2.2⟩]
theorem tr_id (S : Heap) (v : AV) : ctlW.tr S v S = (v, S) := by simp only [ctlW, trim]; split <;> rfl
@[simp] theorem tr_same (S : Heap) (v : AV) : ctlW.tr S v S = (v, S) := tr_id S v
theorem tr_id2 {S S' : Heap} {v : AV} (h : noId v = false) : ctlW.tr S v S' = (v, S') := by
  simp only [ctlW, trim]
  rw [if_neg]
  rintro ⟨h1, _⟩
  rw [h] at h1; cases h1
theorem tr_ne {S S' : Heap} {v : AV} (i : Nat) (h : i < S.next) (hne : S'.blk i ≠ S.blk i) : ctlW.tr S v S' = (v, S') := by
  simp only [ctlW, trim]
  rw [if_neg]
  rintro ⟨_, _, h3⟩
  exact hne (h3 i h)
theorem tr_fst (S S1 : Heap) (v : AV) : ∃ S', ctlW.tr S v S1 = (v, S') := by
  simp only [ctlW, trim]
  split <;> exact ⟨_, rfl⟩
theorem some_tr (S S1 : Heap) (v : AV) : ∃ S', some (ctlW.tr S v S1) = some (v, S') := by
  obtain ⟨S', h⟩ := tr_fst S S1 v
  exact ⟨S', by rw [h]⟩

-- loops
theorem bloop {step : LSt → Option (LSt ⊕ (Nat × LSt))} {s : LSt} {α : Type} {f : Nat × LSt → Option α} :
    bO (ctlW.loop step s) f = (match step s with | some (.inl s') => bO (ctlW.loop step s') f | some (.inr x) => f x | none => none) := by
  show bO (loopW step s) f = _
  cases h : step s with
  | none =>
    have : loopW step s = none := by
      unfold loopW
      rw [dif_neg]
      rintro ⟨x, hx⟩
      cases hx with
      | done k => rw [h] at k; cases k
      | cont k _ => rw [h] at k; cases k
    rw [this]; rfl
  | some y =>
    cases y with
    | inl s' => simp only; rw [loopW_cont h]; rfl
    | inr x => simp only; rw [loopW_done h]; rfl
/-- A loop that goes from 0 to c, or ends before. -/
theorem loop_rel {step : LSt → Option (LSt ⊕ (Nat × LSt))} {α : Type} {f : Nat × LSt → Option α} {s0 : LSt} (P : Nat → LSt → Prop) (Q : Nat × LSt → Prop) (c : Nat) (h0 : P 0 s0)
    (hs : ∀ i s, i ≤ c → P i s → (∃ x, step s = some (.inr x) ∧ Q x) ∨ (i < c ∧ ∃ s', step s = some (.inl s') ∧ P (i + 1) s')) : ∃ x, Q x ∧ bO (ctlW.loop step s0) f = f x := by
  have : ∀ n i s, i + n = c → P i s → ∃ x, Q x ∧ bO (ctlW.loop step s) f = f x := by
    intro n
    induction n with
    | zero =>
      intro i s h hp
      rcases hs i s (by omega) hp with ⟨x, h1, h2⟩ | ⟨h1, _⟩
      · exact ⟨x, h2, by rw [bloop, h1]⟩
      · omega
    | succ n ih =>
      intro i s h hp
      rcases hs i s (by omega) hp with ⟨x, h1, h2⟩ | ⟨h1, s', h2, h3⟩
      · exact ⟨x, h2, by rw [bloop, h1]⟩
      · obtain ⟨x, hx, he⟩ := ih (i + 1) s' (by omega) h3
        exact ⟨x, hx, by rw [bloop, h2]; exact he⟩
  exact this c 0 s0 (by omega) h0

theorem loop_to {step : LSt → Option (LSt ⊕ (Nat × LSt))} {α : Type} {f : Nat × LSt → Option α} {s0 : LSt} {R : Option α} (P : Nat → LSt → Prop) (Q : Nat × LSt → Prop) (c : Nat) (h0 : P 0 s0)
    (hs : ∀ i s, i ≤ c → P i s → (∃ x, step s = some (.inr x) ∧ Q x) ∨ (i < c ∧ ∃ s', step s = some (.inl s') ∧ P (i + 1) s')) (hq : ∀ x, Q x → f x = R) : bO (ctlW.loop step s0) f = R := by
  obtain ⟨x, hx, he⟩ := loop_rel (f := f) P Q c h0 hs
  exact he.trans (hq x hx)
theorem loop_ex {step : LSt → Option (LSt ⊕ (Nat × LSt))} {α : Type} {f : Nat × LSt → Option α} {s0 : LSt} (W : Option α → Prop) (P : Nat → LSt → Prop) (Q : Nat × LSt → Prop) (c : Nat) (h0 : P 0 s0)
    (hs : ∀ i s, i ≤ c → P i s → (∃ x, step s = some (.inr x) ∧ Q x) ∨ (i < c ∧ ∃ s', step s = some (.inl s') ∧ P (i + 1) s')) (hq : ∀ x, Q x → W (f x)) : W (bO (ctlW.loop step s0) f) := by
  obtain ⟨x, hx, he⟩ := loop_rel (f := f) P Q c h0 hs
  rw [he]; exact hq x hx

-- freezing
def plain1 : AV → Bool
  | .hs _ _ _ _ => false
  | .agg _ => false
  | .tup _ => false
  | _ => true
theorem fz_plain1 {d : Nat} {a : AV} {S : Heap} (h : plain1 a = true) : fz (d + 1) a S = some (a, S) := by cases a <;> simp [plain1] at h <;> rfl
theorem fzM_plain {d : Nat} {S : Heap} : ∀ {l : List AV}, l.all plain1 = true → fzM (fz (d + 1)) l S = some (l, S)
  | [], _ => rfl
  | a :: l, h => by
    simp only [List.all_cons, Bool.and_eq_true] at h
    simp only [fzM, fz_plain1 h.1, fzM_plain h.2]
theorem fzM_app {d : Nat} {l : List AV} {S : Heap} (h : l.all plain1 = true) (r : List AV) : fzM (fz (d + 1)) (l ++ r) S = (match fzM (fz (d + 1)) r S with | some (r', S') => some (l ++ r', S') | none => none) := by
  induction l with
  | nil => simp; cases fzM (fz (d + 1)) r S with | none => rfl | some x => rfl
  | cons a l ih =>
    simp only [List.all_cons, Bool.and_eq_true] at h
    simp only [List.cons_append, fzM, fz_plain1 h.1, ih h.2]
    cases fzM (fz (d + 1)) r S with | none => rfl | some x => rfl
theorem fz40_nils {S : Heap} : fz 40 .nils S = some (.nils, S) := (rfl)
theorem fz40_agg {l : List AV} {S : Heap} (h : l.all plain1 = true) : fz 40 (.agg l) S = some (.agg l, S) := by
  rw [show (40 : Nat) = 38 + 1 + 1 from rfl, fz, fzM_plain h]
theorem fz40_pair {l : List AV} {b : Bool} {S : Heap} (h : l.all plain1 = true) : fz 40 (.tup [.agg l, .bool b]) S = some (.tup [.agg l, .bool b], S) := by
  rw [show (40 : Nat) = 37 + 1 + 1 + 1 from rfl, fz]
  simp only [fzM]
  rw [fz, fzM_plain h]
  rfl
theorem fz_hs {d : Nat} {l : List AV} {S : Heap} {id n es : Nat} (hb : S.blk id = some l) (hn : l.length = n * es) (h : l.all plain1 = true) : fz (d + 1 + 1) (.hs id 0 n es) S = some (.is n l, S.set id none) := by
  rw [fz, hb]
  simp only [Nat.zero_add, hn, Nat.le_refl, if_true, List.drop_zero]
  rw [List.take_of_length_le (by omega), fzM_plain h]

-- append
theorem app_nil {es by' n : Nat} {cs : List AV} {S : Heap} (h0 : n ≠ 0) (hn : cs.length = n * es) (h1 : n * by' ≤ mostRoom) (h2 : n ≤ mostRoom) : aAppend es by' .nils (.is n cs) S = some (.hs S.next 0 n es, S.alloc cs) := by
  unfold aAppend rowOf
  simp only [hn, if_true]
  unfold aAppendN
  simp only [h0, if_false, h1, h2, and_self, if_true]
theorem app_nil0 {es by' : Nat} {cs : List AV} {S : Heap} (hn : cs.length = 0 * es) : aAppend es by' .nils (.is 0 cs) S = some (.nils, S) := by
  unfold aAppend rowOf
  simp only [hn, if_true]
  rfl
theorem app_nilnil {es by' : Nat} {S : Heap} : aAppend es by' .nils .nils S = some (.nils, S) := rfl
theorem app_hs {es by' id m n : Nat} {cs new : List AV} {S : Heap} (h : S.blk id = some cs) (hl : cs.length = m * es) (hn : new.length = n * es) (h0 : n ≠ 0) (hb : (m + n) * by' ≤ mostRoom) (hm : m + n ≤ mostRoom) (hc : new.all cell = true) :
    aAppend es by' (.hs id 0 m es) (.is n new) S = some (.hs S.next 0 (m + n) es, (S.set id none).alloc (cs ++ new)) := by
  unfold aAppend rowOf
  simp only [hn, if_true]
  unfold aAppendN
  simp only [h0, if_false, h, hl, Nat.zero_add, Nat.le_refl, hb, hm, hc, and_self, List.drop_zero, if_true]
  rw [List.take_of_length_le (by omega)]
theorem app_hs0 {es by' id m : Nat} {cs : List AV} {S : Heap} (hn : cs.length = 0 * es) : aAppend es by' (.hs id 0 m es) (.is 0 cs) S = some (.hs id 0 m es, S) := by
  unfold aAppend rowOf
  simp only [hn, if_true]
  rfl
theorem room {n b : Nat} (h : n ≤ 1000) (hb : b ≤ 1000) : n * b ≤ mostRoom := by
  have : n * b ≤ 1000 * 1000 := Nat.mul_le_mul h hb
  unfold mostRoom; omega
theorem room1 {n : Nat} (h : n ≤ 1000) : n ≤ mostRoom := by unfold mostRoom; omega

/-- What is known beforehand says nothing of these. -/
def selF : List Nat := [f_spindlelaw16_awake, f_kinds_Parts, f_kinds_Intra, f_inc_moves, f_spindleref12_Parts, f_spindleref16_Moves, f_mb_Blocks, f_mb_Blocks, f_place_Left, f_place_Above, f_place_ChLeft, f_place_ChAbove, f_spindleref11_Left, f_spindleref11_Above, f_place_ChLeft, f_place_ChAbove, f_count_exists, f_count_exists, f_count_luma, f_count_luma]
def knownF : List Nat := selF ++ [f_kinds_parts, f_kinds_Cover, f_spindleref12_All, f_spindleref12_Cover]
theorem sel_no {f : Nat} (h : knownF.contains f = false) : selF.contains f = false := by
  cases hs : selF.contains f with
  | false => rfl
  | true =>
    have h1 : f ∈ selF := by simpa using hs
    have h2 : knownF.contains f = true := by rw [List.contains_iff_mem]; exact List.mem_append_left _ h1
    rw [h] at h2; cases h2
def Silent (B : CallF) : Prop := ∀ f way args S, knownF.contains f = false → B f way args S = none

-- rows of numbers
def ints (cs : List AV) : Prop := ∀ c ∈ cs, ∃ i, c = .int .i64 i
def Row (N es : Nat) (a : AV) : Prop := a = .nils ∨ ∃ n cs, a = .is n cs ∧ n ≤ N ∧ cs.length = n * es ∧ ints cs
def Rows (N : Nat) (a : AV) : Prop := a = .nils ∨ ∃ n cs, a = .is n cs ∧ n ≤ N ∧ cs.length = n ∧ ∀ c ∈ cs, Row N 1 c
def nrm (a : AV) : AV := match a with | .is 0 _ => .nils | a => a
def nrmB (a : AV) : AV := match a with | .is 0 _ => .nils | .is n cs => .is n (cs.map nrm) | a => a
def cut (a : AV) : List AV := match a with | .is _ cs => cs | _ => []
theorem ints_plain {cs : List AV} (h : ints cs) : cs.all plain1 = true := List.all_eq_true.2 fun c hc => by obtain ⟨i, rfl⟩ := h c hc; rfl
theorem ints_cell {cs : List AV} (h : ints cs) : cs.all cell = true := List.all_eq_true.2 fun c hc => by obtain ⟨i, rfl⟩ := h c hc; rfl
theorem noIdL_all : ∀ {l : List AV}, (∀ c ∈ l, noId c = true) → noIdL l = true
  | [], _ => rfl
  | a :: l, h => by simp only [noIdL, h a (by simp), noIdL_all (l := l) fun c hc => h c (by simp [hc]), Bool.and_self]
theorem ints_noId {cs : List AV} (h : ints cs) : noIdL cs = true := noIdL_all fun c hc => by obtain ⟨i, rfl⟩ := h c hc; rfl
theorem Row.noId {N es : Nat} {a : AV} (h : Row N es a) : noId a = true := by
  obtain rfl | ⟨n, cs, rfl, _, _, h⟩ := h
  · rfl
  · simp only [Go.Ab.noId, ints_noId h]
theorem Row.plain {N es : Nat} {a : AV} (h : Row N es a) : plain1 a = true := by obtain rfl | ⟨n, cs, rfl, _⟩ := h <;> rfl
theorem Row.cell {N es : Nat} {a : AV} (h : Row N es a) : cell a = true := by obtain rfl | ⟨n, cs, rfl, _⟩ := h <;> rfl
theorem Row.nrm {N es : Nat} {a : AV} (h : Row N es a) : Row N es (nrm a) := by
  obtain rfl | ⟨n, cs, rfl, h1, h2, h3⟩ := h
  · exact .inl rfl
  · cases n with
    | zero => exact .inl rfl
    | succ n => exact .inr ⟨_, _, rfl, h1, h2, h3⟩
theorem Row.mono {N N' es : Nat} {a : AV} (h : Row N es a) (hN : N ≤ N') : Row N' es a := by
  obtain rfl | ⟨n, cs, rfl, h1, h2, h3⟩ := h
  · exact .inl rfl
  · exact .inr ⟨_, _, rfl, by omega, h2, h3⟩
theorem nrm_nrm (a : AV) : nrm (nrm a) = nrm a := by
  cases a with
  | is n cs => cases n <;> rfl
  | _ => rfl
theorem Rows.noId {N : Nat} {a : AV} (h : Rows N a) : noId a = true := by
  obtain rfl | ⟨n, cs, rfl, _, _, h⟩ := h
  · rfl
  · simp only [Go.Ab.noId, noIdL_all fun c hc => (h c hc).noId]
theorem Rows.plain {N : Nat} {a : AV} (h : Rows N a) : plain1 a = true := by obtain rfl | ⟨n, cs, rfl, _⟩ := h <;> rfl
theorem Rows.cell {N : Nat} {a : AV} (h : Rows N a) : cell a = true := by obtain rfl | ⟨n, cs, rfl, _⟩ := h <;> rfl
theorem Rows.nrm {N : Nat} {a : AV} (h : Rows N a) : Rows N (nrmB a) := by
  obtain rfl | ⟨n, cs, rfl, h1, h2, h3⟩ := h
  · exact .inl rfl
  · cases n with
    | zero => exact .inl rfl
    | succ n => exact .inr ⟨n + 1, cs.map Go.Ab.tNearU.nrm, rfl, h1, by simp [h2], fun c hc => by
        obtain ⟨d, hd, rfl⟩ := List.mem_map.1 hc
        exact (h3 d hd).nrm⟩
theorem nrmB_nrmB (a : AV) : nrmB (nrmB a) = nrmB a := by
  cases a with
  | is n cs =>
    cases n with
    | zero => rfl
    | succ n => simp [nrmB, Function.comp_def, nrm_nrm]
  | _ => rfl
theorem Rows.mono {N N' : Nat} {a : AV} (h : Rows N a) (hN : N ≤ N') : Rows N' a := by
  obtain rfl | ⟨n, cs, rfl, h1, h2, h3⟩ := h
  · exact .inl rfl
  · exact .inr ⟨_, _, rfl, by omega, h2, fun c hc => (h3 c hc).mono hN⟩

-- copies of rows
theorem eql25 (a : AV) {N es : Nat} (h : Row N es a) : aBin Tryd.prog .eql 25 a .nils = some (.bool (match a with | .nils => true | _ => false)) := by obtain rfl | ⟨n, cs, rfl, _⟩ := h <;> kernel_rfl
theorem eql26 (a : AV) {N es : Nat} (h : Row N es a) : aBin Tryd.prog .eql 26 a .nils = some (.bool (match a with | .nils => true | _ => false)) := by obtain rfl | ⟨n, cs, rfl, _⟩ := h <;> kernel_rfl
theorem eql27 (a : AV) {N : Nat} (h : Rows N a) : aBin Tryd.prog .eql 27 a .nils = some (.bool (match a with | .nils => true | _ => false)) := by obtain rfl | ⟨n, cs, rfl, _⟩ := h <;> kernel_rfl
theorem frozen_new {S : Heap} {cs : List AV} {n es : Nat} (hl : cs.length = n * es) (hp : cs.all plain1 = true) (d : Nat) : fz (d + 1 + 1) (.hs S.next 0 n es) (S.alloc cs) = some (.is n cs, (S.alloc cs).set S.next none) := fz_hs (alloc_blk S cs) hl hp
theorem copyInts_c {B : CallF} (hB : Silent B) (k : Nat) {a : AV} (h : Row 1000 1 a) (S : Heap) : Cn B (k + 1) f_spindlekit_CopyInts 0 [a] S = some (nrm a, S) := by
  rw [c_spindlekit_CopyInts _ _ _ _ (hB _ _ _ _ (by decide)), T_spindlekit_CopyInts]
  have hn := h.noId
  obtain rfl | ⟨n, cs, rfl, h1, h2, h3⟩ := h
  · simp [app_nilnil, fz40_nils, nrm]
  · by_cases h0 : n = 0
    · subst h0
      simp [app_nil0 (S := S) h2, fz40_nils, nrm]
    · rw [app_nil h0 h2 (room h1 (by omega)) (room1 h1)]
      simp only [bO_s]
      rw [frozen_new h2 (ints_plain h3)]
      simp only [bO_s]
      rw [tr_S hn ((Ext.alloc S cs).set (Nat.le_refl _) none)]
      have : nrm (.is n cs) = .is n cs := by cases n with | zero => exact absurd rfl h0 | succ n => rfl
      rw [this]
theorem clone1_c {B : CallF} (hB : Silent B) (k : Nat) {a : AV} (h : Row 1000 1 a) (S : Heap) : Cn B (k + 1) f_slices_Clone_int_int 0 [a] S = some (a, S) := by
  rw [c_slices_Clone_int_int _ _ _ _ (hB _ _ _ _ (by decide)), T_slices_Clone_int_int, eql25 a h]
  have hn := h.noId
  obtain rfl | ⟨n, cs, rfl, h1, h2, h3⟩ := h
  · simp [fz40_nils]
  · simp only [bO_s, asBool_b, Bool.false_eq_true, if_false]
    by_cases h0 : n = 0
    · subst h0
      have hcs : cs = [] := List.length_eq_zero_iff.1 (by omega)
      subst hcs
      rw [app_hs0 (by simp)]
      simp only [bO_s]
      rw [frozen_new (by simp) rfl]
      simp only [bO_s]
      rw [tr_S hn ((Ext.alloc S []).set (Nat.le_refl _) none)]
    · rw [app_hs (cs := []) (alloc_blk S []) (by simp) h2 h0 (by rw [Nat.zero_add]; exact room h1 (by omega)) (by rw [Nat.zero_add]; exact room1 h1) (ints_cell h3)]
      simp only [bO_s, List.nil_append, Nat.zero_add]
      rw [show (S.alloc []).next = ((S.alloc []).set S.next none).next from rfl, frozen_new h2 (ints_plain h3)]
      simp only [bO_s]
      rw [tr_S hn]
      exact (((Ext.alloc S []).set (Nat.le_refl _) none).trans (Ext.alloc _ cs)).set (by simp) none
theorem clone2_c {B : CallF} (hB : Silent B) (k : Nat) {a : AV} (h : Row 1000 2 a) (S : Heap) : Cn B (k + 1) f_slices_Clone_api_Vec_api_Vec 0 [a] S = some (a, S) := by
  rw [c_slices_Clone_api_Vec_api_Vec _ _ _ _ (hB _ _ _ _ (by decide)), T_slices_Clone_api_Vec_api_Vec, eql26 a h]
  have hn := h.noId
  obtain rfl | ⟨n, cs, rfl, h1, h2, h3⟩ := h
  · simp [fz40_nils]
  · simp only [bO_s, asBool_b, Bool.false_eq_true, if_false]
    by_cases h0 : n = 0
    · subst h0
      have hcs : cs = [] := List.length_eq_zero_iff.1 (by omega)
      subst hcs
      rw [app_hs0 (by simp)]
      simp only [bO_s]
      rw [frozen_new (by simp) rfl]
      simp only [bO_s]
      rw [tr_S hn ((Ext.alloc S []).set (Nat.le_refl _) none)]
    · rw [app_hs (cs := []) (alloc_blk S []) (by simp) h2 h0 (by rw [Nat.zero_add]; exact room h1 (by omega)) (by rw [Nat.zero_add]; exact room1 h1) (ints_cell h3)]
      simp only [bO_s, List.nil_append, Nat.zero_add]
      rw [show (S.alloc []).next = ((S.alloc []).set S.next none).next from rfl, frozen_new h2 (ints_plain h3)]
      simp only [bO_s]
      rw [tr_S hn]
      exact (((Ext.alloc S []).set (Nat.le_refl _) none).trans (Ext.alloc _ cs)).set (by simp) none
/-- The copy of a row of rows is a new block, with the same cells. -/
theorem clone3_c {B : CallF} (hB : Silent B) (k : Nat) {n : Nat} {cs : List AV} (h : Rows 1000 (.is n cs)) (S : Heap) : ∃ id S', Cn B (k + 1) f_slices_Clone_int_int_v2 0 [.is n cs] S = some (.hs id 0 n 1, S') ∧ S.next ≤ id ∧ id < S'.next ∧ S'.blk id = some cs ∧ Ext S S' := by
  rw [c_slices_Clone_int_int_v2 _ _ _ _ (hB _ _ _ _ (by decide)), T_slices_Clone_int_int_v2, eql27 _ h]
  obtain h | ⟨n', cs', he, h1, h2, h3⟩ := h
  · cases h
  · cases he
    simp only [bO_s, asBool_b, Bool.false_eq_true, if_false]
    by_cases h0 : n = 0
    · subst h0
      have hcs : cs = [] := List.length_eq_zero_iff.1 (by omega)
      subst hcs
      rw [app_hs0 (by simp)]
      simp only [bO_s]
      exact ⟨S.next, S.alloc [], by rw [tr_id2 (by rfl)], Nat.le_refl _, Nat.lt_succ_self _, alloc_blk S [], Ext.alloc S []⟩
    · have hc : cs.all cell = true := List.all_eq_true.2 fun c hc => (h3 c hc).cell
      rw [app_hs (cs := []) (alloc_blk S []) (by simp) (by omega) h0 (by rw [Nat.zero_add]; exact room h1 (by omega)) (by rw [Nat.zero_add]; exact room1 h1) hc]
      simp only [bO_s, List.nil_append, Nat.zero_add]
      exact ⟨(S.alloc []).next, _, by rw [tr_id2 (by rfl)], by simp, by simp, alloc_blk ((S.alloc []).set S.next none) cs, ((Ext.alloc S []).set (Nat.le_refl _) none).trans (Ext.alloc _ cs)⟩


theorem loop_ind {step : LSt → Option (LSt ⊕ (Nat × LSt))} {α : Type} {f : Nat × LSt → Option α} (I : Nat → LSt) (c : Nat) {x : Nat × LSt} (h1 : ∀ i, i < c → step (I i) = some (.inl (I (i + 1)))) (h2 : step (I c) = some (.inr x)) :
    bO (ctlW.loop step (I 0)) f = f x := by
  have : ∀ n i, i + n = c → bO (ctlW.loop step (I i)) f = f x := by
    intro n
    induction n with
    | zero =>
      intro i h
      have : i = c := by omega
      subst this
      rw [bloop, h2]
    | succ n ih =>
      intro i h
      rw [bloop, h1 i (by omega)]
      exact ih (i + 1) (by omega)
  exact this c 0 (by omega)

-- looks at rows
theorem len25 {a : AV} {N es : Nat} (h : Row N es a) (hes : 0 < es) : ∃ n, n ≤ N ∧ (cut a).length = n * es ∧ aLen Tryd.prog 25 a = some (.int .i64 n) ∧ ∀ i, i < n → aIdx es a (i : Int) = some (.iptr ((cut a).drop (i * es))) := by
  obtain rfl | ⟨n, cs, rfl, h1, h2, h3⟩ := h
  · exact ⟨0, by omega, by simp [cut], by kernel_rfl, fun i hi => by omega⟩
  · exact ⟨n, h1, h2, by kernel_rfl, fun i hi => by simp [aIdx, hi, cut]⟩
theorem len26 {a : AV} {N es : Nat} (h : Row N es a) (hes : 0 < es) : ∃ n, n ≤ N ∧ (cut a).length = n * es ∧ aLen Tryd.prog 26 a = some (.int .i64 n) ∧ ∀ i, i < n → aIdx es a (i : Int) = some (.iptr ((cut a).drop (i * es))) := by
  obtain rfl | ⟨n, cs, rfl, h1, h2, h3⟩ := h
  · exact ⟨0, by omega, by simp [cut], by kernel_rfl, fun i hi => by omega⟩
  · exact ⟨n, h1, h2, by kernel_rfl, fun i hi => by simp [aIdx, hi, cut]⟩
theorem len27 {a : AV} {N : Nat} (h : Rows N a) : ∃ n, n ≤ N ∧ (cut a).length = n ∧ aLen Tryd.prog 27 a = some (.int .i64 n) ∧ ∀ i, i < n → aIdx 1 a (i : Int) = some (.iptr ((cut a).drop i)) := by
  obtain rfl | ⟨n, cs, rfl, h1, h2, h3⟩ := h
  · exact ⟨0, by omega, by simp [cut], by kernel_rfl, fun i hi => by omega⟩
  · exact ⟨n, h1, h2, by kernel_rfl, fun i hi => by simp [aIdx, hi, cut]⟩
theorem Row.ints {a : AV} {N es : Nat} (h : Row N es a) : ints (cut a) := by
  obtain rfl | ⟨n, cs, rfl, h1, h2, h3⟩ := h
  · intro c hc; simp [cut] at hc
  · exact h3
theorem Rows.mem {a : AV} {N : Nat} (h : Rows N a) : ∀ c ∈ cut a, Row N 1 c := by
  obtain rfl | ⟨n, cs, rfl, h1, h2, h3⟩ := h
  · intro c hc; simp [cut] at hc
  · exact h3
theorem cut_nrm {N es : Nat} {a : AV} (h : Row N es a) : cut (nrm a) = cut a := by
  obtain rfl | ⟨n, cs, rfl, h1, h2, h3⟩ := h
  · rfl
  · cases n with
    | zero => exact (List.length_eq_zero_iff.1 (show cs.length = 0 by simpa using h2)).symm
    | succ n => rfl
theorem cut_nrmB {N : Nat} {a : AV} (h : Rows N a) : (cut (nrmB a)).map cut = (cut a).map cut := by
  obtain rfl | ⟨n, cs, rfl, h1, h2, h3⟩ := h
  · rfl
  · cases n with
    | zero => simp [nrmB, cut]; exact (List.length_eq_zero_iff.1 (by omega))
    | succ n =>
      simp only [nrmB, cut, List.map_map]
      exact List.map_congr_left fun c hc => cut_nrm (h3 c hc)

-- equality of rows
theorem equalInts_c {B : CallF} (hB : Silent B) (k : Nat) {a b : AV} (ha : Row 1000 1 a) (hb : Row 1000 1 b) (he : cut a = cut b) (S : Heap) : Cn B (k + 1) f_spindlekit_EqualInts 0 [a, b] S = some (.bool true, S) := by
  rw [c_spindlekit_EqualInts _ _ _ _ _ (hB _ _ _ _ (by decide)), T_spindlekit_EqualInts]
  obtain ⟨n, hn, hl, hL, hI⟩ := len25 ha (by omega)
  obtain ⟨n', hn', hl', hL', hI'⟩ := len25 hb (by omega)
  have : n' = n := by rw [← he] at hl'; omega
  subst this
  simp only [hL, hL', bO_s, asInt_i, bne_self_eq_false, Bool.false_eq_true, if_false]
  refine (loop_ind (fun i => ([a, b, .int .i64 (i : Int)], S)) n' (x := (0, [], S)) (fun i hi => ?_) ?_).trans ?_
  · have hlt : (i : Int) < n' := by omega
    have hw : IntKind.wrap .i64 ((i : Int) + 1) = (i : Int) + 1 := wr _ (by omega)
    obtain ⟨v, hv⟩ := ha.ints ((cut a)[i]'(by omega)) (List.getElem_mem _)
    have hg : (cut a)[i]? = some (.int .i64 v) := by rw [List.getElem?_eq_getElem (by omega), hv]
    simp [hL, hlt, hI i hi, hI' i hi, ← he, hg, hw]
  · simp [hL]
  · simp [sel]
theorem equalVecs_c {B : CallF} (hB : Silent B) (k : Nat) {a b : AV} (ha : Row 1000 2 a) (hb : Row 1000 2 b) (he : cut a = cut b) (S : Heap) : Cn B (k + 1) f_spindlekit_EqualVecs 0 [a, b] S = some (.bool true, S) := by
  rw [c_spindlekit_EqualVecs _ _ _ _ _ (hB _ _ _ _ (by decide)), T_spindlekit_EqualVecs]
  obtain ⟨n, hn, hl, hL, hI⟩ := len26 ha (by omega)
  obtain ⟨n', hn', hl', hL', hI'⟩ := len26 hb (by omega)
  have : n' = n := by rw [← he] at hl'; omega
  subst this
  simp only [hL, hL', bO_s, asInt_i, bne_self_eq_false, Bool.false_eq_true, if_false]
  refine (loop_ind (fun i => ([a, b, .int .i64 (i : Int)], S)) n' (x := (0, [], S)) (fun i hi => ?_) ?_).trans ?_
  · have hlt : (i : Int) < n' := by omega
    have hw : IntKind.wrap .i64 ((i : Int) + 1) = (i : Int) + 1 := wr _ (by omega)
    obtain ⟨v, hv⟩ := ha.ints ((cut a)[i * 2]'(by omega)) (List.getElem_mem _)
    obtain ⟨u, hu⟩ := ha.ints ((cut a)[i * 2 + 1]'(by omega)) (List.getElem_mem _)
    have hg : List.take 2 ((cut a).drop (i * 2)) = [.int .i64 v, .int .i64 u] := by
      rw [List.drop_eq_getElem_cons (by omega), List.drop_eq_getElem_cons (by omega), hv, hu]
      rfl
    have hlen : 2 ≤ (cut a).length - i * 2 := by omega
    simp [hL, hlt, hI i hi, hI' i hi, ← he, hg, hw, neq92, hlen]
  · simp [hL]
  · simp [sel]
theorem equalBlocks_c {B : CallF} (hB : Silent B) (k : Nat) {a b : AV} (ha : Rows 1000 a) (hb : Rows 1000 b) (he : (cut a).map cut = (cut b).map cut) (S : Heap) : Cn B (k + 2) f_spindlekit_EqualBlocks 0 [a, b] S = some (.bool true, S) := by
  rw [c_spindlekit_EqualBlocks _ _ _ _ _ (hB _ _ _ _ (by decide)), T_spindlekit_EqualBlocks]
  obtain ⟨n, hn, hl, hL, hI⟩ := len27 ha
  obtain ⟨n', hn', hl', hL', hI'⟩ := len27 hb
  have hnn : n' = n := by have := congrArg List.length he; simp at this; omega
  subst hnn
  simp only [hL, hL', bO_s, asInt_i, bne_self_eq_false, Bool.false_eq_true, if_false]
  refine (loop_ind (fun i => ([a, b, .int .i64 (i : Int)], S)) n' (x := (0, [], S)) (fun i hi => ?_) ?_).trans ?_
  · have hlt : (i : Int) < n' := by omega
    have hw : IntKind.wrap .i64 ((i : Int) + 1) = (i : Int) + 1 := wr _ (by omega)
    have h1 : i < (cut a).length := by omega
    have h2 : i < (cut b).length := by omega
    have hg : (cut a)[i]? = some (cut a)[i] := List.getElem?_eq_getElem h1
    have hg' : (cut b)[i]? = some (cut b)[i] := List.getElem?_eq_getElem h2
    have hc : cut ((cut a)[i]) = cut ((cut b)[i]) := by
      have := congrArg (fun l => l[i]?) he
      simp [hg, hg'] at this
      exact this
    have hq := equalInts_c hB k (ha.mem _ (List.getElem_mem h1)) (hb.mem _ (List.getElem_mem h2)) hc S
    simp [hL, hlt, hI i hi, hI' i hi, hg, hg', hw, hq]
  · simp [hL]
  · simp [sel]

/-- A macroblock. -/
structure M where
  pre : List Int
  r : AV
  v : AV
  cb : Int
  qp : Int
  b : AV
  s : ByteArray
def M.cells (m : M) : List AV := m.pre.map (AV.int .u8) ++ [m.r, m.v, .int .u8 m.cb, .int .i64 m.qp, m.b, .str m.s]
structure Good (N : Nat) (m : M) : Prop where
  pre : m.pre.length = 23
  r : Row N 1 m.r
  v : Row N 2 m.v
  b : Rows N m.b
def M.norm (m : M) : M := { m with r := nrm m.r, v := nrm m.v, b := nrmB m.b }
structure Sim (m m' : M) : Prop where
  pre : m.pre = m'.pre
  r : cut m.r = cut m'.r
  v : cut m.v = cut m'.v
  b : (cut m.b).map cut = (cut m'.b).map cut
  cb : m.cb = m'.cb
  qp : m.qp = m'.qp
  s : m.s = m'.s
theorem Sim.refl (m : M) : Sim m m := ⟨rfl, rfl, rfl, rfl, rfl, rfl, rfl⟩
theorem Sim.symm {m m' : M} (h : Sim m m') : Sim m' m := ⟨h.pre.symm, h.r.symm, h.v.symm, h.b.symm, h.cb.symm, h.qp.symm, h.s.symm⟩
theorem Good.norm {N : Nat} {m : M} (h : Good N m) : Good N m.norm := ⟨h.pre, h.r.nrm, h.v.nrm, h.b.nrm⟩
theorem Good.sim {N : Nat} {m : M} (h : Good N m) : Sim m.norm m := ⟨rfl, cut_nrm h.r, cut_nrm h.v, cut_nrmB h.b, rfl, rfl, rfl⟩
theorem norm_norm (m : M) : m.norm.norm = m.norm := by simp [M.norm, nrm_nrm, nrmB_nrmB]
theorem Good.mono {N N' : Nat} {m : M} (h : Good N m) (hN : N ≤ N') : Good N' m := ⟨h.pre, h.r.mono hN, h.v.mono hN, h.b.mono hN⟩
section
variable {m : M} (hp : m.pre.length = 23)
include hp
theorem M.len : m.cells.length = 29 := by simp [M.cells, hp]
theorem M.g23 : m.cells[23]? = some m.r := by simp [M.cells, List.getElem?_append, hp]
theorem M.g24 : m.cells[24]? = some m.v := by simp [M.cells, List.getElem?_append, hp]
theorem M.g25 : m.cells[25]? = some (.int .u8 m.cb) := by simp [M.cells, List.getElem?_append, hp]
theorem M.g26 : m.cells[26]? = some (.int .i64 m.qp) := by simp [M.cells, List.getElem?_append, hp]
theorem M.g27 : m.cells[27]? = some m.b := by simp [M.cells, List.getElem?_append, hp]
theorem M.g28 : m.cells[28]? = some (.str m.s) := by simp [M.cells, List.getElem?_append, hp]
theorem M.s23 (x : AV) : setCells m.cells 23 [x] = ({ m with r := x } : M).cells := by simp [M.cells, setCells, List.set_append, hp]
theorem M.s24 (x : AV) : setCells m.cells 24 [x] = ({ m with v := x } : M).cells := by simp [M.cells, setCells, List.set_append, hp]
theorem M.s27 (x : AV) : setCells m.cells 27 [x] = ({ m with b := x } : M).cells := by simp [M.cells, setCells, List.set_append, hp]
theorem M.t29 : List.take 29 m.cells = m.cells := List.take_of_length_le (by rw [M.len hp]; omega)
end
theorem setCells_append : ∀ (new pre old post : List AV), old.length = new.length → setCells (pre ++ old ++ post) pre.length new = pre ++ new ++ post
  | [], pre, old, post, h => by
    have : old = [] := List.length_eq_zero_iff.1 h
    subst this; rfl
  | v :: new, pre, o :: old, post, h => by
    simp only [setCells]
    have : (pre ++ o :: old ++ post).set pre.length v = pre ++ [v] ++ old ++ post := by simp [List.set_append]
    rw [this]
    have := setCells_append new (pre ++ [v]) old post (by simpa using h)
    simpa using this
  | _ :: _, _, [], _, h => by simp at h
theorem setCells_all {l new : List AV} (h : l.length = new.length) : setCells l 0 new = new := by simpa using setCells_append new [] l [] h
theorem M.z {m : M} (hp : m.pre.length = 23) : setCells [.int .u8 0, .int .u8 0, .int .u8 0, .int .u8 0, .int .u8 0, .int .u8 0, .int .u8 0, .int .u8 0, .int .u8 0, .int .u8 0, .int .u8 0, .int .u8 0, .int .u8 0, .int .u8 0, .int .u8 0, .int .u8 0, .int .u8 0, .int .u8 0, .int .u8 0, .int .u8 0, .int .u8 0, .int .u8 0, .int .u8 0, .nils, .nils, .int .u8 0, .int .i64 0, .nils, .str ByteArray.empty] 0 m.cells = m.cells := setCells_all (M.len hp).symm
theorem Good.cell {N : Nat} {m : M} (h : Good N m) : m.cells.all cell = true := by
  refine List.all_eq_true.2 fun c hc => ?_
  simp only [M.cells, List.mem_append, List.mem_map, List.mem_cons, List.not_mem_nil, or_false] at hc
  rcases hc with ⟨i, _, rfl⟩ | rfl | rfl | rfl | rfl | rfl | rfl
  · rfl
  · exact h.r.cell
  · exact h.v.cell
  · rfl
  · rfl
  · exact h.b.cell
  · rfl
theorem Good.plain {N : Nat} {m : M} (h : Good N m) : m.cells.all plain1 = true := by
  refine List.all_eq_true.2 fun c hc => ?_
  simp only [M.cells, List.mem_append, List.mem_map, List.mem_cons, List.not_mem_nil, or_false] at hc
  rcases hc with ⟨i, _, rfl⟩ | rfl | rfl | rfl | rfl | rfl | rfl
  · rfl
  · exact h.r.plain
  · exact h.v.plain
  · rfl
  · rfl
  · exact h.b.plain
  · rfl
theorem Good.noId {N : Nat} {m : M} (h : Good N m) : noIdL m.cells = true := by
  refine noIdL_all fun c hc => ?_
  simp only [M.cells, List.mem_append, List.mem_map, List.mem_cons, List.not_mem_nil, or_false] at hc
  rcases hc with ⟨i, _, rfl⟩ | rfl | rfl | rfl | rfl | rfl | rfl
  · rfl
  · exact h.r.noId
  · exact h.v.noId
  · rfl
  · rfl
  · exact h.b.noId
  · rfl
theorem strEq_self (s : ByteArray) : strEq s s = true := by simp [strEq]
theorem equalMb_c {B : CallF} (hB : Silent B) (k : Nat) {m m' : M} (h : Good 1000 m) (h' : Good 1000 m') (hs : Sim m m') (S : Heap) : Cn B (k + 3) f_spindlekit_EqualMb 0 [.agg m.cells, .agg m'.cells] S = some (.bool true, S) := by
  rw [c_spindlekit_EqualMb _ _ _ _ _ (hB _ _ _ _ (by decide)), T_spindlekit_EqualMb]
  have e1 := equalInts_c hB (k + 1) h.r h'.r hs.r S
  have e2 := equalVecs_c hB (k + 1) h.v h'.v hs.v S
  have e3 := equalBlocks_c hB k h.b h'.b hs.b S
  have hp := h.pre
  have hp' := h'.pre
  simp only [asAgg_a, M.len hp, M.len hp', M.g23 hp, M.g23 hp', M.g24 hp, M.g24 hp', M.g25 hp, M.g25 hp', M.g26 hp, M.g26 hp', M.g27 hp, M.g27 hp', M.g28 hp, M.g28 hp', ← hs.cb, ← hs.qp, ← hs.s, bO_s, e1, e2, e3, asInt_i, asBool_b, asStr_s, strEq_self]
  have hpp := hs.pre
  obtain ⟨pre, r, v, cb, qp, b, s⟩ := m
  obtain ⟨pre', r', v', cb', qp', b', s'⟩ := m'
  simp only at hpp hp
  subst hpp
  match pre, hp with
  | a :: b1 :: c :: rest, hp =>
    simp only [List.length_cons] at hp
    have t1 : List.take 16 (List.drop 3 (List.map (AV.int .u8) (a :: b1 :: c :: rest) ++ [r, v, .int .u8 cb, .int .i64 qp, b, .str s])) = (rest.take 16).map (AV.int .u8) := by
      simp only [List.map_cons, List.cons_append, List.drop_succ_cons, List.drop_zero]
      rw [List.take_append_of_le_length (by simp; omega), List.map_take]
    have t2 : List.take 4 (List.drop 19 (List.map (AV.int .u8) (a :: b1 :: c :: rest) ++ [r, v, .int .u8 cb, .int .i64 qp, b, .str s])) = (rest.drop 16).map (AV.int .u8) := by
      simp only [List.map_cons, List.cons_append, List.drop_succ_cons]
      rw [List.drop_append_of_le_length (by simp; omega), List.take_append_of_le_length (by simp; omega), List.take_of_length_le (by simp; omega), List.map_drop]
    have t1' : List.take 16 (List.drop 3 (List.map (AV.int .u8) (a :: b1 :: c :: rest) ++ [r', v', .int .u8 cb', .int .i64 qp', b', .str s'])) = (rest.take 16).map (AV.int .u8) := by
      simp only [List.map_cons, List.cons_append, List.drop_succ_cons, List.drop_zero]
      rw [List.take_append_of_le_length (by simp; omega), List.map_take]
    have t2' : List.take 4 (List.drop 19 (List.map (AV.int .u8) (a :: b1 :: c :: rest) ++ [r', v', .int .u8 cb', .int .i64 qp', b', .str s'])) = (rest.drop 16).map (AV.int .u8) := by
      simp only [List.map_cons, List.cons_append, List.drop_succ_cons]
      rw [List.drop_append_of_le_length (by simp; omega), List.take_append_of_le_length (by simp; omega), List.take_of_length_le (by simp; omega), List.map_drop]
    have q1 := eql23 (rest.take 16) (rest.take 16) (by simp; omega) (by simp; omega)
    have q2 := eql24 (rest.drop 16) (rest.drop 16) (by simp; omega) (by simp; omega)
    simp only [M.cells] at *
    simp only [t1, t2, t1', t2', q1, q2]
    simp only [List.map_cons, List.cons_append, List.getElem?_cons_zero, List.getElem?_cons_succ, bO_s, asInt_i, beq_self_eq_true, if_true, gB_t, asBool_b, tr_same]
    rfl


theorem fzM_one {d : Nat} {l1 l2 : List AV} {x y : AV} {S S' : Heap} (h1 : l1.all plain1 = true) (h2 : l2.all plain1 = true) (h : fz (d + 1) x S = some (y, S')) : fzM (fz (d + 1)) (l1 ++ x :: l2) S = some (l1 ++ y :: l2, S') := by
  rw [fzM_app h1]
  simp only [fzM, h, fzM_plain h2]
theorem nrmB_cut {N n : Nat} {a : AV} (h : Rows N a) (hl : (cut a).length = n) (h0 : n ≠ 0) : nrmB a = .is n ((cut a).map nrm) := by
  obtain rfl | ⟨n', cs, rfl, h1, h2, h3⟩ := h
  · simp [cut] at hl; omega
  · simp only [cut] at hl ⊢
    have : n' = n := by omega
    subst this
    cases n' with
    | zero => exact absurd rfl h0
    | succ n => rfl
theorem nrmB_cut0 {N : Nat} {a : AV} (h : Rows N a) (hl : (cut a).length = 0) : nrmB a = .nils := by
  obtain rfl | ⟨n', cs, rfl, h1, h2, h3⟩ := h
  · rfl
  · simp only [cut] at hl
    have : n' = 0 := by omega
    subst this; rfl
theorem copyBlocks_c {B : CallF} (hB : Silent B) (k : Nat) {a : AV} (h : Rows 1000 a) (S : Heap) : Cn B (k + 2) f_spindlekit_CopyBlocks 0 [a] S = some (nrmB a, S) := by
  rw [c_spindlekit_CopyBlocks _ _ _ _ (hB _ _ _ _ (by decide)), T_spindlekit_CopyBlocks]
  obtain ⟨n, hn, hl, hL, hI⟩ := len27 h
  refine loop_to (fun i s => ∃ x T, s = ([a, x, .int .i64 (i : Int)], T) ∧ Ext S T ∧ ((i = 0 ∧ x = .nils) ∨ (i ≠ 0 ∧ ∃ id, x = .hs id 0 i 1 ∧ S.next ≤ id ∧ T.blk id = some (((cut a).take i).map nrm))))
    (fun y => ∃ x T, y = (0, [x], T) ∧ Ext S T ∧ ((n = 0 ∧ x = .nils) ∨ (n ≠ 0 ∧ ∃ id, x = .hs id 0 n 1 ∧ S.next ≤ id ∧ T.blk id = some (((cut a).take n).map nrm)))) n ⟨.nils, S, rfl, Ext.refl S, .inl ⟨rfl, rfl⟩⟩ ?_ ?_
  rotate_left
  · rintro y ⟨x, T, rfl, hT, ⟨h0, rfl⟩ | ⟨h0, id, rfl, h1, h2⟩⟩
    · simp only [sel, nthA_0, fz40_nils, bO_s]
      rw [tr_S rfl hT, nrmB_cut0 h (by omega)]
    · simp only [sel, nthA_0]
      rw [List.take_of_length_le (by omega)] at h2
      have hp : ((cut a).map nrm).all plain1 = true := List.all_eq_true.2 fun c hc => by
        obtain ⟨d, hd, rfl⟩ := List.mem_map.1 hc
        exact (h.mem d hd).nrm.plain
      rw [show (40 : Nat) = 38 + 1 + 1 from rfl, fz_hs h2 (by simp; omega) hp]
      simp only [bO_s]
      have hq := nrmB_cut h hl h0
      rw [← hq, tr_S h.nrm.noId (hT.set h1 none)]
  · rintro i s hi ⟨x, T, rfl, hT, hx⟩
    by_cases hin : i < n
    · refine .inr ⟨hin, ?_⟩
      have hlt : (i : Int) < n := by omega
      have hw : IntKind.wrap .i64 ((i : Int) + 1) = (i : Int) + 1 := wr _ (by omega)
      have h1 : i < (cut a).length := by omega
      have hg : (cut a)[i]? = some (cut a)[i] := List.getElem?_eq_getElem h1
      have hm := h.mem _ (List.getElem_mem h1)
      have hq := copyInts_c hB k hm T
      have htk : (((cut a).take (i + 1)).map nrm) = (((cut a).take i).map nrm) ++ [nrm (cut a)[i]] := by
        rw [List.take_add_one, hg, Option.toList_some, List.map_append]; rfl
      simp only [nthA_0, nthA_s, asInt_i, hL, bO_s, hlt, decide_true, if_true, hI i hin, seeV_i, List.getElem?_drop, Nat.add_zero, hg, hq, hm.nrm.cell, gB_t, hw]
      rcases hx with ⟨rfl, rfl⟩ | ⟨h0, id, rfl, h3, h4⟩
      · rw [app_nil (n := 1) (by omega) rfl (room (by omega) (by omega)) (room1 (by omega))]
        simp only [bO_s]
        exact ⟨_, rfl, _, _, rfl, hT.trans (Ext.alloc T _), .inr ⟨by omega, T.next, rfl, hT.1, by rw [alloc_blk, htk]; rfl⟩⟩
      · rw [app_hs (n := 1) h4 (by simp; omega) rfl (by omega) (room (by omega) (by omega)) (room1 (by omega)) (by simp [hm.nrm.cell])]
        simp only [bO_s]
        refine ⟨_, rfl, _, _, rfl, (hT.set h3 none).trans (Ext.alloc (T.set id none) _), .inr ⟨by omega, T.next, rfl, hT.1, ?_⟩⟩
        rw [show T.next = (T.set id none).next from rfl, alloc_blk, htk]
    · refine .inl ⟨(0, [x], T), ?_, x, T, rfl, hT, ?_⟩
      · have hlt : ¬ ((i : Int) < n) := by omega
        simp [hL, hlt]
      · have : i = n := by omega
        subst this; exact hx
theorem copyMb_c {B : CallF} (hB : Silent B) (k : Nat) {m : M} (h : Good 1000 m) (S : Heap) : Cn B (k + 3) f_spindlekit_CopyMb 0 [.agg m.cells] S = some (.agg m.norm.cells, S) := by
  rw [c_spindlekit_CopyMb _ _ _ _ (hB _ _ _ _ (by decide)), T_spindlekit_CopyMb]
  have hp := h.pre
  have e1 := copyInts_c hB (k + 1) h.r S
  have h24 : ∀ r x, setCells ({ m with r := r } : M).cells 24 [x] = ({ m with r := r, v := x } : M).cells := fun r x => M.s24 (m := { m with r := r }) hp x
  have h27 : ∀ r v x, setCells ({ m with r := r, v := v } : M).cells 27 [x] = ({ m with r := r, v := v, b := x } : M).cells := fun r v x => M.s27 (m := { m with r := r, v := v }) hp x
  have hl1 : ∀ r, ({ m with r := r } : M).cells.length = 29 := fun r => M.len (m := { m with r := r }) hp
  have hl2 : ∀ r v, ({ m with r := r, v := v } : M).cells.length = 29 := fun r v => M.len (m := { m with r := r, v := v }) hp
  have hl3 : ∀ r v b, ({ m with r := r, v := v, b := b } : M).cells.length = 29 := fun r v b => M.len (m := { m with r := r, v := v, b := b }) hp
  have ht3 : ∀ r v b, List.take 29 ({ m with r := r, v := v, b := b } : M).cells = ({ m with r := r, v := v, b := b } : M).cells := fun r v b => M.t29 (m := { m with r := r, v := v, b := b }) hp
  have hz3 : ∀ r v b, _ := fun r v b => M.z (m := { m with r := r, v := v, b := b }) hp
  have e3 : ∀ T, _ := fun T => copyBlocks_c hB k h.b T
  have hcr := h.r.nrm.cell
  have hcb := h.b.nrm.cell
  -- the copy of the pairs
  have e2 : ∃ x T, aAppend 2 16 .nils m.v S = some (x, T) ∧ Ext S T ∧ cell x = true ∧ ∃ T', fz 39 x T = some (nrm m.v, T') ∧ Ext S T' := by
    obtain hv | ⟨n, cs, hv, h1, h2, h3⟩ := h.v
    · rw [hv]; exact ⟨.nils, S, app_nilnil, Ext.refl S, rfl, S, rfl, Ext.refl S⟩
    · rw [hv]
      by_cases h0 : n = 0
      · subst h0
        exact ⟨.nils, S, app_nil0 h2, Ext.refl S, rfl, S, rfl, Ext.refl S⟩
      · refine ⟨_, _, app_nil h0 h2 (room h1 (by omega)) (room1 h1), Ext.alloc S cs, rfl, _, ?_, (Ext.alloc S cs).set (Nat.le_refl _) none⟩
        rw [show (39 : Nat) = 37 + 1 + 1 from rfl, frozen_new h2 (ints_plain h3)]
        cases n with
        | zero => exact absurd rfl h0
        | succ n => rfl
  obtain ⟨x, T, e2, hT, hcx, T', hfz, hT'⟩ := e2
  simp only [asAgg_a, M.len hp, beq_self_eq_true, gB_t, M.g23 hp, M.g24 hp, M.g27 hp, bO_s, same_nil, e1, e2, e3, hcr, hcb, hcx, M.s23 hp, h24, h27, hl1, hl2, hl3, ht3, hz3, List.drop_zero, Nat.zero_add, Nat.le_refl, decide_true, List.all_cons, List.all_nil, Bool.and_true, show decide (24 ≤ 29) = true from rfl, show decide (25 ≤ 29) = true from rfl, show decide (28 ≤ 29) = true from rfl]
  have hall : ({ m with r := nrm m.r, v := x, b := nrmB m.b } : M).cells.all cell = true := by
    refine List.all_eq_true.2 fun c hc => ?_
    simp only [M.cells, List.mem_append, List.mem_map, List.mem_cons, List.not_mem_nil, or_false] at hc
    rcases hc with ⟨i, _, rfl⟩ | rfl | rfl | rfl | rfl | rfl | rfl
    · rfl
    · exact hcr
    · exact hcx
    · rfl
    · rfl
    · exact hcb
    · rfl
  rw [hall]
  have hf : fz 40 (.agg ({ m with r := nrm m.r, v := x, b := nrmB m.b } : M).cells) T = some (.agg m.norm.cells, T') := by
    rw [show (40 : Nat) = 39 + 1 from rfl, fz]
    have := fzM_one (d := 38) (l1 := m.pre.map (AV.int .u8) ++ [nrm m.r]) (l2 := [.int .u8 m.cb, .int .i64 m.qp, nrmB m.b, .str m.s]) (x := x) (y := nrm m.v) (S := T) (S' := T') (by simp [h.r.nrm.plain, plain1]; exact h.r.nrm.plain) (by simp [plain1]; exact h.b.nrm.plain) hfz
    simp only [List.append_assoc, List.singleton_append] at this
    simp only [M.cells, M.norm]
    rw [this]
  simp only [gB_t, hf, bO_s]
  rw [tr_S]
  · simp only [Go.Ab.noId, h.norm.noId]
  · exact hT'
theorem clone3nil_c {B : CallF} (hB : Silent B) (k : Nat) (S : Heap) : Cn B (k + 1) f_slices_Clone_int_int_v2 0 [.nils] S = some (.nils, S) := by
  rw [c_slices_Clone_int_int_v2 _ _ _ _ (hB _ _ _ _ (by decide)), T_slices_Clone_int_int_v2, eql27 (N := 0) _ (.inl rfl)]
  simp
theorem mbCopy_c {B : CallF} (hB : Silent B) (k : Nat) {m : M} (h : Good 1000 m) (S : Heap) : Cn B (k + 2) f_mb_Copy 0 [.agg m.cells] S = some (.agg m.cells, S) := by
  rw [c_mb_Copy _ _ _ _ (hB _ _ _ _ (by decide)), T_mb_Copy]
  have hp := h.pre
  have e1 := clone1_c hB k h.r S
  have e2 := clone2_c hB k h.v S
  have hcr := h.r.cell
  have hcv := h.v.cell
  have h23 : setCells m.cells 23 [m.r] = m.cells := M.s23 hp m.r
  have h24 : setCells m.cells 24 [m.v] = m.cells := M.s24 hp m.v
  obtain hb | ⟨n, cs, hb, h1, h2, h3⟩ := h.b
  · have e3 := clone3nil_c hB k S
    have h27 : setCells m.cells 27 [.nils] = m.cells := by have := M.s27 hp m.b; rw [← hb]; exact this
    have g27 : m.cells[27]? = some .nils := by rw [M.g27 hp, hb]
    have hL : aLen Tryd.prog 27 .nils = some (.int .i64 0) := by kernel_rfl
    simp only [asAgg_a, M.len hp, beq_self_eq_true, gB_t, M.g23 hp, M.g24 hp, g27, bO_s, same_nil, e1, e2, e3, hcr, hcv, show cell .nils = true from rfl, h23, h24, h27, Nat.le_refl, decide_true, List.all_cons, List.all_nil, Bool.and_true, show decide (24 ≤ 29) = true from rfl, show decide (25 ≤ 29) = true from rfl, show decide (28 ≤ 29) = true from rfl, hL, asInt_i]
    rw [bloop]
    simp only [nthA_0, nthA_s, asInt_i, aggCells_a, sel, List.drop_zero, M.t29 hp, M.len hp, h.cell, M.z hp, gB_t, beq_self_eq_true, Nat.zero_add, Nat.le_refl, decide_true, fz40_agg h.plain, bO_s, List.length_cons, List.length_nil, show decide ((0 : Int) < 0) = false from rfl, Bool.false_eq_true, if_false]
    simp
  · have hb' : Rows 1000 (.is n cs) := hb ▸ h.b
    obtain ⟨id, S1, e3, i1, i2, i3, i4⟩ := clone3_c hB k hb' S
    have g27 : m.cells[27]? = some (.is n cs) := by rw [M.g27 hp, hb]
    have h27 := M.s27 hp (.hs id 0 n 1)
    have hL : aLen Tryd.prog 27 (.hs id 0 n 1) = some (.int .i64 n) := by kernel_rfl
    have g27' : ({ m with b := .hs id 0 n 1 } : M).cells[27]? = some (.hs id 0 n 1) := M.g27 (m := { m with b := .hs id 0 n 1 }) hp
    simp only [asAgg_a, M.len hp, beq_self_eq_true, gB_t, M.g23 hp, M.g24 hp, g27, bO_s, same_nil, e1, e2, e3, hcr, hcv, show cell (.hs id 0 n 1) = true from rfl, h23, h24, h27, Nat.le_refl, decide_true, List.all_cons, List.all_nil, Bool.and_true, show decide (24 ≤ 29) = true from rfl, show decide (25 ≤ 29) = true from rfl, show decide (28 ≤ 29) = true from rfl, g27', hL, asInt_i]
    generalize hZ : AV.agg [.int .u8 0, .int .u8 0, .int .u8 0, .int .u8 0, .int .u8 0, .int .u8 0, .int .u8 0, .int .u8 0, .int .u8 0, .int .u8 0, .int .u8 0, .int .u8 0, .int .u8 0, .int .u8 0, .int .u8 0, .int .u8 0, .int .u8 0, .int .u8 0, .int .u8 0, .int .u8 0, .int .u8 0, .int .u8 0, .int .u8 0, .nils, .nils, .int .u8 0, .int .i64 0, .nils, .str ByteArray.empty] = Z
    have hZ' : AV.agg (aggCells Z) = Z := by subst hZ; rfl
    refine loop_to (fun i s => ∃ T, s = ([.agg ({ m with b := .hs id 0 n 1 } : M).cells, Z, .int .i64 n, .int .i64 (i : Int)], T) ∧ Ext S T ∧ T.blk id = some cs)
      (fun y => ∃ T, y = (0, [.agg ({ m with b := .hs id 0 n 1 } : M).cells, Z], T) ∧ Ext S T ∧ T.blk id = some cs) n ⟨S1, rfl, i4, i3⟩ ?_ ?_
    rotate_left
    · rintro y ⟨T, rfl, hT, hTb⟩
      subst hZ
      have hl : ({ m with b := .hs id 0 n 1 } : M).cells.length = 29 := M.len (m := { m with b := .hs id 0 n 1 }) hp
      have hall : ({ m with b := .hs id 0 n 1 } : M).cells.all cell = true := by
        refine List.all_eq_true.2 fun c hc => ?_
        simp only [M.cells, List.mem_append, List.mem_map, List.mem_cons, List.not_mem_nil, or_false] at hc
        rcases hc with ⟨i, _, rfl⟩ | rfl | rfl | rfl | rfl | rfl | rfl
        · rfl
        · exact hcr
        · exact hcv
        · rfl
        · rfl
        · rfl
        · rfl
      have hpl : cs.all plain1 = true := List.all_eq_true.2 fun c hc => (h3 c hc).plain
      have hf : fz 40 (.agg ({ m with b := .hs id 0 n 1 } : M).cells) T = some (.agg m.cells, T.set id none) := by
        rw [show (40 : Nat) = 39 + 1 from rfl, fz]
        have := fzM_one (d := 38) (l1 := m.pre.map (AV.int .u8) ++ [m.r, m.v, .int .u8 m.cb, .int .i64 m.qp]) (l2 := [.str m.s]) (x := .hs id 0 n 1) (y := .is n cs) (S := T) (S' := T.set id none) (by simp [plain1]; exact ⟨h.r.plain, h.v.plain⟩) rfl (by rw [show (38 : Nat) + 1 = 37 + 1 + 1 from rfl]; exact fz_hs hTb (by omega) hpl)
        simp only [List.append_assoc, List.cons_append, List.nil_append] at this
        simp only [M.cells, hb]
        rw [this]
      simp only [nthA_0, nthA_s, aggCells_a, sel, List.drop_zero, M.t29 (m := { m with b := .hs id 0 n 1 }) hp, hl, hall, M.z (m := { m with b := .hs id 0 n 1 }) hp, gB_t, beq_self_eq_true, Nat.zero_add, Nat.le_refl, decide_true, hf, bO_s, List.length_cons, List.length_nil]
      rw [tr_S]
      · simp only [Go.Ab.noId, h.noId]
      · exact hT.set i1 none
    · rintro i s hi ⟨T, rfl, hT, hTb⟩
      by_cases hin : i < n
      · refine .inr ⟨hin, ?_⟩
        have hlt : (i : Int) < n := by omega
        have hw : IntKind.wrap .i64 ((i : Int) + 1) = (i : Int) + 1 := wr _ (by omega)
        have hg : cs[i]? = some cs[i] := List.getElem?_eq_getElem (by omega)
        have hm := h3 cs[i] (List.getElem_mem _)
        have hq := clone1_c hB k hm T
        have hix : aIdx 1 (.hs id 0 n 1) (i : Int) = some (.ptr id i) := by simp [aIdx, hin]
        have hput : putV (.ptr id i) [cs[i]] T = some (T.set id (some cs)) := by
          simp only [putV, hTb, List.length_cons, List.length_nil, setCells, List.set_getElem_self]
          rw [if_pos (by omega)]
        have hcc := hm.cell
        simp only [nthA_0, nthA_s, asInt_i, bO_s, hlt, decide_true, if_true, aggCells_a, g27', gB_t, same_nil, hix, seeV_p, hTb, hg, hq, hcc, List.all_cons, List.all_nil, Bool.and_true, hput, hw, hZ']
        exact ⟨_, rfl, T.set id (some cs), rfl, hT.set i1 _, by simp⟩
      · have : i = n := by omega
        subst this
        refine .inl ⟨_, ?_, T, rfl, hT, hTb⟩
        simp [hZ']

end Go.Ab.tNearU
