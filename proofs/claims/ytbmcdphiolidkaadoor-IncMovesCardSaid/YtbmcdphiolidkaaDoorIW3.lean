/- A block of a macroblock: looked up, and how many of its coefficients are not 0. -/
import Derived.Test.YtbmcdphiolidkaaDoorIW2
set_option maxRecDepth 100000
set_option linter.unusedSimpArgs false
set_option linter.unusedVariables false
set_option linter.unusedSectionVars false
namespace Go.Ab.tNearU
open Go Go.Proofs

-- the kernel's knowledge, for macroblocks
theorem pre23 {l : List Int} (h : l.length = 23) : ∃ p : Nat → Int, l = [p 0, p 1, p 2, p 3, p 4, p 5, p 6, p 7, p 8, p 9, p 10, p 11, p 12, p 13, p 14, p 15, p 16, p 17, p 18, p 19, p 20, p 21, p 22] := by
  match l, h with
  | [x0, x1, x2, x3, x4, x5, x6, x7, x8, x9, x10, x11, x12, x13, x14, x15, x16, x17, x18, x19, x20, x21, x22], _ =>
    exact ⟨fun i => ([x0, x1, x2, x3, x4, x5, x6, x7, x8, x9, x10, x11, x12, x13, x14, x15, x16, x17, x18, x19, x20, x21, x22] : List Int).getD i 0, rfl⟩
/-- The kind of a macroblock. -/
def M.kind (m : M) : Nat := (m.pre.headD 0).toNat
def M.cbp (m : M) : Nat := m.cb.toNat
structure Byt (m : M) : Prop where
  k : 0 ≤ m.pre.headD 0 ∧ m.pre.headD 0 ≤ 255
  c : 0 ≤ m.cb ∧ m.cb ≤ 255
def M.bls (m : M) : List Cd := Go.Ab.tNearU.bls m.kind m.cbp
theorem known_sel {B : CallF} (hB : Known B) {f : Nat} {args : List AV} {v : AV} (hf : selF.contains f = true) (ha : noIdL args = true) (hv : noId v = true) (h : ∃ S, C1 f 0 args S0 = some (v, S)) (k : Nat) (S : Heap) : Cn B k f 0 args S = some (v, S) := by
  obtain ⟨T, hT⟩ := h
  have e : B f 0 args S = some (v, S) := by
    rw [hB.yes f args S hf]
    unfold locC
    rw [if_pos ha, hT]
    simp only [hv, if_true]
  cases k with
  | zero => exact e
  | succ k => show (match B f 0 args S with | some r => some r | none => _) = _; rw [e]
theorem noId_blA (l : List Cd) : noId (blA l) = true := by
  have : ∀ l : List Cd, noIdL (cells3 l) = true := by
    intro l
    induction l with
    | nil => rfl
    | cons c l ih => simp only [cells3, noIdL, noId, ih, Bool.and_self]
  cases l with
  | nil => rfl
  | cons c l => exact this (c :: l)
theorem blocks_c {B : CallF} (hB : Known B) (k : Nat) {m : M} (hg : Good 1000 m) (hb : Byt m) (S : Heap) :
    Cn B k f_mb_Blocks 0 [.agg m.cells] S = some (blA m.bls, S) ∧ Cn B k f_mb_Blocks 0 [.agg m.cells] S = some (blA m.bls, S) := by
  obtain ⟨p, hp⟩ := pre23 hg.pre
  have hk := hb.k
  rw [hp] at hk
  simp only [List.headD_cons] at hk
  have e : AV.agg m.cells = mbF p m.r m.v m.qp m.b m.s m.kind m.cbp := by
    unfold M.cells mbF M.kind M.cbp
    rw [hp]
    simp only [List.headD_cons, List.map_cons, List.map_nil, List.cons_append, List.nil_append]
    rw [show (Int.ofNat (p 0).toNat) = p 0 from Int.toNat_of_nonneg hk.1, show (Int.ofNat m.cb.toNat) = m.cb from Int.toNat_of_nonneg hb.c.1]
  have hkn : m.kind ≤ 255 := by unfold M.kind; rw [hp]; simp only [List.headD_cons]; omega
  have hcn : m.cbp ≤ 255 := by unfold M.cbp; have := hb.c; omega
  obtain ⟨h1, h2⟩ := bl_any p m.r m.v m.qp m.b m.s hkn hcn
  rw [← e] at h1 h2
  have hn : noIdL [AV.agg m.cells] = true := by
    have := hg.noId
    simp only [noIdL, noId, this, Bool.and_self]
  exact ⟨known_sel hB rfl hn (noId_blA _) (isB_of h1) k S, known_sel hB rfl hn (noId_blA _) (isB_of h2) k S⟩

-- looking up
def ixF : List Cd → Cd → Option Nat
  | [], _ => none
  | x :: l, c => if x = c then some 0 else (ixF l c).map (· + 1)
theorem ixF_at : ∀ {l : List Cd} {c : Cd} {i : Nat} (h : i < l.length), l[i] = c → (∀ j (hj : j < i), l[j] ≠ c) → ixF l c = some i
  | x :: l, c, 0, h, h1, h2 => by simp only [List.getElem_cons_zero] at h1; simp only [ixF, if_pos h1]
  | x :: l, c, i + 1, h, h1, h2 => by
    have h0 : x ≠ c := by simpa using h2 0 (by omega)
    have ih := ixF_at (l := l) (c := c) (i := i) (by simpa using h) (by simpa using h1) (fun j hj => by simpa using h2 (j + 1) (by omega))
    simp only [ixF, if_neg h0, ih, Option.map_some]
theorem ixF_no : ∀ {l : List Cd} {c : Cd}, (∀ j (hj : j < l.length), l[j] ≠ c) → ixF l c = none
  | [], _, _ => rfl
  | x :: l, c, h => by
    have h0 : x ≠ c := h 0 (Nat.zero_lt_succ _)
    have ih := ixF_no (l := l) (c := c) (fun j hj => h (j + 1) (Nat.succ_lt_succ hj))
    simp only [ixF, if_neg h0, ih, Option.map_none]
theorem ixF_lt : ∀ {l : List Cd} {c : Cd} {i : Nat}, ixF l c = some i → i < l.length
  | [], _, _, h => by cases h
  | x :: l, c, i, h => by
    unfold ixF at h
    split at h
    · cases h; simp
    · cases hi : ixF l c with
      | none => rw [hi] at h; cases h
      | some j =>
        rw [hi] at h
        simp only [Option.map_some, Option.some.injEq] at h
        have := ixF_lt hi
        simp; omega
theorem blA_cons {l : List Cd} (h : l ≠ []) : blA l = .is l.length (cells3 l) := by
  cases l with
  | nil => exact absurd rfl h
  | cons c l => rfl
theorem blA_len (l : List Cd) : aLen Tryd.prog 48 (blA l) = some (.int .i64 (l.length : Int)) := by
  cases l with
  | nil => kernel_rfl
  | cons c l => show aLen Tryd.prog 48 (.is (l.length + 1) _) = some (.int .i64 ((l.length + 1 : Nat) : Int)); kernel_rfl
theorem blA_at {l : List Cd} {i : Nat} (h : i < l.length) : aIdx 3 (blA l) (i : Int) = some (.iptr ((cells3 l).drop (i * 3))) ∧ 3 ≤ ((cells3 l).drop (i * 3)).length ∧ List.take 3 ((cells3 l).drop (i * 3)) = cdC l[i] := by
  have h0 : l ≠ [] := fun h' => by rw [h'] at h; simp at h
  rw [blA_cons h0]
  refine ⟨?_, ?_, cells3_at l i h⟩
  · simp only [aIdx, Int.toNat_natCast]
    rw [if_pos ⟨by omega, by omega⟩]
  · rw [List.length_drop, cells3_len]; omega
theorem pr_intU8 {d : Nat} {a b : Int} : pureRun Tryd.prog (Op.equalIn (d + 1) 5 (.int .u8 a) (.int .u8 b)) = some (a == b) := pr_int (show Tryd.prog.underlying 5 = some (.int .u8) by kernel_rfl)
theorem pr_intI64 {d : Nat} {a b : Int} : pureRun Tryd.prog (Op.equalIn (d + 1) 3 (.int .i64 a) (.int .i64 b)) = some (a == b) := pr_int (show Tryd.prog.underlying 3 = some (.int .i64) by kernel_rfl)
theorem eqlCd (x y : Cd) : aBin Tryd.prog .eql 52 (.agg (cdC x)) (.agg (cdC y)) = some (.bool (decide (x = y))) := by
  obtain ⟨xw, xa, xb⟩ := x
  obtain ⟨yw, ya, yb⟩ := y
  unfold aBin
  simp only [cdC, aEql]
  unfold aggEq
  have hg : Tryd.prog.eqGuardType Tryd.prog.depth 52 = false := by kernel_rfl
  simp only [toL, toS, hg, Bool.false_eq_true, if_false, Op.equal]
  have hq : (match Tryd.prog.underlying 52 with | some (.struct fs) => fs.toList.map (fun f => (f.name, f.offset, f.type)) | _ => []) = [("Cat", 0, 5), ("Comp", 1, 5), ("K", 2, 3)] := by kernel_rfl
  obtain ⟨f1, f2, f3, hS, o1, o2, o3, t1, t2, t3, n1, n2, n3⟩ : ∃ f1 f2 f3 : Field, Tryd.prog.underlying 52 = some (.struct #[f1, f2, f3]) ∧ f1.offset = 0 ∧ f2.offset = 1 ∧ f3.offset = 2 ∧ f1.type = 5 ∧ f2.type = 5 ∧ f3.type = 3 ∧ f1.name = "Cat" ∧ f2.name = "Comp" ∧ f3.name = "K" := by
    split at hq
    · rename_i fs hfs
      obtain ⟨l⟩ := fs
      match l, hq with
      | [f1, f2, f3], hq =>
        simp only [List.map_cons, List.map_nil, List.cons.injEq, Prod.mk.injEq, and_true] at hq
        obtain ⟨⟨a1, a2, a3⟩, ⟨b1, b2, b3⟩, d1, d2, d3⟩ := hq
        exact ⟨f1, f2, f3, hfs, a2, b2, d2, a3, b3, d3, a1, b1, d1⟩
    · cases hq
  have hp : Tryd.prog.stoodInHeld 52 = false := by kernel_rfl
  have u5 : Tryd.prog.underlying 5 = some (.int .u8) := by kernel_rfl
  have u3 : Tryd.prog.underlying 3 = some (.int .i64) := by kernel_rfl
  rw [show Op.maxDepth = 9998 + 2 from rfl, Op.equalIn]
  have pP : pureRun Tryd.prog program = some Tryd.prog := rfl
  have p0 : ∀ a b c : Int, pureRun Tryd.prog (part 5 #[.int .u8 a, .int .u8 b, .int .i64 c] 0) = some (.int .u8 a) := fun a b c => pr_part1 (cs := [_, _, _]) u5 rfl
  have p1 : ∀ a b c : Int, pureRun Tryd.prog (part 5 #[.int .u8 a, .int .u8 b, .int .i64 c] 1) = some (.int .u8 b) := fun a b c => pr_part1 (cs := [_, _, _]) u5 rfl
  have p2 : ∀ a b c : Int, pureRun Tryd.prog (part 3 #[.int .u8 a, .int .u8 b, .int .i64 c] 2) = some (.int .i64 c) := fun a b c => pr_part1 (cs := [_, _, _]) u3 rfl
  simp only [pr_bind, pr_und hS, Option.bind_some, pP, hp, Bool.false_eq_true, if_false]
  rw [← Array.forIn_toList]
  have n1 : f1.name ≠ "_" := by rw [n1]; decide
  have n2 : f2.name ≠ "_" := by rw [n2]; decide
  have n3 : f3.name ≠ "_" := by rw [n3]; decide
  have hd : decide ((xw, xa, xb) = (yw, ya, yb)) = ((xw : Int) == yw && ((xa : Int) == ya && (xb : Int) == yb)) := by
    rw [Bool.eq_iff_iff]
    simp [Prod.mk.injEq]
    omega
  rw [hd]
  simp only [List.forIn_cons, List.forIn_nil, pr_bind, o1, o2, o3, t1, t2, t3, n1, n2, n3, ne_eq, not_false_eq_true, if_true, p0, p1, p2, pr_intU8, pr_intI64, Option.bind_some, List.toArray]
  cases h1 : ((xw : Int) == yw) <;> cases h2 : ((xa : Int) == ya) <;> cases h3 : ((xb : Int) == yb) <;> simp [pr_bind, pr_pure, p1, p2, pr_intU8, pr_intI64, h2, h3]
theorem index_c {B : CallF} (hB : Known B) (k : Nat) {l : List Cd} (hl : l.length ≤ 1000) (c : Cd) (S : Heap) : Cn B (k + 1) f_slices_Index_api_Coded_api_Coded 0 [blA l, .agg (cdC c)] S = some (.int .i64 (match ixF l c with | some i => (i : Int) | none => -1), S) := by
  rw [c_slices_Index_api_Coded_api_Coded _ _ _ _ _ (hB.no _ _ _ _ (by decide)), T_slices_Index_api_Coded_api_Coded]
  have l3 : ∀ c, (cdC c).length = 3 := fun _ => rfl
  have t3 : ∀ c, List.take 3 (cdC c) = cdC c := fun _ => rfl
  have hle : (3 : Nat) ≤ 3 := by omega
  simp only [bO_s, gB_t, asBool_b, asInt_i, asAgg_a, asTup_a, asStr_s, asCons_c, nthA_0, nthA_s, aggCells_a, addV_p, seeV_p, seeV_i, same_nil, tr_same, eql4, neq4, decide_true, decide_false, Bool.false_eq_true, if_false, if_true, Bool.not_true, Bool.not_false, Bool.and_true, Bool.true_and, Bool.and_self, List.getElem?_cons_zero, List.getElem?_cons_succ, Nat.zero_add, Nat.add_zero, beq_self_eq_true, bne_self_eq_false, Int.reduceBNe, Int.reduceBEq, Int.reduceLT, Int.reduceGT, Int.reduceLE, Int.reduceGE, Nat.reduceAdd, Nat.reduceMul, Nat.reduceLeDiff, l3, blA_len]
  refine loop_to (fun i s => s = ([blA l, .agg (cdC c), .int .i64 (l.length : Int), .int .i64 (i : Int)], S) ∧ ∀ j (hj : j < i) (hl : j < l.length), l[j] ≠ c)
    (fun x => (x = (0, [], S) ∧ ixF l c = none) ∨ ∃ i : Nat, x = (1, [.int .i64 (i : Int)], S) ∧ ixF l c = some i) l.length ⟨rfl, fun j hj => by omega⟩ ?_ ?_
  · rintro i s hi ⟨rfl, hno⟩
    by_cases hin : i < l.length
    · have hlt : (i : Int) < (l.length : Int) := by omega
      obtain ⟨q1, q2, q3⟩ := blA_at hin
      have hw : IntKind.wrap .i64 ((i : Int) + 1) = ((i + 1 : Nat) : Int) := by rw [wr _ (by omega)]; omega
      by_cases he : c = l[i]
      · refine .inl ⟨(1, [.int .i64 (i : Int)], S), by simp only [bO_s, gB_t, asBool_b, asInt_i, asAgg_a, asTup_a, asStr_s, asCons_c, nthA_0, nthA_s, aggCells_a, addV_p, seeV_p, seeV_i, same_nil, tr_same, eql4, neq4, decide_true, decide_false, Bool.false_eq_true, if_false, if_true, Bool.not_true, Bool.not_false, Bool.and_true, Bool.true_and, Bool.and_self, List.getElem?_cons_zero, List.getElem?_cons_succ, Nat.zero_add, Nat.add_zero, beq_self_eq_true, bne_self_eq_false, Int.reduceBNe, Int.reduceBEq, Int.reduceLT, Int.reduceGT, Int.reduceLE, Int.reduceGE, Nat.reduceAdd, Nat.reduceMul, Nat.reduceLeDiff, hlt, l3, t3, hle, q1, q2, List.drop_zero, q3, eqlCd, he], .inr ⟨i, rfl, ixF_at hin he.symm (fun j hj => hno j hj (by omega))⟩⟩
      · refine .inr ⟨hin, _, by simp only [bO_s, gB_t, asBool_b, asInt_i, asAgg_a, asTup_a, asStr_s, asCons_c, nthA_0, nthA_s, aggCells_a, addV_p, seeV_p, seeV_i, same_nil, tr_same, eql4, neq4, decide_true, decide_false, Bool.false_eq_true, if_false, if_true, Bool.not_true, Bool.not_false, Bool.and_true, Bool.true_and, Bool.and_self, List.getElem?_cons_zero, List.getElem?_cons_succ, Nat.zero_add, Nat.add_zero, beq_self_eq_true, bne_self_eq_false, Int.reduceBNe, Int.reduceBEq, Int.reduceLT, Int.reduceGT, Int.reduceLE, Int.reduceGE, Nat.reduceAdd, Nat.reduceMul, Nat.reduceLeDiff, hlt, l3, t3, hle, q1, q2, List.drop_zero, q3, eqlCd, he, hw], rfl, fun j hj hjl => ?_⟩
        by_cases hji : j = i
        · subst hji; exact fun h => he h.symm
        · exact hno j (by omega) hjl
    · have hie : i = l.length := by omega
      have hlt : ¬ (i : Int) < (l.length : Int) := by omega
      exact .inl ⟨(0, [], S), by simp only [bO_s, gB_t, asBool_b, asInt_i, asAgg_a, asTup_a, asStr_s, asCons_c, nthA_0, nthA_s, aggCells_a, addV_p, seeV_p, seeV_i, same_nil, tr_same, eql4, neq4, decide_true, decide_false, Bool.false_eq_true, if_false, if_true, Bool.not_true, Bool.not_false, Bool.and_true, Bool.true_and, Bool.and_self, List.getElem?_cons_zero, List.getElem?_cons_succ, Nat.zero_add, Nat.add_zero, beq_self_eq_true, bne_self_eq_false, Int.reduceBNe, Int.reduceBEq, Int.reduceLT, Int.reduceGT, Int.reduceLE, Int.reduceGE, Nat.reduceAdd, Nat.reduceMul, Nat.reduceLeDiff, hlt], .inl ⟨rfl, ixF_no (fun j hj => hno j (by omega) hj)⟩⟩
  · rintro x (⟨rfl, h⟩ | ⟨i, rfl, h⟩)
    · rw [h]; simp only [bO_s, gB_t, asBool_b, asInt_i, asAgg_a, asTup_a, asStr_s, asCons_c, nthA_0, nthA_s, aggCells_a, addV_p, seeV_p, seeV_i, same_nil, tr_same, eql4, neq4, decide_true, decide_false, Bool.false_eq_true, if_false, if_true, Bool.not_true, Bool.not_false, Bool.and_true, Bool.true_and, Bool.and_self, List.getElem?_cons_zero, List.getElem?_cons_succ, Nat.zero_add, Nat.add_zero, beq_self_eq_true, bne_self_eq_false, Int.reduceBNe, Int.reduceBEq, Int.reduceLT, Int.reduceGT, Int.reduceLE, Int.reduceGE, Nat.reduceAdd, Nat.reduceMul, Nat.reduceLeDiff, sel]
    · rw [h]; simp only [bO_s, gB_t, asBool_b, asInt_i, asAgg_a, asTup_a, asStr_s, asCons_c, nthA_0, nthA_s, aggCells_a, addV_p, seeV_p, seeV_i, same_nil, tr_same, eql4, neq4, decide_true, decide_false, Bool.false_eq_true, if_false, if_true, Bool.not_true, Bool.not_false, Bool.and_true, Bool.true_and, Bool.and_self, List.getElem?_cons_zero, List.getElem?_cons_succ, Nat.zero_add, Nat.add_zero, beq_self_eq_true, bne_self_eq_false, Int.reduceBNe, Int.reduceBEq, Int.reduceLT, Int.reduceGT, Int.reduceLE, Int.reduceGE, Nat.reduceAdd, Nat.reduceMul, Nat.reduceLeDiff, sel]
end Go.Ab.tNearU
