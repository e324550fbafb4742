/- The weights of what is nearby: inc.weigh. -/
import Derived.Test.YtbmcdphiolidkaaDoorIW7
set_option maxRecDepth 100000
set_option linter.unusedSimpArgs false
set_option linter.unusedVariables false
set_option linter.unusedSectionVars false
namespace Go.Ab.tNearU
open Go Go.Proofs

theorem bO_ex {α β : Type} {o : Option α} {f : α → Option β} (W : Option β → Prop) (Q : α → Prop) (h : ∃ y, o = some y ∧ Q y) (hq : ∀ y, Q y → W (f y)) : W (bO o f) := by
  obtain ⟨y, rfl, hy⟩ := h; exact hq y hy
theorem bO_bO {α β γ : Type} (o : Option α) (f : α → Option β) (g : β → Option γ) : bO (bO o f) g = bO o fun a => bO (f a) g := by cases o <;> rfl
theorem callK_y {β : Type} (C : CallF) (y : Nat) (args : List AV) (S : Heap) (K : AV → Heap → Option β) : callK C .none (.yld y) args S K = bO (C yldId y args S) fun r => K r.1 r.2 := rfl
theorem withY_y (C : CallF) (y : Nat) (Y : List AV → Heap → Option (AV × Heap)) (args : List AV) (S : Heap) : withY C y Y yldId y args S = Y args S := by simp [withY]
theorem withY_n (C : CallF) (y : Nat) (Y : List AV → Heap → Option (AV × Heap)) {f : Nat} (hf : f ≠ yldId) (args : List AV) (S : Heap) : withY C y Y f 0 args S = C f 0 args S := by simp [withY, hf]
theorem callK_f {β : Type} (C : CallF) {g : Nat} (hg : ¬ yldId ≤ g) (cap args : List AV) (S : Heap) (K : AV → Heap → Option β) : callK C .none (.fn g [] cap) args S K = bO (C g 0 (args ++ cap) S) fun r => K r.1 r.2 := by
  unfold callK
  simp only [if_neg hg, List.nil_append]
  rfl
theorem asFn_f {β : Type} (g : Nat) (first cap : List AV) (f : List AV → List AV → Option β) : asFn g (.fn g first cap) f = f first cap := by simp [asFn]
theorem asNil_n {β : Type} (o : Option β) : asNil [] o = o := rfl
theorem ready_n {β : Type} {S : Heap} {c : List (Nat × List AV)} (h : S.cx = (none, c)) (o : Option β) : ready S o = o := by simp [ready, h]
theorem endIt_n {T : Heap} {v : AV} {c : List (Nat × List AV)} (cx : Cx) (h : T.cx = (none, c)) : endIt cx (v, T) = (.normal, { T with cx := cx }) := by simp [endIt, h]
theorem putV_s {S : Heap} {i : Nat} {x : AV} (h : S.blk i = some [x]) : putV (.ptr i 0) [x] S = some S := by
  simp only [putV, h, List.length_cons, List.length_nil, Nat.le_refl, if_true, setCells, List.set_cons_zero]
  congr 1
  unfold Heap.set
  cases S with | mk nx bk cx =>
  simp only at h
  congr 1
  funext j
  by_cases hj : j = i
  · rw [if_pos hj, hj, h]
  · rw [if_neg hj]
theorem zM_byt : Byt zM := ⟨by decide, by decide⟩
theorem fa_byt {fi : Int} {ms : List M} (h : ∀ m ∈ ms, Byt m) (a : Int) : Byt (fa fi ms a).1 := by
  unfold fa
  split
  · exact h _ (List.getElem_mem _)
  · exact zM_byt
theorem lf_byt {fi w : Int} {ms : List M} (h : ∀ m ∈ ms, Byt m) : Byt (lf fi w ms).1 := by
  unfold lf
  split
  · exact zM_byt
  · exact fa_byt h _
/-- What one neighbour weighs. -/
def wv (nb : M × Bool) (h : M → Bool) (w : Nat) : Nat := if nb.2 && h nb.1 then w else 0
theorem wv_le (nb : M × Bool) (h : M → Bool) (w : Nat) : wv nb h w ≤ w := by unfold wv; split <;> omega
/-- The state of the loop over both. -/
structure WS (T U : Heap) (n : Nat) (fn wl nr : AV) (sum i : Nat) : Prop where
  nx : n + 5 ≤ U.next
  cx : U.cx = (none, T.cx.2)
  b0 : U.blk n = some [fn]
  b1 : U.blk (n + 1) = some [wl]
  b2 : U.blk (n + 1 + 1) = some [.int .i64 (sum : Int)]
  b3 : U.blk (n + 1 + 1 + 1) = some [.int .i64 (i : Int)]
  b4 : U.blk (n + 1 + 1 + 1 + 1) = some [nr]
  old : ∀ j, j < n → U.blk j = T.blk j
theorem WS.sum {T U : Heap} {n : Nat} {fn wl nr : AV} {sum i : Nat} (h : WS T U n fn wl nr sum i) (x : Nat) : WS T (U.set (n + 1 + 1) (some [.int .i64 (x : Int)])) n fn wl nr x i :=
  ⟨h.nx, h.cx, by rw [set_other _ _ (by omega)]; exact h.b0, by rw [set_other _ _ (by omega)]; exact h.b1, set_blk _ _ _, by rw [set_other _ _ (by omega)]; exact h.b3, by rw [set_other _ _ (by omega)]; exact h.b4, fun j hj => by rw [set_other _ _ (by omega)]; exact h.old j hj⟩
theorem WS.step {T U : Heap} {n : Nat} {fn wl nr : AV} {sum i : Nat} (h : WS T U n fn wl nr sum i) (x : Nat) : WS T (U.set (n + 1 + 1 + 1) (some [.int .i64 (x : Int)])) n fn wl nr sum x :=
  ⟨h.nx, h.cx, by rw [set_other _ _ (by omega)]; exact h.b0, by rw [set_other _ _ (by omega)]; exact h.b1, by rw [set_other _ _ (by omega)]; exact h.b2, set_blk _ _ _, by rw [set_other _ _ (by omega)]; exact h.b4, fun j hj => by rw [set_other _ _ (by omega)]; exact h.old j hj⟩
theorem putV_1' {S : Heap} {i : Nat} {x y : AV} (h : S.blk i = some [y]) : putV (.ptr i 0) [x] S = some (S.set i (some [x])) := by simp [putV, h, setCells]
theorem both_it {β : Type} {G : Nat → Option (List AV)} {C : CallF} {y : Nat} {Y : List AV → Heap → Option (AV × Heap)} {U0 : Heap} {cap : Nat} {g : AV × Heap → Option (AExit × Heap)} {F : AExit × Heap → Option β}
    (W : Option β → Prop) {nr : AV} {l a : M × Bool} (I1 I2 : Heap → Prop) (gl : Good 1000 l.1) (ga : Good 1000 a.1)
    (c0 : U0.blk cap = some [nr]) (c1 : ∀ U, I1 U → U.blk cap = some [nr]) (hL : C f_near_Near_Left 0 [nr] U0 = some (pair l, U0)) (hA : ∀ U, I1 U → C f_near_Near_Above 0 [nr] U = some (pair a, U))
    (y0 : ∃ U, Y [.agg l.1.cells, .bool l.2] U0 = some (.bool true, U) ∧ I1 U) (y1 : ∀ V, I1 V → ∃ U, Y [.agg a.1.cells, .bool a.2] V = some (.bool true, U) ∧ I2 U)
    (htr : ∀ U, I2 U → ctlW.tr U0 (.tup []) U = (.tup [], U)) (hfin : ∀ U, I2 U → W (bO (g (.tup [], U)) F)) :
    W (bO (bO (T_inc_both_1 ctlW G (withY C y Y) (.yld y) (.ptr cap 0) U0) g) F) := by
  have key : ∃ U, T_inc_both_1 ctlW G (withY C y Y) (.yld y) (.ptr cap 0) U0 = some (.tup [], U) ∧ I2 U := by
    have yl : f_near_Near_Left ≠ yldId := by decide
    have ya : f_near_Near_Above ≠ yldId := by decide
    obtain ⟨U1, e1, h1⟩ := y0
    obtain ⟨U2, e2, h2⟩ := y1 U1 h1
    have e3 := hA U1 h1
    have b1 := c1 U1 h1
    unfold pair at hL e3
    refine ⟨U2, ?_, h2⟩
    unfold T_inc_both_1
    simp only [bO_s, gB_t, asBool_b, asInt_i, asAgg_a, asTup_a, asStr_s, asCons_c, nthA_0, nthA_s, aggCells_a, addV_p, seeV_p, seeV_i, same_nil, tr_same, eql4, neq4, decide_true, decide_false, Bool.false_eq_true, if_false, if_true, Bool.not_true, Bool.not_false, Bool.and_true, Bool.true_and, Bool.and_self, List.getElem?_cons_zero, List.getElem?_cons_succ, Nat.zero_add, Nat.add_zero, beq_self_eq_true, bne_self_eq_false, Int.reduceBNe, Int.reduceBEq, Int.reduceLT, Int.reduceGT, Int.reduceLE, Int.reduceGE, Nat.reduceAdd, Nat.reduceMul, Nat.reduceLeDiff, c0, withY_n _ _ _ yl, hL, callK_y, withY_y, e1, b1, withY_n _ _ _ ya, e3, e2, htr U2 h2]
  obtain ⟨U, e, hU⟩ := key
  rw [e]
  exact hfin U hU
set_option maxHeartbeats 2000000 in
theorem weigh_c {B : CallF} (hB : Known B) (k : Nat) {T : Heap} {p q : Nat} {fi w : Int} {ms : List M} (h : Obj T p q fi w ms) (hby : ∀ m ∈ ms, Byt m) (hcx : T.cx.1 = none) {fh : Nat} {cap : List AV} (yh : ¬ yldId ≤ fh) (hv : M → Bool) {w0 w1 : Nat} (hw0 : w0 ≤ 10) (hw1 : w1 ≤ 10)
    (hc : ∀ m U, Good 1000 m → Byt m → (∀ j, j < T.next → U.blk j = T.blk j) → Cn B (k + 4) fh 0 (.agg m.cells :: cap) U = some (.bool (hv m), U)) :
    Cn B (k + 5) f_inc_weigh 0 [.ptr p 0, .fn fh [] cap, .is 2 [.int .i64 (w0 : Int), .int .i64 (w1 : Int)]] T = some (.int .i64 ((wv (lf fi w ms) hv w0 + wv (fa fi ms (fi + ms.length - w)) hv w1 : Nat) : Int), T) := by
  rw [c_inc_weigh _ _ _ _ _ _ (hB.no _ _ _ _ (by decide)), T_inc_weigh]
  obtain ⟨gl, bl⟩ : Good 1000 (lf fi w ms).1 ∧ Byt (lf fi w ms).1 := ⟨(lf_good h.good).1, lf_byt hby⟩
  obtain ⟨ga, ba⟩ : Good 1000 (fa fi ms (fi + ms.length - w)).1 ∧ Byt (fa fi ms (fi + ms.length - w)).1 := ⟨(fa_good h.good _).1, fa_byt hby _⟩
  obtain ⟨n, hn⟩ : ∃ n, n = T.next := ⟨_, rfl⟩
  obtain ⟨fnv, hf⟩ : ∃ f, f = AV.fn fh [] cap := ⟨_, rfl⟩
  obtain ⟨wl, hwl⟩ : ∃ f, f = AV.is 2 [.int .i64 (w0 : Int), .int .i64 (w1 : Int)] := ⟨_, rfl⟩
  obtain ⟨S4, hS4⟩ : ∃ S4, S4 = (((T.alloc [fnv]).alloc [wl]).alloc [.int .i64 0]).alloc [.int .i64 0] := ⟨_, rfl⟩
  have hcf : cell fnv = true := by rw [hf]; rfl
  have hcw : cell wl = true := by rw [hwl]; rfl
  have n4 : S4.next = n + 1 + 1 + 1 + 1 := by rw [hS4, hn]; rfl
  have a0 : S4.blk n = some [fnv] := by
    rw [hS4, alloc_other _ _ (by simp only [alloc_next]; omega), alloc_other _ _ (by simp only [alloc_next]; omega), alloc_other _ _ (by simp only [alloc_next]; omega), hn, alloc_blk]
  have a1 : S4.blk (n + 1) = some [wl] := by
    rw [hS4, alloc_other _ _ (by simp only [alloc_next]; omega), alloc_other _ _ (by simp only [alloc_next]; omega), hn]; exact alloc_blk _ _
  have a2 : S4.blk (n + 1 + 1) = some [.int .i64 0] := by
    rw [hS4, alloc_other _ _ (by simp only [alloc_next]; omega), hn]; exact alloc_blk _ _
  have a3 : S4.blk (n + 1 + 1 + 1) = some [.int .i64 0] := by rw [hS4, hn]; exact alloc_blk _ _
  have aold : ∀ j, j < n → S4.blk j = T.blk j := fun j hj => by
    rw [hS4, alloc_other _ _ (by simp only [alloc_next]; omega), alloc_other _ _ (by simp only [alloc_next]; omega), alloc_other _ _ (by simp only [alloc_next]; omega), alloc_other _ _ (by omega)]
  have acx : S4.cx = T.cx := by rw [hS4]; rfl
  have p1 := putV_s a2
  have p2 := putV_s a3
  have hboth : Cn B (k + 4) f_inc_both 0 [.ptr p 0] S4 = some (.fn f_inc_both_1 [] [.ptr S4.next 0], S4.alloc [.ptr p 0]) := by
    rw [c_inc_both _ _ _ _ (hB.no _ _ _ _ (by decide)), T_inc_both]
    have : cell (.ptr p 0) = true := rfl
    simp only [bO_s, gB_t, asBool_b, asInt_i, asAgg_a, asTup_a, asStr_s, asCons_c, nthA_0, nthA_s, aggCells_a, addV_p, seeV_p, seeV_i, same_nil, tr_same, eql4, neq4, decide_true, decide_false, Bool.false_eq_true, if_false, if_true, Bool.not_true, Bool.not_false, Bool.and_true, Bool.true_and, Bool.and_self, List.getElem?_cons_zero, List.getElem?_cons_succ, Nat.zero_add, Nat.add_zero, beq_self_eq_true, bne_self_eq_false, Int.reduceBNe, Int.reduceBEq, Int.reduceLT, Int.reduceGT, Int.reduceLE, Int.reduceGE, Nat.reduceAdd, Nat.reduceMul, Nat.reduceLeDiff, this]
    rw [tr_id2 rfl]
  rw [← hf, ← hwl]
  simp only [bO_s, gB_t, asBool_b, asInt_i, asAgg_a, asTup_a, asStr_s, asCons_c, nthA_0, nthA_s, aggCells_a, addV_p, seeV_p, seeV_i, same_nil, tr_same, eql4, neq4, decide_true, decide_false, Bool.false_eq_true, if_false, if_true, Bool.not_true, Bool.not_false, Bool.and_true, Bool.true_and, Bool.and_self, List.getElem?_cons_zero, List.getElem?_cons_succ, Nat.zero_add, Nat.add_zero, beq_self_eq_true, bne_self_eq_false, Int.reduceBNe, Int.reduceBEq, Int.reduceLT, Int.reduceGT, Int.reduceLE, Int.reduceGE, Nat.reduceAdd, Nat.reduceMul, Nat.reduceLeDiff, hcf, hcw, alloc_next, ← hn]
  rw [← hS4]
  simp only [bO_s, gB_t, asBool_b, asInt_i, asAgg_a, asTup_a, asStr_s, asCons_c, nthA_0, nthA_s, aggCells_a, addV_p, seeV_p, seeV_i, same_nil, tr_same, eql4, neq4, decide_true, decide_false, Bool.false_eq_true, if_false, if_true, Bool.not_true, Bool.not_false, Bool.and_true, Bool.true_and, Bool.and_self, List.getElem?_cons_zero, List.getElem?_cons_succ, Nat.zero_add, Nat.add_zero, beq_self_eq_true, bne_self_eq_false, Int.reduceBNe, Int.reduceBEq, Int.reduceLT, Int.reduceGT, Int.reduceLE, Int.reduceGE, Nat.reduceAdd, Nat.reduceMul, Nat.reduceLeDiff, p1, p2, hboth, asFn_f, asNil_n]
  obtain ⟨S5, hS5⟩ : ∃ S5, S5 = S4.alloc [.ptr p 0] := ⟨_, rfl⟩
  rw [← hS5]
  have n5 : S5.next = n + 5 := by rw [hS5, alloc_next, n4]
  have w5 : WS T (begIt S5) n fnv wl (.ptr p 0) 0 0 := by
    refine ⟨by show n + 5 ≤ S5.next + 1; omega, by show (none, S5.cx.2) = _; rw [hS5]; show (none, S4.cx.2) = _; rw [acx], ?_, ?_, ?_, ?_, ?_, fun j hj => ?_⟩
    · show S5.blk _ = _; rw [hS5, alloc_other _ _ (by omega)]; exact a0
    · show S5.blk _ = _; rw [hS5, alloc_other _ _ (by omega)]; exact a1
    · show S5.blk _ = _; rw [hS5, alloc_other _ _ (by omega)]; exact a2
    · show S5.blk _ = _; rw [hS5, alloc_other _ _ (by omega)]; exact a3
    · show S5.blk _ = _; rw [hS5, ← n4]; exact alloc_blk S4 _
    · show S5.blk _ = _; rw [hS5, alloc_other _ _ (by omega)]; exact aold j hj
  have hS5cx : S5.cx = T.cx := by rw [hS5]; exact acx
  have b4 : (begIt S5).blk S4.next = some [.ptr p 0] := by rw [n4]; exact w5.b4
  have obj : ∀ {U : Heap} {s i : Nat}, WS T U n fnv wl (.ptr p 0) s i → Obj U p q fi w ms := fun {U s i} hU =>
    h.keep (by have := hU.nx; omega) (hU.old _ (by have := h.lp; omega)) fun h0 => hU.old _ (by have := h.lq h0; omega)
  have e1 := left_c hB.no k (obj w5)
  have e2f : ∀ {U : Heap} {s i : Nat}, WS T U n fnv wl (.ptr p 0) s i → Cn B (k + 4) f_near_Near_Above 0 [.ptr p 0] U = some (pair (fa fi ms (fi + ms.length - w)), U) := fun hU => above_c hB.no k (obj hU)
  have h29 : (29 : Nat) ≤ 29 := by omega
  have i0 : aIdx 1 wl (0 : Int) = some (.iptr [.int .i64 (w0 : Int), .int .i64 (w1 : Int)]) := by rw [hwl]; rfl
  have i1 : aIdx 1 wl (1 : Int) = some (.iptr [.int .i64 (w1 : Int)]) := by rw [hwl]; rfl
  have cn : ∀ m U, Good 1000 m → Byt m → (∀ j, j < T.next → U.blk j = T.blk j) → ∀ (K : AV → Heap → Option LSt), callK (Cn B (k + 4)) .none fnv [.agg m.cells] U K = K (.bool (hv m)) U := fun m U gm bm hU K => by
    rw [hf, callK_f _ yh]
    have := hc m U gm bm hU
    show bO (Cn B (k + 4) fh 0 ([.agg m.cells] ++ cap) U) _ = _
    rw [show [AV.agg m.cells] ++ cap = .agg m.cells :: cap from rfl, this]; rfl
  generalize lf fi w ms = x at gl bl e1 ⊢
  generalize fa fi ms (fi + ms.length - w) = y at ga ba e2f ⊢
  have round : ∀ {z : M × Bool} (gz : Good 1000 z.1) (bz : Byt z.1) {U : Heap} {s i wi : Nat}, s ≤ 100 → i ≤ 1 → wi ≤ 10 → (∃ l, aIdx 1 wl (i : Int) = some (.iptr (.int .i64 (wi : Int) :: l))) → WS T U n fnv wl (.ptr p 0) s i →
      ∃ V, WS T V n fnv wl (.ptr p 0) (s + wv z hv wi) (i + 1) ∧ (z.2 = true → hv z.1 = true → V = (U.set (n + 1 + 1) (some [.int .i64 ((s + wi : Nat) : Int)])).set (n + 1 + 1 + 1) (some [.int .i64 ((i + 1 : Nat) : Int)])) ∧ (¬ (z.2 = true ∧ hv z.1 = true) → V = U.set (n + 1 + 1 + 1) (some [.int .i64 ((i + 1 : Nat) : Int)])) := by
    intro z gz bz U s i wi hs hi hwi hix hU
    by_cases hc2 : z.2 = true ∧ hv z.1 = true
    · refine ⟨_, ?_, fun _ _ => rfl, fun hn => absurd hc2 hn⟩
      have : wv z hv wi = wi := by unfold wv; rw [hc2.1, hc2.2]; rfl
      rw [this]
      exact (hU.sum (s + wi)).step (i + 1)
    · refine ⟨_, ?_, fun h1 h2 => absurd ⟨h1, h2⟩ hc2, fun _ => rfl⟩
      have : wv z hv wi = 0 := by
        unfold wv
        rw [if_neg]
        simpa using hc2
      rw [this, Nat.add_zero]
      exact hU.step (i + 1)
  refine both_it (fun o => o = some (AV.int .i64 ((wv x hv w0 + wv y hv w1 : Nat) : Int), T)) (nr := .ptr p 0) (l := x) (a := y) (fun U => WS T U n fnv wl (.ptr p 0) (0 + wv x hv w0) 1) (fun U => WS T U n fnv wl (.ptr p 0) (0 + wv x hv w0 + wv y hv w1) 2) gl ga b4 (fun U hU => by rw [n4]; exact hU.b4) e1 (fun U hU => e2f hU) ?_ ?_ ?_ ?_
  · obtain ⟨V, v1, v2, v3⟩ := round gl bl (s := 0) (i := 0) (wi := w0) (by omega) (by omega) hw0 ⟨_, i0⟩ w5
    refine ⟨V, ?_, v1⟩
    have l29 := M.len gl.pre
    have z29 := M.z gl.pre
    have t29 : List.take 29 x.1.cells = x.1.cells := M.t29 gl.pre
    have c29 := gl.cell
    have cc := cn x.1 (begIt S5) gl bl fun j hj => w5.old j (by omega)
    have wr0 : IntKind.wrap .i64 (((0 : Nat) : Int) + (w0 : Int)) = ((0 + w0 : Nat) : Int) := by rw [wr _ (by omega)]; omega
    have wr1 : IntKind.wrap .i64 (((0 : Nat) : Int) + 1) = ((0 + 1 : Nat) : Int) := rfl
    have b2 := w5.b2
    have b3 := w5.b3
    have i0' : aIdx 1 wl ((0 : Nat) : Int) = some (.iptr [.int .i64 (w0 : Int), .int .i64 (w1 : Int)]) := i0
    cases hx2 : x.2 with
    | false =>
      have := v3 (by rw [hx2]; simp)
      subst this
      have pp := putV_1' (x := .int .i64 ((0 + 1 : Nat) : Int)) b3
      simp only [bO_s, gB_t, asBool_b, asInt_i, asAgg_a, asTup_a, asStr_s, asCons_c, nthA_0, nthA_s, aggCells_a, addV_p, seeV_p, seeV_i, same_nil, tr_same, eql4, neq4, decide_true, decide_false, Bool.false_eq_true, if_false, if_true, Bool.not_true, Bool.not_false, Bool.and_true, Bool.true_and, Bool.and_self, List.getElem?_cons_zero, List.getElem?_cons_succ, Nat.zero_add, Nat.add_zero, beq_self_eq_true, bne_self_eq_false, Int.reduceBNe, Int.reduceBEq, Int.reduceLT, Int.reduceGT, Int.reduceLE, Int.reduceGE, Nat.reduceAdd, Nat.reduceMul, Nat.reduceLeDiff, asNil_n, ready_n w5.cx, l29, z29, c29, h29, t29, b3, wr1, pp]
    | true =>
      cases hhv : hv x.1 with
      | false =>
        rw [hhv] at cc
        have := v3 (by rw [hhv]; simp)
        subst this
        have pp := putV_1' (x := .int .i64 ((0 + 1 : Nat) : Int)) b3
        simp only [bO_s, gB_t, asBool_b, asInt_i, asAgg_a, asTup_a, asStr_s, asCons_c, nthA_0, nthA_s, aggCells_a, addV_p, seeV_p, seeV_i, same_nil, tr_same, eql4, neq4, decide_true, decide_false, Bool.false_eq_true, if_false, if_true, Bool.not_true, Bool.not_false, Bool.and_true, Bool.true_and, Bool.and_self, List.getElem?_cons_zero, List.getElem?_cons_succ, Nat.zero_add, Nat.add_zero, beq_self_eq_true, bne_self_eq_false, Int.reduceBNe, Int.reduceBEq, Int.reduceLT, Int.reduceGT, Int.reduceLE, Int.reduceGE, Nat.reduceAdd, Nat.reduceMul, Nat.reduceLeDiff, asNil_n, ready_n w5.cx, l29, z29, c29, h29, t29, List.drop_zero, w5.b0, cc, b3, wr1, pp]
      | true =>
        rw [hhv] at cc
        have := v2 hx2 hhv
        subst this
        have ps := putV_1' (x := .int .i64 ((0 + w0 : Nat) : Int)) b2
        have w6 := w5.sum (0 + w0)
        have pp := putV_1' (x := .int .i64 ((0 + 1 : Nat) : Int)) w6.b3
        have wb3 := w6.b3
        simp only [Nat.zero_add] at ps pp wr0 wb3
        simp only [bO_s, gB_t, asBool_b, asInt_i, asAgg_a, asTup_a, asStr_s, asCons_c, nthA_0, nthA_s, aggCells_a, addV_p, seeV_p, seeV_i, same_nil, tr_same, eql4, neq4, decide_true, decide_false, Bool.false_eq_true, if_false, if_true, Bool.not_true, Bool.not_false, Bool.and_true, Bool.true_and, Bool.and_self, List.getElem?_cons_zero, List.getElem?_cons_succ, Nat.zero_add, Nat.add_zero, beq_self_eq_true, bne_self_eq_false, Int.reduceBNe, Int.reduceBEq, Int.reduceLT, Int.reduceGT, Int.reduceLE, Int.reduceGE, Nat.reduceAdd, Nat.reduceMul, Nat.reduceLeDiff, wb3, asNil_n, ready_n w5.cx, l29, z29, c29, h29, t29, List.drop_zero, w5.b0, cc, b2, w5.b1, b3, i0', wr0, ps, w6.b3, wr1, pp]
  · rintro U hU
    obtain ⟨V, v1, v2, v3⟩ := round ga ba (s := 0 + wv x hv w0) (i := 1) (wi := w1) (by have := wv_le x hv w0; omega) (by omega) hw1 ⟨_, i1⟩ hU
    refine ⟨V, ?_, v1⟩
    have hwv := wv_le x hv w0
    have l29 := M.len ga.pre
    have z29 := M.z ga.pre
    have t29 : List.take 29 y.1.cells = y.1.cells := M.t29 ga.pre
    have c29 := ga.cell
    have cc := cn y.1 U ga ba fun j hj => hU.old j (by omega)
    have wr0 : IntKind.wrap .i64 (((0 + wv x hv w0 : Nat) : Int) + (w1 : Int)) = ((0 + wv x hv w0 + w1 : Nat) : Int) := by rw [wr _ (by omega)]; omega
    have wr1 : IntKind.wrap .i64 (((1 : Nat) : Int) + 1) = ((1 + 1 : Nat) : Int) := rfl
    have b2 := hU.b2
    have b3 := hU.b3
    have i1' : aIdx 1 wl ((1 : Nat) : Int) = some (.iptr [.int .i64 (w1 : Int)]) := i1
    generalize 0 + wv x hv w0 = s at *
    cases hx2 : y.2 with
    | false =>
      have := v3 (by rw [hx2]; simp)
      subst this
      have pp := putV_1' (x := .int .i64 ((1 + 1 : Nat) : Int)) b3
      simp only [bO_s, gB_t, asBool_b, asInt_i, asAgg_a, asTup_a, asStr_s, asCons_c, nthA_0, nthA_s, aggCells_a, addV_p, seeV_p, seeV_i, same_nil, tr_same, eql4, neq4, decide_true, decide_false, Bool.false_eq_true, if_false, if_true, Bool.not_true, Bool.not_false, Bool.and_true, Bool.true_and, Bool.and_self, List.getElem?_cons_zero, List.getElem?_cons_succ, Nat.zero_add, Nat.add_zero, beq_self_eq_true, bne_self_eq_false, Int.reduceBNe, Int.reduceBEq, Int.reduceLT, Int.reduceGT, Int.reduceLE, Int.reduceGE, Nat.reduceAdd, Nat.reduceMul, Nat.reduceLeDiff, asNil_n, ready_n hU.cx, l29, z29, c29, h29, t29, b3, wr1, pp]
    | true =>
      cases hhv : hv y.1 with
      | false =>
        rw [hhv] at cc
        have := v3 (by rw [hhv]; simp)
        subst this
        have pp := putV_1' (x := .int .i64 ((1 + 1 : Nat) : Int)) b3
        simp only [bO_s, gB_t, asBool_b, asInt_i, asAgg_a, asTup_a, asStr_s, asCons_c, nthA_0, nthA_s, aggCells_a, addV_p, seeV_p, seeV_i, same_nil, tr_same, eql4, neq4, decide_true, decide_false, Bool.false_eq_true, if_false, if_true, Bool.not_true, Bool.not_false, Bool.and_true, Bool.true_and, Bool.and_self, List.getElem?_cons_zero, List.getElem?_cons_succ, Nat.zero_add, Nat.add_zero, beq_self_eq_true, bne_self_eq_false, Int.reduceBNe, Int.reduceBEq, Int.reduceLT, Int.reduceGT, Int.reduceLE, Int.reduceGE, Nat.reduceAdd, Nat.reduceMul, Nat.reduceLeDiff, asNil_n, ready_n hU.cx, l29, z29, c29, h29, t29, List.drop_zero, hU.b0, cc, b3, wr1, pp]
      | true =>
        rw [hhv] at cc
        have := v2 hx2 hhv
        subst this
        have ps := putV_1' (x := .int .i64 ((s + w1 : Nat) : Int)) b2
        have w6 := hU.sum (s + w1)
        have pp := putV_1' (x := .int .i64 ((1 + 1 : Nat) : Int)) w6.b3
        simp only [bO_s, gB_t, asBool_b, asInt_i, asAgg_a, asTup_a, asStr_s, asCons_c, nthA_0, nthA_s, aggCells_a, addV_p, seeV_p, seeV_i, same_nil, tr_same, eql4, neq4, decide_true, decide_false, Bool.false_eq_true, if_false, if_true, Bool.not_true, Bool.not_false, Bool.and_true, Bool.true_and, Bool.and_self, List.getElem?_cons_zero, List.getElem?_cons_succ, Nat.zero_add, Nat.add_zero, beq_self_eq_true, bne_self_eq_false, Int.reduceBNe, Int.reduceBEq, Int.reduceLT, Int.reduceGT, Int.reduceLE, Int.reduceGE, Nat.reduceAdd, Nat.reduceMul, Nat.reduceLeDiff, asNil_n, ready_n hU.cx, l29, z29, c29, h29, t29, List.drop_zero, hU.b0, cc, b2, hU.b1, b3, i1', wr0, ps, w6.b3, wr1, pp]
  · rintro U hU
    refine tr_ne (n + 1 + 1 + 1) (by show _ < S5.next + 1; omega) ?_
    rw [hU.b3, w5.b3]
    intro he
    simp only [Option.some.injEq, List.cons.injEq, AV.int.injEq, true_and, and_true] at he
    omega
  · rintro U hU
    have hb2 := hU.b2
    have hn5 := hU.nx
    rw [Nat.zero_add] at hb2
    have en := endIt_n (v := .tup []) S5.cx hU.cx
    show bO (some (endIt S5.cx (.tup [], U))) _ = _
    rw [bO_s, en]
    have hb2' : ({ U with cx := S5.cx } : Heap).blk (n + 1 + 1) = some [.int .i64 ((wv x hv w0 + wv y hv w1 : Nat) : Int)] := hb2
    simp only [if_true, hb2, bO_s, List.getElem?_cons_zero, asInt_i]
    have hEx : Ext T ({ U with cx := S5.cx } : Heap) := ⟨by show T.next ≤ U.next; omega, hS5cx, fun j hj => hU.old j (by omega)⟩
    rw [tr_S rfl hEx]
end Go.Ab.tNearU
