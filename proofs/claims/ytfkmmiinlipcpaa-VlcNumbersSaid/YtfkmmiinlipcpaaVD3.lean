/- The statements VlcApart and VlcNumbers. -/
import Derived.Test.YtfkmmiinlipcpaaVD2
set_option maxRecDepth 100000
set_option linter.unusedSimpArgs false
set_option linter.unusedVariables false
set_option linter.unusedSectionVars false
namespace Go.Ab.tV
open Go Go.Proofs

theorem toList_loop (bs : ByteArray) : ∀ (n i : Nat) (r : List UInt8), bs.size - i = n → ByteArray.toList.loop bs i r = r.reverse ++ bs.data.toList.drop i
  | 0, i, r, h => by
    unfold ByteArray.toList.loop
    have hs : bs.size = bs.data.toList.length := by rw [Array.length_toList]; rfl
    rw [if_neg (by omega), List.drop_eq_nil_of_le (by omega), List.append_nil]
  | n + 1, i, r, h => by
    unfold ByteArray.toList.loop
    have hs : bs.size = bs.data.toList.length := by rw [Array.length_toList]; rfl
    have hi : i < bs.data.toList.length := by omega
    rw [if_pos (by omega), toList_loop bs n (i + 1) _ (by omega), List.drop_eq_getElem_cons hi]
    have hg : bs.get! i = bs.data.toList[i] := by
      have hi' : i < bs.data.size := by simpa using hi
      simp [ByteArray.get!, getElem!_pos bs.data i hi']
    rw [hg]; simp
theorem toList_data (bs : ByteArray) : bs.toList = bs.data.toList := by
  unfold ByteArray.toList
  rw [toList_loop bs _ 0 [] rfl]; simp
theorem strEq_true {x y : ByteArray} (h : strEq x y = true) : x = y := by
  unfold strEq at h
  have := eq_of_beq h
  rw [toList_data, toList_data] at this
  apply ByteArray.ext
  exact Array.toList_inj.1 this
theorem strEq_ne {x y : ByteArray} (h : x ≠ y) : strEq x y = false := by
  cases hq : strEq x y with
  | false => rfl
  | true => exact absurd (strEq_true hq) h
theorem bitStr_list (bs : List Bool) : (bitStr bs).data.toList = bs.map fun b => UInt8.ofNat (bitC b) := by simp [bitStr, strB]
theorem bitC_inj (a b : Bool) (h : UInt8.ofNat (bitC a) = UInt8.ofNat (bitC b)) : a = b := by
  cases a <;> cases b <;> first | rfl | (exact absurd h (by decide))
theorem map_inj' {α β : Type} {f : α → β} (hf : ∀ a b, f a = f b → a = b) : ∀ {l m : List α}, l.map f = m.map f → l = m
  | [], [], _ => rfl
  | [], _ :: _, h => by simp at h
  | _ :: _, [], h => by simp at h
  | a :: l, b :: m, h => by
    simp only [List.map_cons, List.cons.injEq] at h
    rw [hf _ _ h.1, map_inj' hf h.2]
section
variable {B : CallF} (hB : Silent B) (k : Nat) {S : Heap}
include hB
theorem begins_c (x y : List Bool) : ∃ b, Cn B (k + 1) f_spindlelaw18_begins 0 [.str (bitStr x), .str (bitStr y)] S = some (.bool b, S) ∧ (b = true → ∃ r, x = y ++ r) := by
  rw [c_spindlelaw18_begins _ _ _ _ _ (hB.no _ _ _ _ (kn_no (by decide))), T_spindlelaw18_begins]
  by_cases h : ((bitStr x).size : Int) ≥ ((bitStr y).size : Int)
  · have hs : aSlice Try.prog 9 (.str (bitStr x)) none (some (.int .i64 ((bitStr y).size : Int))) = some (.str ((bitStr x).extract 0 (bitStr y).size)) := by
      have hu : Try.prog.underlying 9 = some .string := by kernel_rfl
      have hle : (bitStr y).size ≤ (bitStr x).size := by omega
      simp [aSlice, hu, aNat, hle]
    refine ⟨strEq ((bitStr x).extract 0 (bitStr y).size) (bitStr y), by simp only [eql_ptr31, eql_nilp31, eql_ptr38, eql_nilp38, eql_ptr54, eql_nilp54, eql_ptr62, eql_nilp62, eql_ptr137, eql_nilp137, eql_ptr149, eql_nilp149, eql_b4, neq_b4, len_nils37, len_is37, len_hs37, len_nils71, len_is71, len_hs71, len_nils76, len_is76, len_hs76, len_nils81, len_is81, len_hs81, len_nils100, len_is100, len_hs100, len_nils103, len_is103, len_hs103, bO_s, gB_t, asBool_b, asInt_i, asAgg_a, asTup_a, asStr_s, asCons_c, asNil_n, nthA_0, nthA_s, aggCells_a, addV_p, addV_i, seeV_p, seeV_i, same_nil, same_1, same_2, tr_v, decide_true, decide_false, Bool.false_eq_true, if_false, if_true, Bool.not_true, Bool.not_false, Bool.and_true, Bool.true_and, Bool.and_self, List.getElem?_cons_zero, List.getElem?_cons_succ, Nat.zero_add, Nat.add_zero, beq_self_eq_true, bne_self_eq_false, Int.reduceBNe, Int.reduceBEq, Int.reduceLT, Int.reduceGT, Int.reduceLE, Int.reduceGE, Nat.reduceAdd, Nat.reduceMul, Nat.reduceLeDiff, h, hs], fun hq => ?_⟩
    have e := strEq_true hq
    have e2 := congrArg (fun b => b.data.toList) e
    simp only [ByteArray.data_extract, Array.toList_extract, bits_len] at e2
    rw [bitStr_list, bitStr_list, List.extract_eq_take_drop, List.drop_zero, Nat.sub_zero, ← List.map_take] at e2
    have e4 := map_inj' bitC_inj e2
    exact ⟨x.drop y.length, by have := List.take_append_drop y.length x; rw [e4] at this; exact this.symm⟩
  · exact ⟨false, by simp only [eql_ptr31, eql_nilp31, eql_ptr38, eql_nilp38, eql_ptr54, eql_nilp54, eql_ptr62, eql_nilp62, eql_ptr137, eql_nilp137, eql_ptr149, eql_nilp149, eql_b4, neq_b4, len_nils37, len_is37, len_hs37, len_nils71, len_is71, len_hs71, len_nils76, len_is76, len_hs76, len_nils81, len_is81, len_hs81, len_nils100, len_is100, len_hs100, len_nils103, len_is103, len_hs103, bO_s, gB_t, asBool_b, asInt_i, asAgg_a, asTup_a, asStr_s, asCons_c, asNil_n, nthA_0, nthA_s, aggCells_a, addV_p, addV_i, seeV_p, seeV_i, same_nil, same_1, same_2, tr_v, decide_true, decide_false, Bool.false_eq_true, if_false, if_true, Bool.not_true, Bool.not_false, Bool.and_true, Bool.true_and, Bool.and_self, List.getElem?_cons_zero, List.getElem?_cons_succ, Nat.zero_add, Nat.add_zero, beq_self_eq_true, bne_self_eq_false, Int.reduceBNe, Int.reduceBEq, Int.reduceLT, Int.reduceGT, Int.reduceLE, Int.reduceGE, Nat.reduceAdd, Nat.reduceMul, Nat.reduceLeDiff, h], fun h => by cases h⟩
end
/-- There is a string with given bits. -/
theorem has_some (l : List Bool) : ∃ s, Has s 0 l := by
  have key : ∀ l : List Bool, ∃ W part n, l.reverse = bitsW W part n ∧ n < 8 ∧ part < 2 ^ n ∧ ∀ x ∈ W, x < 256 := by
    intro l
    induction l with
    | nil => exact ⟨[], 0, 0, rfl, by omega, by omega, by simp⟩
    | cons b l ih =>
      obtain ⟨W, part, n, h1, h2, h3, h4⟩ := ih
      obtain ⟨c, hc, hcb⟩ : ∃ c, c < 2 ∧ (c == 1) = b := by
        cases b
        · exact ⟨0, by omega, rfl⟩
        · exact ⟨1, by omega, rfl⟩
      have hp : 2 * part + c < 2 ^ (n + 1) := by rw [Nat.pow_succ]; omega
      by_cases h8 : n + 1 = 8
      · refine ⟨W ++ [2 * part + c], 0, 0, ?_, by omega, by omega, fun x hx => ?_⟩
        · rw [List.reverse_cons, h1, ← hcb]
          have e8 : bitsN 8 (2 * part + c) = bitsN n part ++ [c == 1] := by rw [← bitsN_snoc n part c hc, h8]
          have e0 : bitsN 0 0 = [] := rfl
          simp only [bitsW, List.flatMap_append, List.flatMap_cons, List.flatMap_nil, List.append_nil, e8, e0, List.append_assoc]
        · rcases List.mem_append.1 hx with hx | hx
          · exact h4 x hx
          · rw [List.mem_singleton.1 hx]
            rw [h8] at hp; omega
      · refine ⟨W, 2 * part + c, n + 1, ?_, by omega, hp, h4⟩
        rw [List.reverse_cons, h1, ← hcb]
        simp only [bitsW, List.append_assoc, bitsN_snoc n part c hc]
  obtain ⟨W, part, n, h1, h2, h3, h4⟩ := key l.reverse
  rw [List.reverse_reverse] at h1
  rw [h1]
  exact ⟨strB (pad W part n), has_pad h4 h2 h3 (fun j hj => by rw [strB_get, List.getElem?_eq_getElem hj]; rfl) (by rw [strB_size]; exact Nat.le_refl _)⟩
structure Same (x y : Cal) : Prop where
  w : x.w = y.w
  a : x.a = y.a
  b : x.b = y.b
  c : x.w ≠ 0 → x.c = y.c
theorem cal_apart {x y : Cal} (hx : Good x) (hy : Good y) (hs : Same x y) {r : List Bool} (h : (calP x).2 = (calP y).2 ++ r) : x = y := by
  obtain ⟨s, hH⟩ := has_some (calP x).2
  have hH2 := hH
  rw [h, Has.app] at hH2
  have hH3 := hH2.1
  clear hH2
  unfold calP at hH hH3
  obtain ⟨xw, xa, xb, xc, xd⟩ := x
  obtain ⟨yw, ya, yb, yc, yd⟩ := y
  obtain ⟨s1, s2, s3, s4⟩ := hs
  simp only at s1 s2 s3 s4 hH hH3
  subst s1 s2 s3
  by_cases h0 : xw = 0
  · rw [if_pos h0] at hH hH3
    have r1 := (tok_good hx h0).2 s 0 hH
    have r2 := (tok_good hy h0).2 s 0 hH3
    simp only at r1 r2
    rw [r1] at r2
    simp only [Prod.mk.injEq] at r2
    obtain ⟨q1, q2, _⟩ := r2
    rw [q1, q2]
  · have hc := s4 h0
    subst hc
    rw [if_neg h0] at hH hH3
    by_cases h1 : xw = 1
    · rw [if_pos h1] at hH hH3
      have r1 := (zer_good hx.b (hx.t1 h1).1 (hx.t1 h1).2).2 s 0 hH
      have r2 := (zer_good hy.b (hy.t1 h1).1 (hy.t1 h1).2).2 s 0 hH3
      simp only at r1 r2
      rw [r1] at r2
      simp only [Prod.mk.injEq] at r2
      rw [r2.1]
    · rw [if_neg h1] at hH hH3
      have h2 : xw = 2 := by have := hx.w; simp only at this; omega
      have r1 := (run_good (hx.t2 h2).1 (hx.t2 h2).2).2 s 0 hH
      have r2 := (run_good (hy.t2 h2).1 (hy.t2 h2).2).2 s 0 hH3
      simp only at r1 r2
      rw [r1] at r2
      simp only [Prod.mk.injEq] at r2
      rw [r2.1]
theorem pr_int8 {d : Nat} {a b : Int} : pureRun Try.prog (Op.equalIn (d + 1) 5 (.int .u8 a) (.int .u8 b)) = some (a == b) := pr_int (show Try.prog.underlying 5 = some (.int .u8) by kernel_rfl)
theorem pr_int64 {d : Nat} {a b : Int} : pureRun Try.prog (Op.equalIn (d + 1) 3 (.int .i64 a) (.int .i64 b)) = some (a == b) := pr_int (show Try.prog.underlying 3 = some (.int .i64) by kernel_rfl)
theorem eql_call (x y : Cal) : aBin Try.prog .eql 41 (.agg x.cells) (.agg y.cells) = some (.bool (x.w == y.w && (x.a == y.a && (x.b == y.b && (x.c == y.c && x.d == y.d))))) := by
  obtain ⟨xw, xa, xb, xc, xd⟩ := x
  obtain ⟨yw, ya, yb, yc, yd⟩ := y
  unfold aBin
  simp only [Cal.cells, aEql]
  unfold aggEq
  have hg : Try.prog.eqGuardType Try.prog.depth 41 = false := by kernel_rfl
  simp only [toL, toS, hg, Bool.false_eq_true, if_false, Op.equal]
  have hq : (match Try.prog.underlying 41 with | some (.struct fs) => fs.toList.map (fun f => (f.name, f.offset, f.type)) | _ => []) = [("What", 0, 5), ("A", 1, 3), ("B", 2, 3), ("C", 3, 3), ("D", 4, 3)] := by kernel_rfl
  obtain ⟨f1, f2, f3, f4, f5, hS, o1, o2, o3, o4, o5, t1, t2, t3, t4, t5, n1, n2, n3, n4, n5⟩ : ∃ f1 f2 f3 f4 f5 : Field, Try.prog.underlying 41 = some (.struct #[f1, f2, f3, f4, f5]) ∧ f1.offset = 0 ∧ f2.offset = 1 ∧ f3.offset = 2 ∧ f4.offset = 3 ∧ f5.offset = 4 ∧ f1.type = 5 ∧ f2.type = 3 ∧ f3.type = 3 ∧ f4.type = 3 ∧ f5.type = 3 ∧ f1.name = "What" ∧ f2.name = "A" ∧ f3.name = "B" ∧ f4.name = "C" ∧ f5.name = "D" := by
    split at hq
    · rename_i fs hfs
      obtain ⟨l⟩ := fs
      match l, hq with
      | [f1, f2, f3, f4, f5], hq =>
        simp only [List.map_cons, List.map_nil, List.cons.injEq, Prod.mk.injEq, and_true] at hq
        obtain ⟨⟨a1, a2, a3⟩, ⟨b1, b2, b3⟩, ⟨c1, c2, c3⟩, ⟨d1, d2, d3⟩, e1, e2, e3⟩ := hq
        exact ⟨f1, f2, f3, f4, f5, hfs, a2, b2, c2, d2, e2, a3, b3, c3, d3, e3, a1, b1, c1, d1, e1⟩
    · cases hq
  have hp : Try.prog.stoodInHeld 41 = false := by kernel_rfl
  have u5 : Try.prog.underlying 5 = some (.int .u8) := by kernel_rfl
  have u3 : Try.prog.underlying 3 = some (.int .i64) := by kernel_rfl
  rw [show Op.maxDepth = 9998 + 2 from rfl, Op.equalIn]
  have pP : pureRun Try.prog program = some Try.prog := rfl
  have p0 : ∀ a b c d e : Int, pureRun Try.prog (part 5 #[.int .u8 a, .int .i64 b, .int .i64 c, .int .i64 d, .int .i64 e] 0) = some (.int .u8 a) := fun a b c d e => pr_part1 (cs := [_, _, _, _, _]) u5 rfl
  have p1 : ∀ a b c d e : Int, pureRun Try.prog (part 3 #[.int .u8 a, .int .i64 b, .int .i64 c, .int .i64 d, .int .i64 e] 1) = some (.int .i64 b) := fun a b c d e => pr_part1 (cs := [_, _, _, _, _]) u3 rfl
  have p2 : ∀ a b c d e : Int, pureRun Try.prog (part 3 #[.int .u8 a, .int .i64 b, .int .i64 c, .int .i64 d, .int .i64 e] 2) = some (.int .i64 c) := fun a b c d e => pr_part1 (cs := [_, _, _, _, _]) u3 rfl
  have p3 : ∀ a b c d e : Int, pureRun Try.prog (part 3 #[.int .u8 a, .int .i64 b, .int .i64 c, .int .i64 d, .int .i64 e] 3) = some (.int .i64 d) := fun a b c d e => pr_part1 (cs := [_, _, _, _, _]) u3 rfl
  have p4 : ∀ a b c d e : Int, pureRun Try.prog (part 3 #[.int .u8 a, .int .i64 b, .int .i64 c, .int .i64 d, .int .i64 e] 4) = some (.int .i64 e) := fun a b c d e => pr_part1 (cs := [_, _, _, _, _]) u3 rfl
  simp only [pr_bind, pr_und hS, Option.bind_some, pP, hp, Bool.false_eq_true, if_false]
  rw [← Array.forIn_toList]
  have n1 : f1.name ≠ "_" := by rw [n1]; decide
  have n2 : f2.name ≠ "_" := by rw [n2]; decide
  have n3 : f3.name ≠ "_" := by rw [n3]; decide
  have n4 : f4.name ≠ "_" := by rw [n4]; decide
  have n5 : f5.name ≠ "_" := by rw [n5]; decide
  simp only [List.forIn_cons, List.forIn_nil, pr_bind, o1, o2, o3, o4, o5, t1, t2, t3, t4, t5, n1, n2, n3, n4, n5, ne_eq, not_false_eq_true, if_true, p0, p1, p2, p3, p4, pr_int8, pr_int64, Option.bind_some, List.toArray]
  cases h1 : (xw == yw) <;> cases h2 : (xa == ya) <;> cases h3 : (xb == yb) <;> cases h4 : (xc == yc) <;> cases h5 : (xd == yd) <;> simp [pr_bind, pr_pure, p1, p2, p3, p4, pr_int64, h2, h3, h4, h5]
theorem apart_law {x : Cal} (hx : x.ok) (c d : Int) : ∃ S', Cn Bk 9 f_spindlelaw18_VlcApart 0 [.agg x.cells, .int .i64 c, .int .i64 d] S0 = some (.bool true, S') := by
  have hB := Bk_silent
  rw [c_spindlelaw18_VlcApart _ _ _ _ _ _ (hB.no _ _ _ _ (kn_no (by decide))), T_spindlelaw18_VlcApart]
  have e0 := fun S => known18_c hB 8 (S := S)
  have hw := hx.w.1
  obtain ⟨xw, xa, xb, xc, xd⟩ := x
  simp only at hw
  have g1 := fit_good (x := ⟨xw, xa, xb, xc, xd⟩) hw
  have e1 := fit_c hB 6 (S := S0) ⟨xw, xa, xb, xc, xd⟩
  obtain ⟨yc, hyc⟩ : ∃ yc, yc = if Int.tmod xw 3 = 0 then c else xc := ⟨_, rfl⟩
  have g2 := fit_good (x := ⟨xw, xa, xb, yc, d⟩) hw
  have e2 := fit_c hB 6 (S := S0) ⟨xw, xa, xb, yc, d⟩
  have hsame : Same (fitC ⟨xw, xa, xb, xc, xd⟩) (fitC ⟨xw, xa, xb, yc, d⟩) := by
    unfold fitC
    by_cases g0 : Int.tmod xw 3 = 0
    · simp only [if_pos g0]; exact ⟨rfl, rfl, rfl, fun h => absurd g0 h⟩
    · rw [if_neg g0] at hyc
      subst hyc
      simp only [if_neg g0]
      split <;> exact ⟨rfl, rfl, rfl, fun _ => rfl⟩
  obtain ⟨u, hu⟩ : ∃ u, u = fitC ⟨xw, xa, xb, xc, xd⟩ := ⟨_, rfl⟩
  obtain ⟨v, hv⟩ : ∃ v, v = fitC ⟨xw, xa, xb, yc, d⟩ := ⟨_, rfl⟩
  rw [← hu] at g1 e1 hsame
  rw [← hv] at g2 e2 hsame
  obtain ⟨S1, e3, f1⟩ := lcode_c hB 1 (S := S0) g1
  obtain ⟨S2, e4, f2⟩ := lcode_c hB 1 (S := S1) g2
  obtain ⟨b1, e5, k1⟩ := begins_c hB 7 (S := S2) (calP u).2 (calP v).2
  obtain ⟨b2, e6, k2⟩ := begins_c hB 7 (S := S2) (calP v).2 (calP u).2
  have e7 := eql_call u v
  have hcu : u.cells = [.int .u8 u.w, .int .i64 u.a, .int .i64 u.b, .int .i64 u.c, .int .i64 u.d] := rfl
  have hcv : v.cells = [.int .u8 v.w, .int .i64 v.a, .int .i64 v.b, .int .i64 v.c, .int .i64 v.d] := rfl
  rw [hcu] at e1 e3 e7
  rw [hcv] at e2 e4 e7
  simp only [Cal.cells] at e1 e2
  have fin : ∀ b, b = (u.w == v.w && (u.a == v.a && (u.b == v.b && (u.c == v.c && u.d == v.d)))) → (b = true → u = v) ∧ (b = false → b1 = false ∧ b2 = false) := by
    intro b hb
    refine ⟨fun h => ?_, fun h => ?_⟩
    · rw [h] at hb
      have := hb.symm
      simp only [Bool.and_eq_true, beq_iff_eq] at this
      obtain ⟨h1, h2, h3, h4, h5⟩ := this
      obtain ⟨_, _, _, _, _⟩ := u
      obtain ⟨_, _, _, _, _⟩ := v
      simp only at h1 h2 h3 h4 h5
      subst h1 h2 h3 h4 h5; rfl
    · have hne : u ≠ v := by
        intro he
        subst he
        rw [h] at hb
        simp at hb
      constructor
      · cases hq : b1 with
        | false => rfl
        | true => obtain ⟨r, hr⟩ := k1 hq; exact absurd (cal_apart g1 g2 hsame hr) hne
      · cases hq : b2 with
        | false => rfl
        | true =>
          obtain ⟨r, hr⟩ := k2 hq
          exact absurd (cal_apart g2 g1 ⟨hsame.w.symm, hsame.a.symm, hsame.b.symm, fun h => (hsame.c (by rw [hsame.w]; exact h)).symm⟩ hr) (Ne.symm hne)
  generalize hb : (u.w == v.w && (u.a == v.a && (u.b == v.b && (u.c == v.c && u.d == v.d)))) = b at e7
  obtain ⟨q1, q2⟩ := fin b hb.symm
  have hgoal : ∀ b, (b = true → u = v) → (b = false → b1 = false ∧ b2 = false) → aBin Try.prog .eql 41 (.agg [.int .u8 u.w, .int .i64 u.a, .int .i64 u.b, .int .i64 u.c, .int .i64 u.d]) (.agg [.int .u8 v.w, .int .i64 v.a, .int .i64 v.b, .int .i64 v.c, .int .i64 v.d]) = some (.bool b) →
      ∃ S', (bO (aBin Try.prog .eql 41 (.agg [.int .u8 u.w, .int .i64 u.a, .int .i64 u.b, .int .i64 u.c, .int .i64 u.d]) (.agg [.int .u8 v.w, .int .i64 v.a, .int .i64 v.b, .int .i64 v.c, .int .i64 v.d])) fun t16 => asBool t16 fun b17 => if b17 = true then bO (α := LSt) (if strEq (bitStr (calP u).2) (bitStr (calP v).2) = true then bO (Cn Bk 8 f_spindlelaw18_known 0 [] S2) fun t19 => asBool t19.1 fun b20 => some ([.bool b20], t19.2) else some ([.bool false], S2)) fun r18 => asBool (nthA r18.1 0) fun b21 => some (ctlV.tr S0 (.bool b21) r18.2) else bO (Cn Bk 8 f_spindlelaw18_begins 0 [.str (bitStr (calP u).2), .str (bitStr (calP v).2)] S2) fun t22 => asBool t22.1 fun b23 => if (!b23) = true then bO (Cn Bk 8 f_spindlelaw18_begins 0 [.str (bitStr (calP v).2), .str (bitStr (calP u).2)] t22.2) fun t24 => asBool t24.1 fun b25 => if (!b25) = true then bO (Cn Bk 8 f_spindlelaw18_known 0 [] t24.2) fun t26 => asBool t26.1 fun b27 => some (ctlV.tr S0 (.bool b27) t26.2) else some (ctlV.tr S0 (.bool false) t24.2) else some (ctlV.tr S0 (.bool false) t22.2)) = some (AV.bool true, S') := by
    intro b q1 q2 e7
    cases b with
    | true =>
      have := q1 rfl
      rw [e7]
      refine ⟨S2, ?_⟩
      rw [this]
      simp only [eql_ptr31, eql_nilp31, eql_ptr38, eql_nilp38, eql_ptr54, eql_nilp54, eql_ptr62, eql_nilp62, eql_ptr137, eql_nilp137, eql_ptr149, eql_nilp149, eql_b4, neq_b4, len_nils37, len_is37, len_hs37, len_nils71, len_is71, len_hs71, len_nils76, len_is76, len_hs76, len_nils81, len_is81, len_hs81, len_nils100, len_is100, len_hs100, len_nils103, len_is103, len_hs103, bO_s, gB_t, asBool_b, asInt_i, asAgg_a, asTup_a, asStr_s, asCons_c, asNil_n, nthA_0, nthA_s, aggCells_a, addV_p, addV_i, seeV_p, seeV_i, same_nil, same_1, same_2, tr_v, decide_true, decide_false, Bool.false_eq_true, if_false, if_true, Bool.not_true, Bool.not_false, Bool.and_true, Bool.true_and, Bool.and_self, List.getElem?_cons_zero, List.getElem?_cons_succ, Nat.zero_add, Nat.add_zero, beq_self_eq_true, bne_self_eq_false, Int.reduceBNe, Int.reduceBEq, Int.reduceLT, Int.reduceGT, Int.reduceLE, Int.reduceGE, Nat.reduceAdd, Nat.reduceMul, Nat.reduceLeDiff, strEq_self, e0]
    | false =>
      obtain ⟨h1, h2⟩ := q2 rfl
      rw [h1] at e5
      rw [h2] at e6
      rw [e7]
      exact ⟨S2, by simp only [eql_ptr31, eql_nilp31, eql_ptr38, eql_nilp38, eql_ptr54, eql_nilp54, eql_ptr62, eql_nilp62, eql_ptr137, eql_nilp137, eql_ptr149, eql_nilp149, eql_b4, neq_b4, len_nils37, len_is37, len_hs37, len_nils71, len_is71, len_hs71, len_nils76, len_is76, len_hs76, len_nils81, len_is81, len_hs81, len_nils100, len_is100, len_hs100, len_nils103, len_is103, len_hs103, bO_s, gB_t, asBool_b, asInt_i, asAgg_a, asTup_a, asStr_s, asCons_c, asNil_n, nthA_0, nthA_s, aggCells_a, addV_p, addV_i, seeV_p, seeV_i, same_nil, same_1, same_2, tr_v, decide_true, decide_false, Bool.false_eq_true, if_false, if_true, Bool.not_true, Bool.not_false, Bool.and_true, Bool.true_and, Bool.and_self, List.getElem?_cons_zero, List.getElem?_cons_succ, Nat.zero_add, Nat.add_zero, beq_self_eq_true, bne_self_eq_false, Int.reduceBNe, Int.reduceBEq, Int.reduceLT, Int.reduceGT, Int.reduceLE, Int.reduceGE, Nat.reduceAdd, Nat.reduceMul, Nat.reduceLeDiff, e5, e6, e0]⟩
  obtain ⟨S', hS'⟩ := hgoal b q1 q2 e7
  refine ⟨S', ?_⟩
  have z5 : ∀ a b c d e : AV, setCells [.int .u8 0, .int .i64 0, .int .i64 0, .int .i64 0, .int .i64 0] 0 [a, b, c, d, e] = [a, b, c, d, e] := fun _ _ _ _ _ => rfl
  have s3 : ∀ a b c d e f : AV, setCells [a, b, c, d, e] 3 [f] = [a, b, c, f, e] := fun _ _ _ _ _ _ => rfl
  have s4 : ∀ a b c d e f : AV, setCells [a, b, c, d, e] 4 [f] = [a, b, c, d, f] := fun _ _ _ _ _ _ => rfl
  have t5 : ∀ a b c d e : AV, List.take 5 [a, b, c, d, e] = [a, b, c, d, e] := fun _ _ _ _ _ => rfl
  by_cases g0 : Int.tmod xw 3 = 0
  · have c0 : (Int.tmod xw 3 == 0) = true := by simp [g0]
    rw [if_pos g0] at hyc
    rw [hyc] at e2
    simp only [eql_ptr31, eql_nilp31, eql_ptr38, eql_nilp38, eql_ptr54, eql_nilp54, eql_ptr62, eql_nilp62, eql_ptr137, eql_nilp137, eql_ptr149, eql_nilp149, eql_b4, neq_b4, len_nils37, len_is37, len_hs37, len_nils71, len_is71, len_hs71, len_nils76, len_is76, len_hs76, len_nils81, len_is81, len_hs81, len_nils100, len_is100, len_hs100, len_nils103, len_is103, len_hs103, bO_s, gB_t, asBool_b, asInt_i, asAgg_a, asTup_a, asStr_s, asCons_c, asNil_n, nthA_0, nthA_s, aggCells_a, addV_p, addV_i, seeV_p, seeV_i, same_nil, same_1, same_2, tr_v, decide_true, decide_false, Bool.false_eq_true, if_false, if_true, Bool.not_true, Bool.not_false, Bool.and_true, Bool.true_and, Bool.and_self, List.getElem?_cons_zero, List.getElem?_cons_succ, Nat.zero_add, Nat.add_zero, beq_self_eq_true, bne_self_eq_false, Int.reduceBNe, Int.reduceBEq, Int.reduceLT, Int.reduceGT, Int.reduceLE, Int.reduceGE, Nat.reduceAdd, Nat.reduceMul, Nat.reduceLeDiff, Cal.cells, List.length_cons, List.length_nil, List.drop_zero, t5, z5, s3, s4, List.all_cons, List.all_nil, cell, c0, e1, e2, e3, e4]
    simp only [eql_ptr31, eql_nilp31, eql_ptr38, eql_nilp38, eql_ptr54, eql_nilp54, eql_ptr62, eql_nilp62, eql_ptr137, eql_nilp137, eql_ptr149, eql_nilp149, eql_b4, neq_b4, len_nils37, len_is37, len_hs37, len_nils71, len_is71, len_hs71, len_nils76, len_is76, len_hs76, len_nils81, len_is81, len_hs81, len_nils100, len_is100, len_hs100, len_nils103, len_is103, len_hs103, bO_s, gB_t, asBool_b, asInt_i, asAgg_a, asTup_a, asStr_s, asCons_c, asNil_n, nthA_0, nthA_s, aggCells_a, addV_p, addV_i, seeV_p, seeV_i, same_nil, same_1, same_2, tr_v, decide_true, decide_false, Bool.false_eq_true, if_false, if_true, Bool.not_true, Bool.not_false, Bool.and_true, Bool.true_and, Bool.and_self, List.getElem?_cons_zero, List.getElem?_cons_succ, Nat.zero_add, Nat.add_zero, beq_self_eq_true, bne_self_eq_false, Int.reduceBNe, Int.reduceBEq, Int.reduceLT, Int.reduceGT, Int.reduceLE, Int.reduceGE, Nat.reduceAdd, Nat.reduceMul, Nat.reduceLeDiff] at hS'
    exact hS'
  · have c0 : (Int.tmod xw 3 == 0) = false := by simp [g0]
    rw [if_neg g0] at hyc
    rw [hyc] at e2
    simp only [eql_ptr31, eql_nilp31, eql_ptr38, eql_nilp38, eql_ptr54, eql_nilp54, eql_ptr62, eql_nilp62, eql_ptr137, eql_nilp137, eql_ptr149, eql_nilp149, eql_b4, neq_b4, len_nils37, len_is37, len_hs37, len_nils71, len_is71, len_hs71, len_nils76, len_is76, len_hs76, len_nils81, len_is81, len_hs81, len_nils100, len_is100, len_hs100, len_nils103, len_is103, len_hs103, bO_s, gB_t, asBool_b, asInt_i, asAgg_a, asTup_a, asStr_s, asCons_c, asNil_n, nthA_0, nthA_s, aggCells_a, addV_p, addV_i, seeV_p, seeV_i, same_nil, same_1, same_2, tr_v, decide_true, decide_false, Bool.false_eq_true, if_false, if_true, Bool.not_true, Bool.not_false, Bool.and_true, Bool.true_and, Bool.and_self, List.getElem?_cons_zero, List.getElem?_cons_succ, Nat.zero_add, Nat.add_zero, beq_self_eq_true, bne_self_eq_false, Int.reduceBNe, Int.reduceBEq, Int.reduceLT, Int.reduceGT, Int.reduceLE, Int.reduceGE, Nat.reduceAdd, Nat.reduceMul, Nat.reduceLeDiff, Cal.cells, List.length_cons, List.length_nil, List.drop_zero, t5, z5, s3, s4, List.all_cons, List.all_nil, cell, c0, e1, e2, e3, e4]
    simp only [eql_ptr31, eql_nilp31, eql_ptr38, eql_nilp38, eql_ptr54, eql_nilp54, eql_ptr62, eql_nilp62, eql_ptr137, eql_nilp137, eql_ptr149, eql_nilp149, eql_b4, neq_b4, len_nils37, len_is37, len_hs37, len_nils71, len_is71, len_hs71, len_nils76, len_is76, len_hs76, len_nils81, len_is81, len_hs81, len_nils100, len_is100, len_hs100, len_nils103, len_is103, len_hs103, bO_s, gB_t, asBool_b, asInt_i, asAgg_a, asTup_a, asStr_s, asCons_c, asNil_n, nthA_0, nthA_s, aggCells_a, addV_p, addV_i, seeV_p, seeV_i, same_nil, same_1, same_2, tr_v, decide_true, decide_false, Bool.false_eq_true, if_false, if_true, Bool.not_true, Bool.not_false, Bool.and_true, Bool.true_and, Bool.and_self, List.getElem?_cons_zero, List.getElem?_cons_succ, Nat.zero_add, Nat.add_zero, beq_self_eq_true, bne_self_eq_false, Int.reduceBNe, Int.reduceBEq, Int.reduceLT, Int.reduceGT, Int.reduceLE, Int.reduceGE, Nat.reduceAdd, Nat.reduceMul, Nat.reduceLeDiff] at hS'
    exact hS'
end Go.Ab.tV
