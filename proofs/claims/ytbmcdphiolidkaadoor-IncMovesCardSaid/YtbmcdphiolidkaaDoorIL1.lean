/- The reference's lists of parts: what is known beforehand. -/
import Derived.Test.YtbmcdphiolidkaaDoorIJ5
import Derived.Test.YtbmcdphiolidkaaDoorIL0
import Derived.Test.YtbmcdphiolidkaaDoorIJ0r0
import Derived.Test.YtbmcdphiolidkaaDoorIJ0r1
import Derived.Test.YtbmcdphiolidkaaDoorIJ0r2
import Derived.Test.YtbmcdphiolidkaaDoorIJ0r3
set_option maxRecDepth 100000
set_option linter.unusedSimpArgs false
set_option linter.unusedVariables false
set_option linter.unusedSectionVars false
namespace Go.Ab.tNearU
open Go Go.Proofs

theorem aC_len (q : Nat) : ∀ (rs : List R4) (l : List AV), (aC q rs l).length = rs.length * 2 + l.length
  | [], l => by simp [aC]
  | r :: rs, l => by simp only [aC, List.length_cons, aC_len q rs l]; omega
theorem aC_cell (q : Nat) : ∀ (rs : List R4) (l : List AV), l.all cell = true → (aC q rs l).all cell = true
  | [], l, h => h
  | r :: rs, l, h => by
    have h1 : cell (iN q) = true := rfl
    have h2 : cell (isN (blN r)) = true := rfl
    simp only [aC, List.all_cons, aC_cell q rs l h, h1, h2, Bool.and_self]
theorem qL_len (q s : Nat) : (qL q s).length ≤ 4 ∧ (qL q s).length ≠ 0 := by
  unfold qL
  rw [List.length_map]
  match s with
  | 0 => exact ⟨by decide, by decide⟩
  | 1 => exact ⟨by decide, by decide⟩
  | 2 => exact ⟨by decide, by decide⟩
  | s + 3 => exact ⟨Nat.le_refl 4, fun h => by cases h⟩
def LV2 (S T : Heap) (l : AV) (n : Nat) : Prop := Ext S T ∧ ((l = .nils) ∨ ∃ id m cs, l = .hs id 0 m 2 ∧ S.next ≤ id ∧ T.blk id = some cs ∧ cs.length = m * 2 ∧ m ≤ n)
theorem LV2.add {S T : Heap} {l : AV} {n c : Nat} (h : LV2 S T l n) (hn : n ≤ 500) {new : List AV} (hl : new.length = c * 2) (h0 : c ≠ 0) (h4 : c ≤ 4) (hc : new.all cell = true) : ∃ l' T', aAppend 2 32 l (.is c new) T = some (l', T') ∧ LV2 S T' l' (n + 4) := by
  rcases h.2 with rfl | ⟨id, m, cs, rfl, h2, h3, h4', h5⟩
  · exact ⟨_, _, app_nil h0 hl (room (by omega) (by omega)) (room1 (by omega)), h.1.trans (Ext.alloc T _), .inr ⟨T.next, c, new, rfl, h.1.1, alloc_blk T _, hl, by omega⟩⟩
  · exact ⟨_, _, app_hs h3 h4' hl h0 (room (by omega) (by omega)) (room1 (by omega)) hc, (h.1.set h2 none).trans (Ext.alloc _ _), .inr ⟨T.next, m + c, cs ++ new, rfl, h.1.1, alloc_blk (T.set id none) _, by rw [List.length_append]; omega, by omega⟩⟩
theorem fnQ_no {f way : Nat} {args : List AV} {S : Heap} (h : Nat.beq f f_spindleref12_quarter = false) : fnQ f way args S = none := by
  unfold fnQ
  split
  · rw [h]
  · rfl
set_option maxHeartbeats 1000000 in
theorem all_bad (k : Nat) {s : Nat → Nat} (hbad : ∃ q, q < 4 ∧ 3 < s q) (S : Heap) : Cn fnQ (k + 1) f_spindleref12_All 0 [.int .u8 6, subs (s 0) (s 1) (s 2) (s 3)] S = some (.tup [.nils, .int .i64 3], S) := by
  rw [c_spindleref12_All _ _ _ _ _ (fnQ_no (beqN (by decide))), T_spindleref12_All]
  have h4 : (4 : Nat) ≤ 4 := by omega
  have n3 : ((6 : Int) == 3) = false := rfl
  have n4 : ((6 : Int) == 4) = false := rfl
  have n5 : ((6 : Int) == 5) = false := rfl
  have n6 : ((6 : Int) == 6) = true := rfl
  unfold subs
  obtain ⟨sl, hsl⟩ : ∃ sl : List AV, sl = [.int .u8 (Int.ofNat (s 0)), .int .u8 (Int.ofNat (s 1)), .int .u8 (Int.ofNat (s 2)), .int .u8 (Int.ofNat (s 3))] := ⟨_, rfl⟩
  rw [← hsl]
  have l4 : sl.length = 4 := by rw [hsl]; rfl
  have hat : ∀ i, i < 4 → sl[i]? = some (.int .u8 (Int.ofNat (s i))) := fun i hi => by
    rw [hsl]
    match i, hi with
    | 0, _ => rfl
    | 1, _ => rfl
    | 2, _ => rfl
    | 3, _ => rfl
  have fzn : ∀ T, fz 40 (.tup [.nils, .int .i64 3]) T = some (.tup [.nils, .int .i64 3], T) := fun _ => rfl
  simp only [bO_s, gB_t, asBool_b, asInt_i, asAgg_a, asTup_a, asStr_s, asCons_c, nthA_0, nthA_s, aggCells_a, addV_p, seeV_p, seeV_i, same_nil, tr_same, eql4, neq4, decide_true, decide_false, Bool.false_eq_true, if_false, if_true, Bool.not_true, Bool.not_false, Bool.and_true, Bool.true_and, Bool.and_self, List.getElem?_cons_zero, List.getElem?_cons_succ, Nat.zero_add, Nat.add_zero, beq_self_eq_true, bne_self_eq_false, Int.reduceBNe, Int.reduceBEq, Int.reduceLT, Int.reduceGT, Int.reduceLE, Int.reduceGE, Nat.reduceAdd, Nat.reduceMul, Nat.reduceLeDiff, n3, n4, n5, n6, l4]
  refine loop_ex (fun (o : Option (AV × Heap)) => o = some (.tup [.nils, .int .i64 3], S))
    (fun i st => ∃ l T, st = ([.agg sl, l, .int .i64 (i : Int)], T) ∧ LV2 S T l (4 * i) ∧ ∀ j, j < i → s j ≤ 3)
    (fun x => ∃ T, x = (1, [.nils, .int .i64 3], T) ∧ Ext S T) 4 ⟨.nils, S, rfl, ⟨Ext.refl S, .inl rfl⟩, fun j hj => absurd hj (Nat.not_lt_zero _)⟩ ?_ ?_
  · rintro i st hi ⟨l, T, rfl, hLV, hok⟩
    by_cases hin : i < 4
    · have hlt : (i : Int) < 4 := by omega
      have hlt' : (i : Int) < ((4 : Nat) : Int) := by omega
      have hge : (0 : Int) ≤ (i : Int) := by omega
      have hw : IntKind.wrap .i64 ((i : Int) + 1) = ((i + 1 : Nat) : Int) := by rw [wr _ (by omega)]; omega
      have htn : Int.toNat (i : Int) = i := rfl
      have hsi := hat i hin
      by_cases hb : 3 < s i
      · have hgt : (Int.ofNat (s i) : Int) > 3 := by show ((s i : Nat) : Int) > 3; omega
        exact .inl ⟨(1, [.nils, .int .i64 3], T), by simp only [bO_s, gB_t, asBool_b, asInt_i, asAgg_a, asTup_a, asStr_s, asCons_c, nthA_0, nthA_s, aggCells_a, addV_p, seeV_p, seeV_i, same_nil, tr_same, eql4, neq4, decide_true, decide_false, Bool.false_eq_true, if_false, if_true, Bool.not_true, Bool.not_false, Bool.and_true, Bool.true_and, Bool.and_self, List.getElem?_cons_zero, List.getElem?_cons_succ, Nat.zero_add, Nat.add_zero, beq_self_eq_true, bne_self_eq_false, Int.reduceBNe, Int.reduceBEq, Int.reduceLT, Int.reduceGT, Int.reduceLE, Int.reduceGE, Nat.reduceAdd, Nat.reduceMul, Nat.reduceLeDiff, hlt, hlt', hge, htn, Nat.mul_one, hsi, hgt], T, rfl, hLV.1⟩
      · have hgt : ¬ ((Int.ofNat (s i) : Int) > 3) := by show ¬ (((s i : Nat) : Int) > 3); omega
        have hq : Cn fnQ k f_spindleref12_quarter 0 [.int .i64 (i : Int), .int .u8 (Int.ofNat (s i))] T = some (.is (qL i (s i)).length (aC i (qL i (s i)) []), T) := cn_base (fnQ_is hin (by omega) T) k
        obtain ⟨q1, q2⟩ := qL_len i (s i)
        obtain ⟨l', T', ap, hLV'⟩ := hLV.add (by omega) (new := aC i (qL i (s i)) []) (c := (qL i (s i)).length) (by rw [aC_len]; rfl) q2 q1 (aC_cell _ _ _ rfl)
        refine .inr ⟨hin, ([.agg sl, l', .int .i64 ((i + 1 : Nat) : Int)], T'), ?_, l', T', rfl, ?_, fun j hj => ?_⟩
        · simp only [bO_s, gB_t, asBool_b, asInt_i, asAgg_a, asTup_a, asStr_s, asCons_c, nthA_0, nthA_s, aggCells_a, addV_p, seeV_p, seeV_i, same_nil, tr_same, eql4, neq4, decide_true, decide_false, Bool.false_eq_true, if_false, if_true, Bool.not_true, Bool.not_false, Bool.and_true, Bool.true_and, Bool.and_self, List.getElem?_cons_zero, List.getElem?_cons_succ, Nat.zero_add, Nat.add_zero, beq_self_eq_true, bne_self_eq_false, Int.reduceBNe, Int.reduceBEq, Int.reduceLT, Int.reduceGT, Int.reduceLE, Int.reduceGE, Nat.reduceAdd, Nat.reduceMul, Nat.reduceLeDiff, hlt, hlt', hge, htn, Nat.mul_one, hsi, hgt, hq, ap, hw]
        · rw [show 4 * (i + 1) = 4 * i + 4 by omega]; exact hLV'
        · by_cases hji : j = i
          · subst hji; omega
          · exact hok j (by omega)
    · obtain ⟨q, hq, hq3⟩ := hbad
      have := hok q (by omega)
      omega
  · rintro x ⟨T, rfl, hE⟩
    simp only [bO_s, gB_t, asBool_b, asInt_i, asAgg_a, asTup_a, asStr_s, asCons_c, nthA_0, nthA_s, aggCells_a, addV_p, seeV_p, seeV_i, same_nil, tr_same, eql4, neq4, decide_true, decide_false, Bool.false_eq_true, if_false, if_true, Bool.not_true, Bool.not_false, Bool.and_true, Bool.true_and, Bool.and_self, List.getElem?_cons_zero, List.getElem?_cons_succ, Nat.zero_add, Nat.add_zero, beq_self_eq_true, bne_self_eq_false, Int.reduceBNe, Int.reduceBEq, Int.reduceLT, Int.reduceGT, Int.reduceLE, Int.reduceGE, Nat.reduceAdd, Nat.reduceMul, Nat.reduceLeDiff, sel, fzn]
    rw [tr_S rfl hE]

/-- The numbers of a kind and four bytes, any. -/
def ofAny : List AV → Option (Nat × Nat × Nat × Nat × Nat)
  | [.int .u8 (.ofNat k), .agg [.int .u8 (.ofNat a), .int .u8 (.ofNat b), .int .u8 (.ofNat c), .int .u8 (.ofNat d)]] => match Nat.blt k 256 with
    | true => some (k, a, b, c, d)
    | false => none
  | _ => none
theorem ofAny_some {xs : List AV} {k a b c d : Nat} (h : ofAny xs = some (k, a, b, c, d)) : xs = [.int .u8 (Int.ofNat k), subs a b c d] ∧ k < 256 := by
  unfold ofAny at h
  split at h
  · split at h
    · rename_i hb
      cases h
      exact ⟨rfl, by rw [Nat.blt_eq] at hb; exact hb⟩
    · cases h
  · cases h
theorem nb4 {x : Nat} (h : Nat.blt x 4 = false) : 3 < x := by
  rcases Nat.lt_or_ge x 4 with h' | h'
  · have : Nat.blt x 4 = true := by rw [Nat.blt_eq]; exact h'
    rw [h] at this; cases this
  · omega
def fnA : CallF := fun f way args S => match way with
  | 0 => (match Nat.beq f f_spindleref12_All with
    | true => (match ofAny args with | some x => some (allF x.1 x.2.1 x.2.2.1 x.2.2.2.1 x.2.2.2.2, S) | none => none)
    | false => none)
  | _ => none
theorem CQ_ok (k : Nat) : NOk Tryd.prog Gk (Cn fnQ k) := callN_ok (rngC_ok ctlW_ok) mixed noG An fnQ_ok k
theorem fnA_loc {f way : Nat} {args : List AV} {S : Heap} {r : AV × Heap} (h : fnA f way args S = some r) : f < yldId ∧ (locC K1 f way args S = some r ∨ Cn fnQ 1 f way args S = some r) := by
  unfold fnA at h
  split at h
  · split at h
    · rename_i hb
      have hb := Nat.eq_of_beq_eq_true hb
      subst hb
      split at h
      · rename_i x hx
        cases h
        obtain ⟨k, a, b, c, d⟩ := x
        obtain ⟨rfl, h1⟩ := ofAny_some hx
        refine ⟨by decide, ?_⟩
        by_cases h6 : k = 6
        · subst h6
          cases hv : (Nat.blt a 4 && Nat.blt b 4 && Nat.blt c 4 && Nat.blt d 4) with
          | true =>
            simp only [Bool.and_eq_true, Nat.blt_eq] at hv
            exact .inl (locC_any (all_is h1 fun _ => ⟨hv.1.1.1, hv.1.1.2, hv.1.2, hv.2⟩) S)
          | false =>
            right
            have hF : allF 6 a b c d = .tup [.nils, .int .i64 3] := by unfold allF; rw [hv]; rfl
            show _ = some (allF 6 a b c d, S)
            rw [hF]
            exact all_bad 0 (s := fun i => match i with | 0 => a | 1 => b | 2 => c | _ => d) (by
              cases ha : Nat.blt a 4 with
              | false => exact ⟨0, by omega, nb4 ha⟩
              | true => cases hb : Nat.blt b 4 with
                | false => exact ⟨1, by omega, nb4 hb⟩
                | true => cases hc : Nat.blt c 4 with
                  | false => exact ⟨2, by omega, nb4 hc⟩
                  | true => cases hd : Nat.blt d 4 with
                    | false => exact ⟨3, by omega, nb4 hd⟩
                    | true => rw [ha, hb, hc, hd] at hv; cases hv) S
        · exact .inl (locC_any (all_is h1 fun h => absurd h h6) S)
      · cases h
    · cases h
  · cases h
theorem fnA_ok : NOk Tryd.prog Gk fnA := by
  have h0 := locC_ok noG K1_ok
  refine ⟨fun f way args S r hlt e => ?_, fun f way args S hf => ?_⟩
  · rcases (fnA_loc e).2 with h | h
    · exact h0.ok _ _ _ _ _ hlt h
    · exact (CQ_ok 1).ok _ _ _ _ _ hlt h
  · cases e : fnA f way args S with
    | none => rfl
    | some r => have := (fnA_loc e).1; omega
theorem covr_all {a : Nat} (ha : a < 4) : (four fun b => four fun c => four fun d => (List.range (rl6 a b c d).length).all fun p => isV (locC K2 f_spindleref12_Cover 0 [.int .u8 6, subs a b c d, iN p] S0) (covF 6 a b c d p)) = true := by
  have j : ∀ {p : Nat → Bool}, p 0 = true → p 1 = true → p 2 = true → p 3 = true → four p = true := fun h0 h1 h2 h3 => by simp only [four, h0, h1, h2, h3, Bool.and_self]
  match a, ha with
  | 0, _ => exact j covr_00 covr_01 covr_02 covr_03
  | 1, _ => exact j covr_10 covr_11 covr_12 covr_13
  | 2, _ => exact j covr_20 covr_21 covr_22 covr_23
  | 3, _ => exact j covr_30 covr_31 covr_32 covr_33
theorem covr_is {k a b c d p : Nat} (hp : p < (rects k a b c d).length) : isV (locC K2 f_spindleref12_Cover 0 [.int .u8 (Int.ofNat k), subs a b c d, iN p] S0) (covF k a b c d p) = true := by
  match k, hp with
  | 3, hp =>
    have : p = 0 := by have : p < 1 := hp; omega
    subst this
    exact covr_3 a b c d
  | 4, hp => exact List.all_eq_true.1 (covr_4 a b c d) p (List.mem_range.2 hp)
  | 5, hp => exact List.all_eq_true.1 (covr_5 a b c d) p (List.mem_range.2 hp)
  | 6, hp =>
    cases hv : (Nat.blt a 4 && Nat.blt b 4 && Nat.blt c 4 && Nat.blt d 4) with
    | true =>
      have hr : rects 6 a b c d = rl6 a b c d := by unfold rects; rw [hv]; rfl
      rw [hr] at hp
      simp only [Bool.and_eq_true, Nat.blt_eq] at hv
      exact List.all_eq_true.1 (four_lt (four_lt (four_lt (covr_all hv.1.1.1) hv.1.1.2) hv.1.2) hv.2) p (List.mem_range.2 hp)
    | false =>
      have hr : rects 6 a b c d = [] := by unfold rects; rw [hv]; rfl
      rw [hr] at hp; cases hp
  | 0, hp => cases hp
  | 1, hp => cases hp
  | 2, hp => cases hp
  | k + 7, hp => cases hp
def fnD : CallF := fun f way args S => match way with
  | 0 => (match Nat.beq f f_spindleref12_Cover with
    | true => (match ofCov args with | some x => some (covF x.1 x.2.1 x.2.2.1 x.2.2.2.1 x.2.2.2.2.1 x.2.2.2.2.2, S) | none => none)
    | false => none)
  | _ => none
theorem fnD_loc {f way : Nat} {args : List AV} {S : Heap} {r : AV × Heap} (h : fnD f way args S = some r) : f < yldId ∧ locC K2 f way args S = some r := by
  unfold fnD at h
  split at h
  · split at h
    · rename_i hb
      have hb := Nat.eq_of_beq_eq_true hb
      subst hb
      split at h
      · rename_i x hx
        cases h
        obtain ⟨rfl, h1⟩ := ofCov_some (k := x.1) (a := x.2.1) (b := x.2.2.1) (c := x.2.2.2.1) (d := x.2.2.2.2.1) (p := x.2.2.2.2.2) hx
        exact ⟨by decide, locC_any (covr_is h1) S⟩
      · cases h
    · cases h
  · cases h
theorem fnD_ok : NOk Tryd.prog Gk fnD := by
  have h0 := locC_ok noG K2_ok
  refine ⟨fun f way args S r hlt e => h0.ok _ _ _ _ _ hlt (fnD_loc e).2, fun f way args S hf => ?_⟩
  cases e : fnD f way args S with
  | none => rfl
  | some r => have := (fnD_loc e).1; omega
theorem fnD_no {f way : Nat} {args : List AV} {S : Heap} (h : Nat.beq f f_spindleref12_Cover = false) : fnD f way args S = none := by
  unfold fnD
  split
  · rw [h]
  · rfl
theorem fnA_no {f way : Nat} {args : List AV} {S : Heap} (h : Nat.beq f f_spindleref12_All = false) : fnA f way args S = none := by
  unfold fnA
  split
  · rw [h]
  · rfl
noncomputable def Br : CallF := orC fnD (orC fnA Bp)
theorem Br_ok : NOk Tryd.prog Gk Br := orC_ok fnD_ok (orC_ok fnA_ok Bp_ok)
theorem Br_bp {f way : Nat} {args : List AV} {S : Heap} (h1 : f ≠ f_spindleref12_Cover) (h2 : f ≠ f_spindleref12_All) : Br f way args S = Bp f way args S := by
  unfold Br orC
  rw [fnD_no (beqN h1), fnA_no (beqN h2)]
structure KnownR (B : CallF) : Prop extends KnownP B where
  all : ∀ {k a b c d : Nat} S, k < 256 → B f_spindleref12_All 0 [.int .u8 (Int.ofNat k), subs a b c d] S = some (allF k a b c d, S)
  covr : ∀ {k a b c d p : Nat} S, p < (rects k a b c d).length → B f_spindleref12_Cover 0 [.int .u8 (Int.ofNat k), subs a b c d, iN p] S = some (covF k a b c d p, S)
theorem Br_known : KnownR Br where
  no := fun f way args S h => by
    rw [Br_bp (fun he => by subst he; exact absurd h (by decide)) (fun he => by subst he; exact absurd h (by decide))]
    exact Bp_known.no f way args S h
  yes := fun f args S h => by
    rw [Br_bp (fun he => by subst he; exact absurd h (by decide)) (fun he => by subst he; exact absurd h (by decide))]
    exact Bp_known.yes f args S h
  parts := fun args S => by
    rw [Br_bp (by decide) (by decide)]
    exact Bp_known.parts args S
  cov := fun S hp => by
    rw [Br_bp (by decide) (by decide)]
    exact Bp_known.cov S hp
  all := fun {k a b c d} S hk => by
    unfold Br orC
    rw [fnD_no (beqN (by decide))]
    unfold fnA
    have hb : Nat.beq f_spindleref12_All f_spindleref12_All = true := rfl
    have hbl : Nat.blt k 256 = true := by rw [Nat.blt_eq]; exact hk
    have ho : ofAny [.int .u8 (Int.ofNat k), subs a b c d] = some (k, a, b, c, d) := by
      show (match Nat.blt k 256 with | true => some (k, a, b, c, d) | false => none) = _
      rw [hbl]
    simp only [hb, ho]
  covr := fun {k a b c d p} S hp => by
    unfold Br orC fnD
    have hb : Nat.beq f_spindleref12_Cover f_spindleref12_Cover = true := rfl
    have hbl : Nat.blt p (rects k a b c d).length = true := by rw [Nat.blt_eq]; exact hp
    have ho : ofCov [.int .u8 (Int.ofNat k), subs a b c d, iN p] = some (k, a, b, c, d, p) := by
      show (match Nat.blt p (rects k a b c d).length with | true => some (k, a, b, c, d, p) | false => none) = _
      rw [hbl]
    simp only [hb, ho]
theorem Cr_ok (k : Nat) : NOk Tryd.prog Gk (Cn Br k) := callN_ok (rngC_ok ctlW_ok) mixed noG An Br_ok k
theorem allF_is (k a b c d : Nat) : ∃ l, allF k a b c d = .tup [l, .int .i64 (pErr k a b c d : Int)] ∧ aLen Tryd.prog 117 l = some (.int .i64 ((rects k a b c d).length : Int)) ∧ noId (allF k a b c d) = true := by
  match k with
  | 0 => exact ⟨_, rfl, by kernel_rfl, rfl⟩
  | 1 => exact ⟨_, rfl, by kernel_rfl, rfl⟩
  | 2 => exact ⟨_, rfl, by kernel_rfl, rfl⟩
  | 3 => exact ⟨_, rfl, by kernel_rfl, by kernel_rfl⟩
  | 4 => exact ⟨_, rfl, by kernel_rfl, by kernel_rfl⟩
  | 5 => exact ⟨_, rfl, by kernel_rfl, by kernel_rfl⟩
  | 6 =>
    unfold allF pErr rects
    cases (Nat.blt a 4 && Nat.blt b 4 && Nat.blt c 4 && Nat.blt d 4) with
    | true =>
      refine ⟨_, rfl, ?_, ?_⟩
      · show aLen Tryd.prog 117 (.is _ _) = _
        kernel_rfl
      · have hi : ∀ l : List Nat, noIdL (l.map iN) = true := by
          intro l
          induction l with
          | nil => rfl
          | cons x l ih => simp only [List.map_cons, noIdL, iN, Go.Ab.noId, ih, Bool.and_self]
        have hn : ∀ (q : Nat) (rs : List R4) (l : List AV), noIdL l = true → noIdL (aC q rs l) = true := by
          intro q rs
          induction rs with
          | nil => intro l h; exact h
          | cons r rs ih => intro l h; simp only [aC, noIdL, iN, isN, Go.Ab.noId, hi, ih l h, Bool.and_self]
        show noId (.tup [.is _ (ac6 a b c d), .int .i64 0]) = true
        have := hn 0 (qL 0 a) _ (hn 1 (qL 1 b) _ (hn 2 (qL 2 c) _ (hn 3 (qL 3 d) [] rfl)))
        simp only [Go.Ab.noId, noIdL, ac6, this, Bool.and_self]
    | false => exact ⟨_, rfl, by kernel_rfl, rfl⟩
  | k + 7 => exact ⟨_, rfl, by kernel_rfl, rfl⟩
theorem rpieces_c {B : CallF} (hB : KnownR B) (k : Nat) {kd : Nat} (hk : kd < 256) (a b c d : Nat) (S : Heap) : Cn B (k + 1) f_spindleref12_Pieces 0 [.int .u8 (kd : Int), subs a b c d] S = some (.tup [.int .i64 ((rects kd a b c d).length : Int), .int .i64 (pErr kd a b c d : Int)], S) := by
  rw [c_spindleref12_Pieces _ _ _ _ _ (hB.no _ _ _ _ (by decide)), T_spindleref12_Pieces]
  have e : Cn B k f_spindleref12_All 0 [.int .u8 (kd : Int), subs a b c d] S = some (allF kd a b c d, S) := cn_base (hB.all S hk) k
  obtain ⟨l, h1, h2, _⟩ := allF_is kd a b c d
  rw [h1] at e
  have h4 : (4 : Nat) ≤ 4 := by omega
  unfold subs at e ⊢
  obtain ⟨sl, hsl⟩ : ∃ sl : List AV, sl = [.int .u8 (Int.ofNat a), .int .u8 (Int.ofNat b), .int .u8 (Int.ofNat c), .int .u8 (Int.ofNat d)] := ⟨_, rfl⟩
  have l4 : sl.length = 4 := by rw [hsl]; rfl
  have t4 : List.take 4 sl = sl := by rw [hsl]; rfl
  rw [← hsl] at e ⊢
  simp only [bO_s, gB_t, asBool_b, asInt_i, asAgg_a, asTup_a, asStr_s, asCons_c, nthA_0, nthA_s, aggCells_a, addV_p, seeV_p, seeV_i, same_nil, tr_same, eql4, neq4, decide_true, decide_false, Bool.false_eq_true, if_false, if_true, Bool.not_true, Bool.not_false, Bool.and_true, Bool.true_and, Bool.and_self, List.getElem?_cons_zero, List.getElem?_cons_succ, Nat.zero_add, Nat.add_zero, beq_self_eq_true, bne_self_eq_false, Int.reduceBNe, Int.reduceBEq, Int.reduceLT, Int.reduceGT, Int.reduceLE, Int.reduceGE, Nat.reduceAdd, Nat.reduceMul, Nat.reduceLeDiff, l4, h4, List.drop_zero, t4, e, h2]
end Go.Ab.tNearU
