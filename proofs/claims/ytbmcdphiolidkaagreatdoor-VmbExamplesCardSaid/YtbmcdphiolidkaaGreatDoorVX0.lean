/- One byte written by a writer that stands at a byte's beginning: the heap after it, in full. -/
import Derived.Test.YtbmcdphiolidkaaGreatDoorVB3
set_option maxRecDepth 100000
set_option linter.unusedSimpArgs false
set_option linter.unusedVariables false
set_option linter.unusedSectionVars false
namespace Go.Ab.tV
open Go Go.Proofs

theorem heap_eq {S T : Heap} (h1 : S.next = T.next) (h2 : S.blk = T.blk) (h3 : S.cx = T.cx) : S = T := by
  cases S; cases T
  simp only at h1 h2 h3
  rw [h1, h2, h3]
def putH (p q : Nat) (cs : List AV) (len v : Nat) (S : Heap) : Heap := { next := S.next + 2, cx := S.cx, blk := fun j => if j = S.next + 1 then some (cs ++ [.int .u8 (v : Int)]) else if j = p then some [.hs (S.next + 1) 0 (len + 1) 1, .int .u8 0, .int .i64 0] else if j = q then none else if j = S.next then some (.int .u8 (v : Int) :: List.replicate 8 (.int .u8 0)) else S.blk j }
theorem appZ1 {T : Heap} {q len : Nat} {cs : List AV} (hb : T.blk q = some cs) (hl : cs.length = len) (hs : len ≤ 1000000000) : aAppendZ 1 1 [.int .u8 0] (.hs q 0 len 1) (.int .i64 1) T = some (.hs T.next 0 (len + 1) 1, (T.set q none).alloc (cs ++ [.int .u8 0])) := by
  have r3 : (0 : Int) ≤ 1 ∧ (1 : Int) * ((1 : Nat) : Int) ≤ (mostRoom : Int) ∧ (1 : Int) ≤ (mostRoom : Int) := by
    unfold mostRoom
    omega
  have r5 : repCells 1 [.int .u8 0] = [.int .u8 0] := rfl
  have r6 : (len + 1) * 1 ≤ mostRoom := by rw [Nat.mul_one]; exact room64 (by omega)
  have r7 : len + 1 ≤ mostRoom := room64 (by omega)
  have r8 : ([.int .u8 0] : List AV).all cell = true := rfl
  have r9 : Int.toNat 1 = 1 := rfl
  unfold aAppendZ
  simp only [r3, and_self, if_true, r9, r5]
  unfold aAppendN
  rw [if_neg (by decide)]
  simp only [hb, hl, Nat.zero_add, Nat.mul_one, Nat.le_refl, r7, r8, and_self, if_true, List.drop_zero]
  rw [List.take_of_length_le (by omega)]
theorem copy1 {T : Heap} {d f len v : Nat} {cs rest : List AV} (hl : cs.length = len) (hd : T.blk d = some (cs ++ [.int .u8 0])) (hf : T.blk f = some (.int .u8 (v : Int) :: rest)) :
    aCopy 1 (.hs d len 1 1) (.hs f 0 1 1) T = some (.int .i64 1, T.set d (some (cs ++ [.int .u8 (v : Int)]))) := by
  have e1 : rowOf 1 (.hs f 0 1 1) T = some (1, [.int .u8 (v : Int)]) := by
    simp only [rowOf, hf, Nat.zero_add, Nat.mul_one, List.length_cons, true_and, List.drop_zero]
    rw [if_pos (by omega)]
    rfl
  have r8 : ([.int .u8 (v : Int)] : List AV).all cell = true := rfl
  unfold aCopy
  simp only [e1, hd, Nat.mul_one, List.length_append, List.length_cons, List.length_nil, hl, Nat.zero_add, Nat.le_refl, r8, and_self, if_true, Nat.min_self]
  have := setCells_append [.int .u8 (v : Int)] cs [.int .u8 0] [] rfl
  rw [List.append_nil, List.append_nil, hl] at this
  have ht : List.take 1 [AV.int .u8 (v : Int)] = [.int .u8 (v : Int)] := rfl
  rw [ht, this]
  rfl
section
variable {B : CallF} (hB : Silent B) (k : Nat) {S : Heap} {p q : Nat}
include hB
set_option maxHeartbeats 2000000 in
theorem put8_x {len v : Nat} {cs : List AV} (hp : S.blk p = some [.hs q 0 len 1, .int .u8 0, .int .i64 0]) (hq : S.blk q = some cs) (hl : cs.length = len) (hqs : q < S.next) (hqp : q ≠ p) (hps : p < S.next) (hlen : len ≤ 1000000000) (hv : v < 256) :
    Cn B (k + 1) f_bits_Writer_Put 0 [.ptr p 0, .int .i64 8, .int .u64 (v : Int)] S = some (.int .i64 0, putH p q cs len v S) := by
  rw [c_bits_Writer_Put _ _ _ _ _ _ (hB.no _ _ _ _ (kn_no (by decide))), T_bits_Writer_Put]
  have c1 : ¬ ((8 : Int) < 0) := by omega
  have c2 : ¬ ((8 : Int) > 64) := by omega
  have c3 : ((8 : Int) < 64) := by omega
  have w1 : shrI .u64 (v : Int) 8 = 0 := by
    have := shr64 v 8 (by omega)
    rw [Nat.div_eq_of_lt (by omega)] at this
    exact this
  have aS : aShift .shr .u64 (v : Int) 8 = some (.int .u64 (shrI .u64 (v : Int) 8)) := aShr .u64 v 8
  have w2 : IntKind.wrap .i64 ((8 : Int) - 1) = 7 := wr _ (by omega)
  simp only [eql_ptr37, eql_nilp37, eql_ptr42, eql_nilp42, eql_ptr58, eql_nilp58, eql_ptr277, eql_nilp277, eql_nils32, eql_is32, eql_hs32, eql_nils33, eql_is33, eql_hs33, eql_nils34, eql_is34, eql_hs34, len_nils26, len_is26, len_hs26, len_nils32, len_is32, len_hs32, len_nils33, len_is33, len_hs33, len_nils34, len_is34, len_hs34, len_nils61, len_is61, len_hs61, len_nils124, len_is124, len_hs124, len_nils156, len_is156, len_hs156, len_nils245, len_is245, len_hs245, bO_s, gB_t, asBool_b, asInt_i, asAgg_a, asTup_a, asStr_s, asCons_c, asNil_n, nthA_0, nthA_s, aggCells_a, addV_p, addV_i, seeV_p, seeV_i, same_nil, same_1, same_2, tr_v, decide_true, decide_false, Bool.false_eq_true, if_false, if_true, Bool.not_true, Bool.not_false, Bool.and_true, Bool.true_and, Bool.and_self, List.getElem?_cons_zero, List.getElem?_cons_succ, Nat.zero_add, Nat.add_zero, beq_self_eq_true, bne_self_eq_false, Int.reduceBNe, Int.reduceBEq, Int.reduceLT, Int.reduceGT, Int.reduceLE, Int.reduceGE, Nat.reduceAdd, Nat.reduceMul, Nat.reduceLeDiff, c1, c2, c3, aS, w1, w2]
  obtain ⟨S1, hS1⟩ : ∃ S1, S1 = S.alloc [.int .u8 0, .int .u8 0, .int .u8 0, .int .u8 0, .int .u8 0, .int .u8 0, .int .u8 0, .int .u8 0, .int .u8 0] := ⟨_, rfl⟩
  rw [← hS1]
  have hS1p : S1.blk p = some [.hs q 0 len 1, .int .u8 0, .int .i64 0] := by rw [hS1, alloc_other _ _ (by omega)]; exact hp
  refine loop_meas (fun o => o = some (AV.int .i64 0, putH p q cs len v S))
    (fun m st => m ≤ 8 ∧ ((0 < m ∧ st = ([.ptr p 0, .int .u64 (v : Int), .ptr S.next 0, .int .i64 0, .int .i64 ((m : Int) - 1)], S1.set p (some [.hs q 0 len 1, .int .u8 ((v / 2 ^ m : Nat) : Int), .int .i64 ((8 - m : Nat) : Int)]))) ∨
      (m = 0 ∧ st = ([.ptr p 0, .int .u64 (v : Int), .ptr S.next 0, .int .i64 1, .int .i64 (-1)], (S1.set S.next (some (.int .u8 (v : Int) :: List.replicate 8 (.int .u8 0)))).set p (some [.hs q 0 len 1, .int .u8 0, .int .i64 0]))))) 8
    ⟨Nat.le_refl _, .inl ⟨by omega, ?_⟩⟩ ?_
  · rw [Nat.div_eq_of_lt (show v < 2 ^ 8 by omega)]
    have : S1.set p (some [.hs q 0 len 1, .int .u8 ((0 : Nat) : Int), .int .i64 ((8 - 8 : Nat) : Int)]) = S1 := heap_eq rfl (funext fun j => by
      by_cases hj : j = p
      · subst hj; rw [set_blk, hS1p]; rfl
      · rw [set_other _ _ hj]) rfl
    rw [this]
    rfl
  have hp1 : ∀ (U : Heap) (r a b x : AV), putV (.ptr p 1) [x] (U.set p (some [r, a, b])) = some (U.set p (some [r, x, b])) := fun U r a b x => by rw [put3_1 (set_blk _ _ _), set_set]
  have hp2 : ∀ (U : Heap) (r a b x : AV), putV (.ptr p 2) [x] (U.set p (some [r, a, b])) = some (U.set p (some [r, a, x])) := fun U r a b x => by rw [put3_2 (set_blk _ _ _), set_set]
  have hS1f : S1.blk S.next = some [.int .u8 0, .int .u8 0, .int .u8 0, .int .u8 0, .int .u8 0, .int .u8 0, .int .u8 0, .int .u8 0, .int .u8 0] := by rw [hS1]; exact alloc_blk _ _
  have hS1n : S1.next = S.next + 1 := by rw [hS1]; rfl
  · rintro m st ⟨hm, ⟨hm0, rfl⟩ | ⟨rfl, rfl⟩⟩
    · obtain ⟨m, rfl⟩ : ∃ m', m = m' + 1 := ⟨m - 1, by omega⟩
      have hm1 : ((m + 1 : Nat) : Int) - 1 = (m : Int) := by omega
      have c4 : (m : Int) ≥ 0 := by omega
      have w3 : IntKind.wrap .i64 ((m : Int) - 1) = (m : Int) - 1 := wr _ (by omega)
      obtain ⟨b, hb⟩ : ∃ b, b = v / 2 ^ m % 2 := ⟨_, rfl⟩
      have hb2 : b < 2 := by rw [hb]; exact Nat.mod_lt _ (by omega)
      have hdv : v / 2 ^ m < 18446744073709551616 := Nat.lt_of_le_of_lt (Nat.div_le_self _ _) (by omega)
      have w4 : andI .u64 (shrI .u64 (v : Int) (m : Int)) 1 = (b : Int) := by
        rw [shr64 _ _ (by omega)]
        have := and64 (v / 2 ^ m) 1 hdv (by omega)
        rw [Nat.and_one_is_mod, ← hb] at this
        exact this
      have hdd : v / 2 ^ (m + 1) = v / 2 ^ m / 2 := by rw [Nat.pow_succ, Nat.div_div_eq_div_mul]
      obtain ⟨pt, hpt⟩ : ∃ pt, pt = v / 2 ^ (m + 1) := ⟨_, rfl⟩
      have hpv : 2 * pt + b = v / 2 ^ m := by rw [hpt, hb, hdd]; omega
      have hpt7 : pt < 2 ^ 7 := by
        have : v / 2 ^ m < 256 := Nat.lt_of_le_of_lt (Nat.div_le_self _ _) hv
        rw [hpt, hdd]; omega
      have w5 : IntKind.wrap .u8 (b : Int) = (b : Int) := wb _ (by omega)
      have w6 : orI .u8 (shlI .u8 (pt : Int) 1) (b : Int) = ((v / 2 ^ m : Nat) : Int) := by
        have := shl8 pt 1 (by omega)
        rw [show ((1 : Nat) : Int) = 1 from rfl] at this
        rw [this, or8 _ _ (Nat.mod_lt _ (by omega)) (by omega), Nat.mod_eq_of_lt (by omega), or_mul pt b 1 (by omega), ← hpv]
        congr 1; omega
      have w7 : IntKind.wrap .i64 (((8 - (m + 1) : Nat) : Int) + 1) = ((8 - m : Nat) : Int) := by rw [wr _ (by omega)]; omega
      rw [← hpt]
      cases m with
      | zero =>
        have c5 : (((8 - 0 : Nat) : Int) == 8) = true := rfl
        have c7 : (0 : Int) < ((9 : Nat) : Int) := by omega
        have tn : Int.toNat 0 = 0 := rfl
        have w8 : IntKind.wrap .i64 ((0 : Int) + 1) = 1 := by rw [wr _ (by omega)]; rfl
        have v1 : v / 2 ^ 0 = v := by rw [Nat.pow_zero, Nat.div_one]
        have w3' : IntKind.wrap .i64 (((0 : Nat) : Int) - 1) = -1 := by rw [wr _ (by omega)]; rfl
        have hfu : ∀ c, putV (.ptr S.next 0) [.int .u8 ((v / 2 ^ 0 : Nat) : Int)] (S1.set p c) = some ((S1.set S.next (some (.int .u8 (v : Int) :: List.replicate 8 (.int .u8 0)))).set p c) := fun c => by
          have hb : (S1.set p c).blk S.next = some [.int .u8 0, .int .u8 0, .int .u8 0, .int .u8 0, .int .u8 0, .int .u8 0, .int .u8 0, .int .u8 0, .int .u8 0] := by rw [set_other _ _ (by omega)]; exact hS1f
          rw [putV_p hb (by simp), v1]
          congr 1
          exact heap_eq rfl (funext fun j => by
            by_cases h1 : j = S.next
            · subst h1
              rw [set_blk, set_other _ _ (by omega), set_blk]; rfl
            · rw [set_other _ _ h1]
              by_cases h2 : j = p
              · subst h2; rw [set_blk, set_blk]
              · rw [set_other _ _ h2, set_other _ _ h2, set_other _ _ h1]) rfl
        refine .inr ⟨0, _, by omega, by simp only [eql_ptr37, eql_nilp37, eql_ptr42, eql_nilp42, eql_ptr58, eql_nilp58, eql_ptr277, eql_nilp277, eql_nils32, eql_is32, eql_hs32, eql_nils33, eql_is33, eql_hs33, eql_nils34, eql_is34, eql_hs34, len_nils26, len_is26, len_hs26, len_nils32, len_is32, len_hs32, len_nils33, len_is33, len_hs33, len_nils34, len_is34, len_hs34, len_nils61, len_is61, len_hs61, len_nils124, len_is124, len_hs124, len_nils156, len_is156, len_hs156, len_nils245, len_is245, len_hs245, bO_s, gB_t, asBool_b, asInt_i, asAgg_a, asTup_a, asStr_s, asCons_c, asNil_n, nthA_0, nthA_s, aggCells_a, addV_p, addV_i, seeV_p, seeV_i, same_nil, same_1, same_2, tr_v, decide_true, decide_false, Bool.false_eq_true, if_false, if_true, Bool.not_true, Bool.not_false, Bool.and_true, Bool.true_and, Bool.and_self, List.getElem?_cons_zero, List.getElem?_cons_succ, Nat.zero_add, Nat.add_zero, beq_self_eq_true, bne_self_eq_false, Int.reduceBNe, Int.reduceBEq, Int.reduceLT, Int.reduceGT, Int.reduceLE, Int.reduceGE, Nat.reduceAdd, Nat.reduceMul, Nat.reduceLeDiff, hm1, c4, set_blk, aShr, w4, w5, w6, hp1, w7, hp2, c5, c7, tn, Nat.zero_mul, hfu, w8, w3'], by omega, .inr ⟨rfl, rfl⟩⟩
      | succ m =>
        have c5 : (((8 - (m + 1) : Nat) : Int) == 8) = false := by rw [beq_eq_false_iff_ne]; omega
        refine .inr ⟨m + 1, _, by omega, by simp only [eql_ptr37, eql_nilp37, eql_ptr42, eql_nilp42, eql_ptr58, eql_nilp58, eql_ptr277, eql_nilp277, eql_nils32, eql_is32, eql_hs32, eql_nils33, eql_is33, eql_hs33, eql_nils34, eql_is34, eql_hs34, len_nils26, len_is26, len_hs26, len_nils32, len_is32, len_hs32, len_nils33, len_is33, len_hs33, len_nils34, len_is34, len_hs34, len_nils61, len_is61, len_hs61, len_nils124, len_is124, len_hs124, len_nils156, len_is156, len_hs156, len_nils245, len_is245, len_hs245, bO_s, gB_t, asBool_b, asInt_i, asAgg_a, asTup_a, asStr_s, asCons_c, asNil_n, nthA_0, nthA_s, aggCells_a, addV_p, addV_i, seeV_p, seeV_i, same_nil, same_1, same_2, tr_v, decide_true, decide_false, Bool.false_eq_true, if_false, if_true, Bool.not_true, Bool.not_false, Bool.and_true, Bool.true_and, Bool.and_self, List.getElem?_cons_zero, List.getElem?_cons_succ, Nat.zero_add, Nat.add_zero, beq_self_eq_true, bne_self_eq_false, Int.reduceBNe, Int.reduceBEq, Int.reduceLT, Int.reduceGT, Int.reduceLE, Int.reduceGE, Nat.reduceAdd, Nat.reduceMul, Nat.reduceLeDiff, hm1, c4, set_blk, aShr, w4, w5, w6, hp1, w7, hp2, c5, w3], by omega, .inl ⟨by omega, rfl⟩⟩
    · have c4 : ¬ ((-1 : Int) ≥ 0) := by omega
      obtain ⟨U, hU⟩ : ∃ U, U = (S1.set S.next (some (.int .u8 (v : Int) :: List.replicate 8 (.int .u8 0)))).set p (some [.hs q 0 len 1, .int .u8 0, .int .i64 0]) := ⟨_, rfl⟩
      rw [← hU]
      have hUp : U.blk p = some [.hs q 0 len 1, .int .u8 0, .int .i64 0] := by rw [hU]; exact set_blk _ _ _
      have hUq : U.blk q = some cs := by rw [hU, set_other _ _ hqp, set_other _ _ (by omega), hS1, alloc_other _ _ (by omega)]; exact hq
      have hUf : U.blk S.next = some (.int .u8 (v : Int) :: List.replicate 8 (.int .u8 0)) := by rw [hU, set_other _ _ (by omega)]; exact set_blk _ _ _
      have hUn : U.next = S.next + 1 := by rw [hU]; exact hS1n
      refine .inl ⟨(0, [.ptr p 0, .ptr S.next 0, .int .i64 1], U), by simp only [eql_ptr37, eql_nilp37, eql_ptr42, eql_nilp42, eql_ptr58, eql_nilp58, eql_ptr277, eql_nilp277, eql_nils32, eql_is32, eql_hs32, eql_nils33, eql_is33, eql_hs33, eql_nils34, eql_is34, eql_hs34, len_nils26, len_is26, len_hs26, len_nils32, len_is32, len_hs32, len_nils33, len_is33, len_hs33, len_nils34, len_is34, len_hs34, len_nils61, len_is61, len_hs61, len_nils124, len_is124, len_hs124, len_nils156, len_is156, len_hs156, len_nils245, len_is245, len_hs245, bO_s, gB_t, asBool_b, asInt_i, asAgg_a, asTup_a, asStr_s, asCons_c, asNil_n, nthA_0, nthA_s, aggCells_a, addV_p, addV_i, seeV_p, seeV_i, same_nil, same_1, same_2, tr_v, decide_true, decide_false, Bool.false_eq_true, if_false, if_true, Bool.not_true, Bool.not_false, Bool.and_true, Bool.true_and, Bool.and_self, List.getElem?_cons_zero, List.getElem?_cons_succ, Nat.zero_add, Nat.add_zero, beq_self_eq_true, bne_self_eq_false, Int.reduceBNe, Int.reduceBEq, Int.reduceLT, Int.reduceGT, Int.reduceLE, Int.reduceGE, Nat.reduceAdd, Nat.reduceMul, Nat.reduceLeDiff, c4], ?_⟩
      have c5 : (1 : Int) > 0 := by omega
      have e1 := appZ1 (T := U) hUq hl hlen
      obtain ⟨V, hV⟩ : ∃ V, V = (U.set q none).alloc (cs ++ [.int .u8 0]) := ⟨_, rfl⟩
      rw [← hV] at e1
      have hVp : V.blk p = some [.hs q 0 len 1, .int .u8 0, .int .i64 0] := by rw [hV, alloc_other _ _ (by rw [set_next]; omega), set_other _ _ (Ne.symm hqp)]; exact hUp
      have e2 := put3_0 (x := .hs U.next 0 (len + 1) 1) hVp
      obtain ⟨V2, hV2⟩ : ∃ V2, V2 = V.set p (some [.hs U.next 0 (len + 1) 1, .int .u8 0, .int .i64 0]) := ⟨_, rfl⟩
      rw [← hV2] at e2
      have b2 : V2.blk p = some [.hs U.next 0 (len + 1) 1, .int .u8 0, .int .i64 0] := by rw [hV2]; exact set_blk _ _ _
      have e3 := slice_hs U.next 0 (len + 1) len (by omega)
      rw [Nat.zero_add, Nat.add_sub_cancel_left] at e3
      have hf2 : V2.blk S.next = some (.int .u8 (v : Int) :: List.replicate 8 (.int .u8 0)) := by rw [hV2, set_other _ _ (by omega), hV, alloc_other _ _ (by rw [set_next]; omega), set_other _ _ (by omega)]; exact hUf
      have e4 : aSliceArr 9 1 (.ptr S.next 0) none (some (.int .i64 1)) V2 = some (.hs S.next 0 1 1) := sliceArr_p S.next 0 0 9 1 V2 _ hf2 (by omega) (by simp)
      have hd2 : V2.blk U.next = some (cs ++ [.int .u8 0]) := by
        rw [hV2, set_other _ _ (by omega), hV]
        exact alloc_blk (U.set q none) _
      have e5 := copy1 hl hd2 hf2
      have hcell : cell (.hs U.next 0 (len + 1) 1) = true := rfl
      have lh : aLen Tryz.prog 61 (.hs q 0 len 1) = some (.int .i64 (len : Int)) := len_hs61 _ _ _ _
      have fin : V2.set U.next (some (cs ++ [.int .u8 (v : Int)])) = putH p q cs len v S := heap_eq (by rw [set_next, hV2, set_next, hV]; show U.next + 1 = S.next + 2; omega) (funext fun j => by
        unfold putH
        simp only
        by_cases h1 : j = S.next + 1
        · rw [if_pos h1, h1, ← hUn, set_blk]
        · rw [if_neg h1, set_other _ _ (by omega), hV2]
          by_cases h2 : j = p
          · rw [if_pos h2, h2, set_blk, hUn]
          · rw [if_neg h2, set_other _ _ h2, hV, alloc_other _ _ (by rw [set_next]; omega)]
            by_cases h3 : j = q
            · rw [if_pos h3, h3, set_blk]
            · rw [if_neg h3, set_other _ _ h3, hU, set_other _ _ h2]
              by_cases h4 : j = S.next
              · rw [if_pos h4, h4, set_blk]
              · rw [if_neg h4, set_other _ _ h4, hS1, alloc_other _ _ h4]) (by
        show V2.cx = S.cx
        rw [hV2]
        show V.cx = S.cx
        rw [hV]
        show U.cx = S.cx
        rw [hU]
        show S1.cx = S.cx
        rw [hS1]; rfl)
      simp only [eql_ptr37, eql_nilp37, eql_ptr42, eql_nilp42, eql_ptr58, eql_nilp58, eql_ptr277, eql_nilp277, eql_nils32, eql_is32, eql_hs32, eql_nils33, eql_is33, eql_hs33, eql_nils34, eql_is34, eql_hs34, len_nils26, len_is26, len_hs26, len_nils32, len_is32, len_hs32, len_nils33, len_is33, len_hs33, len_nils34, len_is34, len_hs34, len_nils61, len_is61, len_hs61, len_nils124, len_is124, len_hs124, len_nils156, len_is156, len_hs156, len_nils245, len_is245, len_hs245, bO_s, gB_t, asBool_b, asInt_i, asAgg_a, asTup_a, asStr_s, asCons_c, asNil_n, nthA_0, nthA_s, aggCells_a, addV_p, addV_i, seeV_p, seeV_i, same_nil, same_1, same_2, tr_v, decide_true, decide_false, Bool.false_eq_true, if_false, if_true, Bool.not_true, Bool.not_false, Bool.and_true, Bool.true_and, Bool.and_self, List.getElem?_cons_zero, List.getElem?_cons_succ, Nat.zero_add, Nat.add_zero, beq_self_eq_true, bne_self_eq_false, Int.reduceBNe, Int.reduceBEq, Int.reduceLT, Int.reduceGT, Int.reduceLE, Int.reduceGE, Nat.reduceAdd, Nat.reduceMul, Nat.reduceLeDiff, sel, c5, hUp, lh, e1, hcell, List.all_cons, List.all_nil, e2, b2, e3, e4, e5, fin]
end
end Go.Ab.tV
