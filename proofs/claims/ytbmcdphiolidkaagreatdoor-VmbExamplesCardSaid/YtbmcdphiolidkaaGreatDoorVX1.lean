/- What a writer's Bits returns, reckoned in one step out of the heap: for the closed statements. -/
import Derived.Test.YtbmcdphiolidkaaGreatDoorVB3
set_option maxRecDepth 100000
set_option linter.unusedSimpArgs false
set_option linter.unusedVariables false
set_option linter.unusedSectionVars false
namespace Go.Ab.tV
open Go Go.Proofs

theorem mixed : Tryz.prog.follows .mixedOrders = true := by kernel_rfl
theorem noG : ∀ (i : Nat) (cs : List AV), Gk i = some cs → noIdL cs = true := by
  intro i cs h
  unfold Gk twoG at h
  split at h
  · cases h
    kernel_rfl
  · split at h
    · cases h
      kernel_rfl
    · cases h
noncomputable def Bk : CallF := fun f way args S => if kn f args = true ∧ way = 0 then locC (tabN (rows (ctlF 1000)) 60) f 0 args S else none
theorem known_lt : ∀ f ∈ knownF, f < yldId := by
  have : (knownF.all fun f => decide (f < yldId)) = true := by decide
  exact fun f hf => of_decide_eq_true (List.all_eq_true.1 this f hf)
theorem Bk_ok : NOk Tryz.prog Gk Bk := by
  have h0 := locC_ok noG (tabN_ok (rngC_ok (ctlF_ok 1000)) mixed (rows (ctlF 1000)) 60)
  refine ⟨fun f way args S r hlt h => ?_, fun f way args S h => ?_⟩
  · unfold Bk at h
    split at h
    · exact h0.ok _ _ _ _ _ hlt h
    · cases h
  · unfold Bk
    rw [if_neg]
    rintro ⟨hk, _⟩
    simp only [kn, Bool.and_eq_true, decide_eq_true_eq] at hk
    have := known_lt f hk.1
    omega
theorem Bk_silent : Silent Bk := ⟨fun f way args S h => by unfold Bk; rw [if_neg]; rw [h]; simp, fun f args S h => by unfold Bk; rw [if_pos ⟨h, rfl⟩]⟩
theorem Cn_ok (k : Nat) : NOk Tryz.prog Gk (Cn Bk k) := callN_ok (rngC_ok ctlV_ok) mixed noG An Bk_ok k
def natsOf : List AV → Option (List Nat)
  | [] => some []
  | .int .u8 (.ofNat x) :: l => match Nat.blt x 256 with
    | true => (match natsOf l with | some r => some (x :: r) | none => none)
    | false => none
  | _ => none
theorem natsOf_some : ∀ {l : List AV} {W : List Nat}, natsOf l = some W → l = u8s W ∧ ∀ x ∈ W, x < 256
  | [], W, h => by
    simp only [natsOf] at h
    cases h
    exact ⟨rfl, fun x hx => by simp at hx⟩
  | a :: l, W, h => by
    unfold natsOf at h
    split at h
    · rename_i e
      cases e
    · rename_i x l' e
      cases e
      split at h
      · rename_i hx
        split at h
        · rename_i r hr
          cases h
          obtain ⟨h1, h2⟩ := natsOf_some hr
          refine ⟨by rw [h1]; rfl, fun y hy => ?_⟩
          rcases List.mem_cons.1 hy with rfl | hy
          · simpa [Nat.blt_eq] using hx
          · exact h2 y hy
        · cases h
      · cases h
    · cases h
def rowW (row : AV) (p : Nat) (S : Heap) : Option (Nat × List Nat) := match row with
  | .nils => some (p, [])
  | .hs q 0 len 1 => (match S.blk q with
    | some cs => (match natsOf cs with
      | some W => (match Nat.beq len W.length && Nat.blt 0 len && Nat.blt q S.next && !Nat.beq q p with | true => some (q, W) | false => none)
      | none => none)
    | none => none)
  | _ => none
def wrOf (p : Nat) (S : Heap) : Option (List Bool) := match S.blk p with
  | some [row, .int .u8 (.ofNat part), .int .i64 (.ofNat n)] => (match rowW row p S with
    | some x => (match Nat.blt n 8 && Nat.blt part (2 ^ n) && Nat.blt p S.next with | true => some (bitsW x.2 part n) | false => none)
    | none => none)
  | _ => none
theorem wrOf_some {p : Nat} {S : Heap} {bs : List Bool} (h : wrOf p S = some bs) : ∃ q, Wr S p q bs := by
  unfold wrOf at h
  split at h
  · rename_i row part n hb
    split at h
    · rename_i x hx
      split at h
      · rename_i hc
        cases h
        simp only [Bool.and_eq_true, Nat.blt_eq] at hc
        obtain ⟨⟨c1, c2⟩, c3⟩ := hc
        unfold rowW at hx
        split at hx
        · cases hx
          exact ⟨p, [], part, n, ⟨by rw [hb]; rfl, fun h => absurd rfl h, fun _ => rfl, c3, c1, c2, fun x hx => by simp at hx⟩, rfl⟩
        · rename_i q len
          split at hx
          · rename_i cs hcs
            split at hx
            · rename_i W hW
              split at hx
              · rename_i hd
                cases hx
                simp only [Bool.and_eq_true, Nat.blt_eq, Bool.not_eq_true'] at hd
                obtain ⟨⟨⟨d1, d2⟩, d3⟩, d4⟩ := hd
                have d1 := Nat.eq_of_beq_eq_true d1
                obtain ⟨e1, e2⟩ := natsOf_some hW
                have hW0 : W ≠ [] := fun h => by rw [h] at d1; simp at d1; omega
                have hqp : q ≠ p := fun h => by rw [h] at d4; rw [Nat.beq_refl] at d4; cases d4
                refine ⟨q, W, part, n, ⟨?_, fun _ => ⟨by rw [hcs, e1], d3, hqp⟩, fun h => absurd h hW0, c3, c1, c2, e2⟩, rfl⟩
                rw [hb, if_neg hW0, ← d1]; rfl
              · cases hx
            · cases hx
          · cases hx
        · cases hx
      · cases h
    · cases h
  · cases h
def bitsB : CallF := fun f way args S => match way with
  | 0 => (match Nat.beq f f_bits_Writer_Bits with
    | true => (match args with
      | [.ptr p 0] => (match wrOf p S with | some bs => (match Nat.ble bs.length 1000000 with | true => some (.str (bitStr bs), S) | false => none) | none => none)
      | _ => none)
    | false => none)
  | _ => none
theorem bitsB_some {f way : Nat} {args : List AV} {S : Heap} {r : AV × Heap} (h : bitsB f way args S = some r) : f < yldId ∧ trimC (Cn Bk 3) f way args S = some r := by
  unfold bitsB at h
  split at h
  · split at h
    · rename_i hf
      have hf := Nat.eq_of_beq_eq_true hf
      subst hf
      split at h
      · rename_i p
        split at h
        · rename_i bs hb
          split at h
          · rename_i hl
            cases h
            obtain ⟨q, hw⟩ := wrOf_some hb
            obtain ⟨S', e, f⟩ := wbits_c Bk_silent 1 hw (by have := Nat.le_of_ble_eq_true hl; omega)
            exact ⟨by decide, trimC_some e rfl f.2.1 (fun i hi => f.2.2 i hi (by simp))⟩
          · cases h
        · cases h
      · cases h
    · cases h
  · cases h
theorem bitsB_ok : NOk Tryz.prog Gk bitsB := by
  have h0 := trimC_ok (Cn_ok 3)
  refine ⟨fun f way args S r hlt e => h0.ok _ _ _ _ _ hlt (bitsB_some e).2, fun f way args S hf => ?_⟩
  cases e : bitsB f way args S with
  | none => rfl
  | some r => have := (bitsB_some e).1; omega
noncomputable def CX : CallF := tabB (rows (ctlF 1000)) bitsB 60
theorem CX_ok : NOk Tryz.prog Gk CX := tabB_ok (rngC_ok (ctlF_ok 1000)) mixed _ bitsB_ok 60
def isT (r : Option (AV × Heap)) : Bool := match r with | some (.bool true, _) => true | _ => false
theorem isT_of {r : Option (AV × Heap)} (h : isT r = true) : ∃ S', r = some (.bool true, S') := by
  unfold isT at h
  split at h
  · exact ⟨_, rfl⟩
  · cases h
end Go.Ab.tV
