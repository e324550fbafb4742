/- The statement KindsExamples: the statements KindsTypes and KindsParts hold of all arguments, so they hold of those that it names. -/
import Derived.Test.YtomnllhlclpdjaaDoorKP3
import Derived.Test.YtomnllhlclpdjaaDoorKB
set_option maxRecDepth 100000
set_option linter.unusedSimpArgs false
set_option linter.unusedVariables false
namespace Go.Ab.tK
open Go Go.Proofs

def okT : List AV → Bool
  | [.int .u8 k, .int .u8 m, .int .u8 c, .int .i64 n, .bool _] => decide (0 ≤ k) && decide (k ≤ 255) && decide (0 ≤ m) && decide (m ≤ 255) && decide (0 ≤ c) && decide (c ≤ 255) && decide (-9223372036854775808 ≤ n) && decide (n ≤ 9223372036854775807)
  | _ => false
def okP : List AV → Bool
  | [.int .u8 (.ofNat k), .agg [.int .u8 (.ofNat _), .int .u8 (.ofNat _), .int .u8 (.ofNat _), .int .u8 (.ofNat _)], .int .i64 _] => Nat.ble k 255
  | _ => false
/-- The two statements, of any arguments. -/
def exB : CallF := fun f way args S => match way with
  | 0 => (match Nat.beq f f_spindlelaw12_KindsTypes with
    | true => (match okT args with | true => some (.bool true, S) | false => none)
    | false => (match Nat.beq f f_spindlelaw12_KindsParts with
      | true => (match okP args with | true => some (.bool true, S) | false => none)
      | false => none))
  | _ => none
theorem okT_law {args : List AV} (h : okT args = true) : noIdL args = true ∧ ∃ (C : CallF) (S' : Heap), NOk Tryd.prog Gk C ∧ C f_spindlelaw12_KindsTypes 0 args S0 = some (.bool true, S') := by
  unfold okT at h
  split at h
  · rename_i k m c n b
    simp only [Bool.and_eq_true, decide_eq_true_eq] at h
    obtain ⟨⟨⟨⟨⟨⟨⟨h1, h2⟩, h3⟩, h4⟩, h5⟩, h6⟩, h7⟩, h8⟩ := h
    obtain ⟨fs, kk, hS⟩ := types_law (intra := b) ⟨h1, h2⟩ ⟨h3, h4⟩ ⟨h5, h6⟩ ⟨h7, h8⟩
    exact ⟨rfl, _, S0, Cs_ok fs kk, hS⟩
  · cases h
theorem okP_law {args : List AV} (h : okP args = true) : noIdL args = true ∧ ∃ (C : CallF) (S' : Heap), NOk Tryd.prog Gk C ∧ C f_spindlelaw12_KindsParts 0 args S0 = some (.bool true, S') := by
  unfold okP at h
  split at h
  · exact ⟨rfl, parts_law (Nat.le_of_ble_eq_true h)⟩
  · cases h
theorem loc_true {C : CallF} {f : Nat} {args : List AV} {S' : Heap} (ha : noIdL args = true) (h : C f 0 args S0 = some (.bool true, S')) (S : Heap) : locC C f 0 args S = some (.bool true, S) := by
  unfold locC
  rw [if_pos ha, h]; rfl
theorem exB_some {f way : Nat} {args : List AV} {S : Heap} {r : AV × Heap} (h : exB f way args S = some r) : f < yldId ∧ ∃ C, NOk Tryd.prog Gk C ∧ locC C f way args S = some r := by
  unfold exB at h
  split at h
  · split at h
    · rename_i hb
      have hb := Nat.eq_of_beq_eq_true hb
      subst hb
      split at h
      · rename_i ho
        cases h
        obtain ⟨h1, C, S', h2, h3⟩ := okT_law ho
        exact ⟨by decide, C, h2, loc_true h1 h3 S⟩
      · cases h
    · split at h
      · rename_i hb
        have hb := Nat.eq_of_beq_eq_true hb
        subst hb
        split at h
        · rename_i ho
          cases h
          obtain ⟨h1, C, S', h2, h3⟩ := okP_law ho
          exact ⟨by decide, C, h2, loc_true h1 h3 S⟩
        · cases h
      · cases h
  · cases h
theorem exB_ok : NOk Tryd.prog Gk exB := by
  refine ⟨fun f way args S r hlt e => ?_, fun f way args S hf => ?_⟩
  · obtain ⟨_, C, hC, h⟩ := exB_some e
    exact (locC_ok noG hC).ok _ _ _ _ _ hlt h
  · cases e : exB f way args S with
    | none => rfl
    | some r => have := (exB_some e).1; omega
noncomputable def C3 : CallF := tabB (rows (ctlF 300)) (orC exB B1) 40
theorem C3_ok : NOk Tryd.prog Gk C3 := tabB_ok (rngC_ok (ctlF_ok 300)) mixed _ (orC_ok exB_ok B1_ok) 40
theorem examples_v : isT (C3 f_spindlelaw12_KindsExamples 0 [] S0) = true := by kernel_rfl
theorem kindsExamples_law (xs : List AV) (h : argsOk Tryd.prog maxLen 16 Tryd.f5.params.toList xs) : ∃ (C : CallF) (S' : Heap), NOk Tryd.prog Gk C ∧ C 5 0 xs S0 = some (.bool true, S') := by
  rw [Tryd.params5] at h
  obtain rfl := h
  obtain ⟨S', hS⟩ := isT_of examples_v
  exact ⟨C3, S', C3_ok, hS⟩
end Go.Ab.tK
