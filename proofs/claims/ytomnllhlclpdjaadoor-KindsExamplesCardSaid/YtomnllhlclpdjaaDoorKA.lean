/- What is known beforehand of the functions of the chapter 12: the places of blocks, and that the chapter's examples hold. Computed by the kernel; no condition. -/
import Derived.Test.YtomnllhlclpdjaaDoorKL
set_option maxRecDepth 100000
namespace Go.Ab.tK
open Go Go.Proofs

theorem mixed : Tryd.prog.follows .mixedOrders = true := by kernel_rfl
theorem noG : ∀ (i : Nat) (cs : List AV), Gk i = some cs → noIdL cs = true := by
  intro i cs h
  unfold Gk oneG at h
  split at h
  · cases h; kernel_rfl
  · cases h
def memo0 : Memo := [(f_place_Block, [([.int .i64 0, .int .i64 0], .tup [.int .i64 0, .int .i64 0]), ([.int .i64 0, .int .i64 1], .tup [.int .i64 2, .int .i64 0]), ([.int .i64 0, .int .i64 2], .tup [.int .i64 8, .int .i64 0]), ([.int .i64 0, .int .i64 3], .tup [.int .i64 10, .int .i64 0]), ([.int .i64 1, .int .i64 0], .tup [.int .i64 1, .int .i64 0]), ([.int .i64 1, .int .i64 1], .tup [.int .i64 3, .int .i64 0]), ([.int .i64 1, .int .i64 2], .tup [.int .i64 9, .int .i64 0]), ([.int .i64 1, .int .i64 3], .tup [.int .i64 11, .int .i64 0]), ([.int .i64 2, .int .i64 0], .tup [.int .i64 4, .int .i64 0]), ([.int .i64 2, .int .i64 1], .tup [.int .i64 6, .int .i64 0]), ([.int .i64 2, .int .i64 2], .tup [.int .i64 12, .int .i64 0]), ([.int .i64 2, .int .i64 3], .tup [.int .i64 14, .int .i64 0]), ([.int .i64 3, .int .i64 0], .tup [.int .i64 5, .int .i64 0]), ([.int .i64 3, .int .i64 1], .tup [.int .i64 7, .int .i64 0]), ([.int .i64 3, .int .i64 2], .tup [.int .i64 13, .int .i64 0]), ([.int .i64 3, .int .i64 3], .tup [.int .i64 15, .int .i64 0])]), (f_place_At, [([.int .i64 0], .tup [.int .i64 0, .int .i64 0, .int .i64 0]), ([.int .i64 1], .tup [.int .i64 1, .int .i64 0, .int .i64 0]), ([.int .i64 2], .tup [.int .i64 0, .int .i64 1, .int .i64 0]), ([.int .i64 3], .tup [.int .i64 1, .int .i64 1, .int .i64 0]), ([.int .i64 4], .tup [.int .i64 2, .int .i64 0, .int .i64 0]), ([.int .i64 5], .tup [.int .i64 3, .int .i64 0, .int .i64 0]), ([.int .i64 6], .tup [.int .i64 2, .int .i64 1, .int .i64 0]), ([.int .i64 7], .tup [.int .i64 3, .int .i64 1, .int .i64 0]), ([.int .i64 8], .tup [.int .i64 0, .int .i64 2, .int .i64 0]), ([.int .i64 9], .tup [.int .i64 1, .int .i64 2, .int .i64 0]), ([.int .i64 10], .tup [.int .i64 0, .int .i64 3, .int .i64 0]), ([.int .i64 11], .tup [.int .i64 1, .int .i64 3, .int .i64 0]), ([.int .i64 12], .tup [.int .i64 2, .int .i64 2, .int .i64 0]), ([.int .i64 13], .tup [.int .i64 3, .int .i64 2, .int .i64 0]), ([.int .i64 14], .tup [.int .i64 2, .int .i64 3, .int .i64 0]), ([.int .i64 15], .tup [.int .i64 3, .int .i64 3, .int .i64 0])]), (f_spindleref12_within, [([.int .i64 0, .int .i64 0, .int .i64 1, .int .i64 1], .is 1 [.int .i64 0]), ([.int .i64 0, .int .i64 0, .int .i64 1, .int .i64 2], .is 2 [.int .i64 0, .int .i64 2]), ([.int .i64 0, .int .i64 0, .int .i64 2, .int .i64 1], .is 2 [.int .i64 0, .int .i64 1]), ([.int .i64 0, .int .i64 0, .int .i64 2, .int .i64 2], .is 4 [.int .i64 0, .int .i64 1, .int .i64 2, .int .i64 3]), ([.int .i64 0, .int .i64 0, .int .i64 2, .int .i64 4], .is 8 [.int .i64 0, .int .i64 1, .int .i64 2, .int .i64 3, .int .i64 8, .int .i64 9, .int .i64 10, .int .i64 11]), ([.int .i64 0, .int .i64 0, .int .i64 4, .int .i64 2], .is 8 [.int .i64 0, .int .i64 1, .int .i64 2, .int .i64 3, .int .i64 4, .int .i64 5, .int .i64 6, .int .i64 7]), ([.int .i64 0, .int .i64 0, .int .i64 4, .int .i64 4], .is 16 [.int .i64 0, .int .i64 1, .int .i64 2, .int .i64 3, .int .i64 4, .int .i64 5, .int .i64 6, .int .i64 7, .int .i64 8, .int .i64 9, .int .i64 10, .int .i64 11, .int .i64 12, .int .i64 13, .int .i64 14, .int .i64 15]), ([.int .i64 0, .int .i64 1, .int .i64 1, .int .i64 1], .is 1 [.int .i64 2]), ([.int .i64 0, .int .i64 1, .int .i64 2, .int .i64 1], .is 2 [.int .i64 2, .int .i64 3]), ([.int .i64 0, .int .i64 2, .int .i64 1, .int .i64 1], .is 1 [.int .i64 8]), ([.int .i64 0, .int .i64 2, .int .i64 1, .int .i64 2], .is 2 [.int .i64 8, .int .i64 10]), ([.int .i64 0, .int .i64 2, .int .i64 2, .int .i64 1], .is 2 [.int .i64 8, .int .i64 9]), ([.int .i64 0, .int .i64 2, .int .i64 2, .int .i64 2], .is 4 [.int .i64 8, .int .i64 9, .int .i64 10, .int .i64 11]), ([.int .i64 0, .int .i64 2, .int .i64 4, .int .i64 2], .is 8 [.int .i64 8, .int .i64 9, .int .i64 10, .int .i64 11, .int .i64 12, .int .i64 13, .int .i64 14, .int .i64 15]), ([.int .i64 0, .int .i64 3, .int .i64 1, .int .i64 1], .is 1 [.int .i64 10]), ([.int .i64 0, .int .i64 3, .int .i64 2, .int .i64 1], .is 2 [.int .i64 10, .int .i64 11]), ([.int .i64 1, .int .i64 0, .int .i64 1, .int .i64 1], .is 1 [.int .i64 1]), ([.int .i64 1, .int .i64 0, .int .i64 1, .int .i64 2], .is 2 [.int .i64 1, .int .i64 3]), ([.int .i64 1, .int .i64 1, .int .i64 1, .int .i64 1], .is 1 [.int .i64 3]), ([.int .i64 1, .int .i64 2, .int .i64 1, .int .i64 1], .is 1 [.int .i64 9]), ([.int .i64 1, .int .i64 2, .int .i64 1, .int .i64 2], .is 2 [.int .i64 9, .int .i64 11]), ([.int .i64 1, .int .i64 3, .int .i64 1, .int .i64 1], .is 1 [.int .i64 11]), ([.int .i64 2, .int .i64 0, .int .i64 1, .int .i64 1], .is 1 [.int .i64 4]), ([.int .i64 2, .int .i64 0, .int .i64 1, .int .i64 2], .is 2 [.int .i64 4, .int .i64 6]), ([.int .i64 2, .int .i64 0, .int .i64 2, .int .i64 1], .is 2 [.int .i64 4, .int .i64 5]), ([.int .i64 2, .int .i64 0, .int .i64 2, .int .i64 2], .is 4 [.int .i64 4, .int .i64 5, .int .i64 6, .int .i64 7]), ([.int .i64 2, .int .i64 0, .int .i64 2, .int .i64 4], .is 8 [.int .i64 4, .int .i64 5, .int .i64 6, .int .i64 7, .int .i64 12, .int .i64 13, .int .i64 14, .int .i64 15]), ([.int .i64 2, .int .i64 1, .int .i64 1, .int .i64 1], .is 1 [.int .i64 6]), ([.int .i64 2, .int .i64 1, .int .i64 2, .int .i64 1], .is 2 [.int .i64 6, .int .i64 7]), ([.int .i64 2, .int .i64 2, .int .i64 1, .int .i64 1], .is 1 [.int .i64 12]), ([.int .i64 2, .int .i64 2, .int .i64 1, .int .i64 2], .is 2 [.int .i64 12, .int .i64 14]), ([.int .i64 2, .int .i64 2, .int .i64 2, .int .i64 1], .is 2 [.int .i64 12, .int .i64 13]), ([.int .i64 2, .int .i64 2, .int .i64 2, .int .i64 2], .is 4 [.int .i64 12, .int .i64 13, .int .i64 14, .int .i64 15]), ([.int .i64 2, .int .i64 3, .int .i64 1, .int .i64 1], .is 1 [.int .i64 14]), ([.int .i64 2, .int .i64 3, .int .i64 2, .int .i64 1], .is 2 [.int .i64 14, .int .i64 15]), ([.int .i64 3, .int .i64 0, .int .i64 1, .int .i64 1], .is 1 [.int .i64 5]), ([.int .i64 3, .int .i64 0, .int .i64 1, .int .i64 2], .is 2 [.int .i64 5, .int .i64 7]), ([.int .i64 3, .int .i64 1, .int .i64 1, .int .i64 1], .is 1 [.int .i64 7]), ([.int .i64 3, .int .i64 2, .int .i64 1, .int .i64 1], .is 1 [.int .i64 13]), ([.int .i64 3, .int .i64 2, .int .i64 1, .int .i64 2], .is 2 [.int .i64 13, .int .i64 15]), ([.int .i64 3, .int .i64 3, .int .i64 1, .int .i64 1], .is 1 [.int .i64 15])])]
theorem chk0 : chkM (tabN (rows (ctlF 100)) 40) memo0 = true := by kernel_rfl
noncomputable def C0 : CallF := tabB (rows (ctlF 100)) (memoC memo0) 40
theorem C0_ok : NOk Tryd.prog Gk C0 := tabB_ok (rngC_ok (ctlF_ok 100)) mixed _ (memoC_ok noG (tabN_ok (rngC_ok (ctlF_ok 100)) mixed _ 40) chk0) 40
def memo1 : Memo := [(f_spindlelaw12_awake, [([], .bool true)])]
theorem chk1 : chkM C0 memo1 = true := by kernel_rfl
def B1 : CallF := orC (memoC memo0) (memoC memo1)
theorem B1_ok : NOk Tryd.prog Gk B1 := orC_ok (memoC_ok noG (tabN_ok (rngC_ok (ctlF_ok 100)) mixed _ 40) chk0) (memoC_ok noG C0_ok chk1)
/-- Calls as the kernel computes them. -/
noncomputable def C1 : CallF := tabB (rows (ctlF 300)) B1 40
theorem C1_ok : NOk Tryd.prog Gk C1 := tabB_ok (rngC_ok (ctlF_ok 300)) mixed _ B1_ok 40

/-- So many functions, each with a heap of its own. -/
def selC (fs : List Nat) (C : CallF) : CallF := fun f way args S => match way with
  | 0 => if fs.contains f then locC C f 0 args S else none
  | _ => none
theorem selC_ok (fs : List Nat) {C : CallF} (hC : NOk Tryd.prog Gk C) : NOk Tryd.prog Gk (selC fs C) := by
  have h0 := locC_ok noG hC
  refine ⟨fun f way args S r hlt e => ?_, fun f way args S hf => ?_⟩
  · unfold selC at e
    split at e
    · split at e
      · exact h0.ok _ _ _ _ _ hlt e
      · cases e
    · cases e
  · unfold selC
    split
    · split
      · exact h0.none _ _ _ _ hf
      · rfl
    · rfl
theorem sel_no {fs : List Nat} {C : CallF} {f way : Nat} {args : List AV} {S : Heap} (h : fs.contains f = false) : selC fs C f way args S = none := by
  unfold selC
  split
  · rw [h]; rfl
  · rfl
theorem sel_yes {fs : List Nat} {C : CallF} {f : Nat} {args : List AV} {v : AV} (h : fs.contains f = true) (hv : isV (locC C f 0 args S0) v = true) (k : Nat) (S : Heap) : Cn (selC fs C) k f 0 args S = some (v, S) := by
  have e : selC fs C f 0 args S = some (v, S) := by
    unfold selC
    simp only [h, if_true]
    exact locC_any hv S
  cases k with
  | zero => exact e
  | succ k => show (match selC fs C f 0 args S with | some r => some r | none => _) = _; rw [e]
theorem Cs_ok (fs : List Nat) (k : Nat) : NOk Tryd.prog Gk (Cn (selC fs C1) k) := callN_ok (rngC_ok ctlV_ok) mixed noG An (selC_ok fs C1_ok) k
theorem isV_of {r : Option (AV × Heap)} {v : AV} {S : Heap} (h : r = some (v, S)) (hb : v.beq v = true) : isV r v = true := by rw [h]; exact hb
theorem setCells_cons : ∀ (vs : List AV) (a : AV) (cs : List AV) (o : Nat), setCells (a :: cs) (o + 1) vs = a :: setCells cs o vs
  | [], _, _, _ => rfl
  | v :: vs, a, cs, o => by simp only [setCells, List.set_cons_succ]; exact setCells_cons vs a _ (o + 1)
theorem setCells_all : ∀ (cs vs : List AV), cs.length = vs.length → setCells cs 0 vs = vs
  | [], [], _ => rfl
  | c :: cs, v :: vs, h => by
    simp only [setCells, List.set_cons_zero]
    rw [setCells_cons, setCells_all cs vs (by simpa using h)]
  | [], _ :: _, h => by simp at h
  | _ :: _, [], h => by simp at h
theorem wr (n : Int) (h : -9223372036854775808 ≤ n ∧ n ≤ 9223372036854775807) : IntKind.wrap .i64 n = n := IntWalk.i64_in n h

-- arguments
theorem av3 {N F : Nat} {xs : List AV} (h : avOk Tryd.prog N (F + 1) 3 xs) : ∃ n : Int, xs = [.int .i64 n] ∧ -9223372036854775808 ≤ n ∧ n ≤ 9223372036854775807 := by
  unfold avOk at h
  rw [show Tryd.prog.underlying 3 = some (.int .i64) by kernel_rfl] at h
  simp only at h
  obtain ⟨n, h1, h2⟩ := h
  exact ⟨n, h1, by simpa [Lit.wf, IntKind.min, IntKind.max, IntKind.signed, IntKind.bits] using h2⟩
theorem av5 {N F : Nat} {xs : List AV} (h : avOk Tryd.prog N (F + 1) 5 xs) : ∃ n : Int, xs = [.int .u8 n] ∧ 0 ≤ n ∧ n ≤ 255 := by
  unfold avOk at h
  rw [show Tryd.prog.underlying 5 = some (.int .u8) by kernel_rfl] at h
  simp only at h
  obtain ⟨n, h1, h2⟩ := h
  exact ⟨n, h1, by simpa [Lit.wf, IntKind.min, IntKind.max, IntKind.signed, IntKind.bits] using h2⟩
theorem arg3 {a : AV} (h : argOk Tryd.prog maxLen 16 3 a) : ∃ n : Int, a = .int .i64 n ∧ -9223372036854775808 ≤ n ∧ n ≤ 9223372036854775807 := by
  unfold argOk at h
  rw [show Tryd.prog.underlying 3 = some (.int .i64) by kernel_rfl] at h
  obtain ⟨n, h1, h2⟩ := av3 h
  exact ⟨n, by simpa using h1, h2⟩
theorem arg5 {a : AV} (h : argOk Tryd.prog maxLen 16 5 a) : ∃ n : Int, a = .int .u8 n ∧ 0 ≤ n ∧ n ≤ 255 := by
  unfold argOk at h
  rw [show Tryd.prog.underlying 5 = some (.int .u8) by kernel_rfl] at h
  obtain ⟨n, h1, h2⟩ := av5 h
  exact ⟨n, by simpa using h1, h2⟩
theorem arg4 {a : AV} (h : argOk Tryd.prog maxLen 16 4 a) : ∃ b : Bool, a = .bool b := by
  unfold argOk at h
  rw [show Tryd.prog.underlying 4 = some .bool by kernel_rfl] at h
  unfold avOk at h
  rw [show Tryd.prog.underlying 4 = some .bool by kernel_rfl] at h
  obtain ⟨b, h1⟩ := h
  exact ⟨b, by simpa using h1⟩
end Go.Ab.tK
