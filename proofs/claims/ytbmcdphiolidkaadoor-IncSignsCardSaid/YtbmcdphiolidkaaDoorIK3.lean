/- IncSigns: arguments with bounds; the plain law of other signs. -/
import Derived.Test.YtbmcdphiolidkaaDoorIK2
set_option maxRecDepth 100000
set_option linter.unusedSimpArgs false
set_option linter.unusedVariables false
set_option linter.unusedSectionVars false
namespace Go.Ab.tNearU
open Go Go.Proofs

theorem av25_bnd {N F : Nat} {a : AV} (h : avOk Tryd.prog N (F + 2) 25 [a]) : ∀ c ∈ cut a, InR c := by
  unfold avOk at h
  rw [show Tryd.prog.underlying 25 = some (.slice 3) by kernel_rfl] at h
  simp only [c3, Nat.mul_one] at h
  obtain h | ⟨n, cs, h, h1, h2, h3⟩ := h
  · cases h; intro c hc; cases hc
  · cases h
    intro c hc
    obtain ⟨i, hi, rfl⟩ := List.getElem_of_mem hc
    obtain ⟨v, hv, hr⟩ := av3 (h3 i (by have : i < cs.length := hi; omega))
    rw [of_one (l := cs) hi] at hv
    have hv' : cs[i]'hi = .int .i64 v := by simpa using hv
    show InR (cs[i]'hi)
    rw [hv']
    exact hr
theorem av29_bnd {N F : Nat} {m : M} (hp : m.pre.length = 23) (h : avOk Tryd.prog N (F + 4) 29 m.cells) : Bnd m := by
  unfold avOk at h
  rw [Tryd.underlying29] at h
  simp only [c29] at h
  obtain ⟨hl, hf⟩ := h
  simp only [List.mem_toArray, List.mem_cons, List.not_mem_nil, or_false, forall_eq_or_imp, forall_eq, c5, c23, c24, c25, c26, c27, c3, c9] at hf
  obtain ⟨g0, g1, g2, g3, g4, g5, g6, g7, g8, g9, g10⟩ := hf
  have e : List.take 1 (List.drop 27 m.cells) = [m.b] := by
    rw [of_one (by rw [M.len hp]; omega)]
    have h1 := M.g27 hp
    rw [List.getElem?_eq_getElem (by rw [M.len hp]; omega)] at h1
    rw [Option.some.inj h1]
  rw [e] at g9
  unfold avOk at g9
  rw [show Tryd.prog.underlying 27 = some (.slice 25) by kernel_rfl] at g9
  simp only [c25, Nat.mul_one] at g9
  intro r hr
  obtain h | ⟨n, cs, h, h1, h2, h3⟩ := g9
  · rw [List.singleton_inj.1 h] at hr; cases hr
  · rw [List.singleton_inj.1 h] at hr
    have hr' : r ∈ cs := hr
    obtain ⟨i, hi, rfl⟩ := List.getElem_of_mem hr'
    have h4 := h3 i (by omega)
    rw [of_one hi] at h4
    exact av25_bnd h4
theorem argB22 {a : AV} (h : argOk Tryd.prog maxLen 16 22 a) : ∃ ms, (∀ S, Rd S a ms) ∧ ms.length ≤ maxLen ∧ (∀ m ∈ ms, Arg m) ∧ ∀ m ∈ ms, Bnd m := by
  unfold argOk at h
  rw [Tryd.underlying22] at h
  unfold avOk at h
  rw [Tryd.underlying22] at h
  simp only [c29] at h
  obtain h | ⟨n, cs, h, h1, h2, h3⟩ := h
  · cases h; exact ⟨[], fun S => .inl ⟨rfl, rfl⟩, Nat.zero_le _, by simp, by simp⟩
  · cases h
    obtain ⟨ms, e1, e2, e3⟩ := mbs_of (Q := fun m => Arg m ∧ Bnd m) (R := avOk Tryd.prog maxLen (11 + 4) 29) (fun l hl => by
      obtain ⟨m, a1, a2, a3, a4, a5, a6⟩ := av29 hl
      subst a1
      exact ⟨m, rfl, ⟨a2, a3, a4, a5, a6⟩, av29_bnd a2.pre hl⟩) n cs h2 h3
    subst e1 e2
    exact ⟨ms, fun S => .inr (.inl rfl), h1, fun m hm => (e3 m hm).1, fun m hm => (e3 m hm).2⟩
theorem argB29 {a : AV} (h : argOk Tryd.prog maxLen 16 29 a) : ∃ m : M, a = .agg m.cells ∧ Arg m ∧ Bnd m := by
  unfold argOk at h
  rw [Tryd.underlying29] at h
  obtain ⟨cs, rfl, h⟩ := h
  obtain ⟨m, a1, a2, a3, a4, a5, a6⟩ := av29 (F := 12) h
  subst a1
  exact ⟨m, rfl, ⟨a2, a3, a4, a5, a6⟩, av29_bnd (F := 12) a2.pre h⟩

theorem cut_nrm_sub {a c : AV} (h : c ∈ cut (nrm a)) : c ∈ cut a := by
  unfold nrm at h
  split at h
  · cases h
  · exact h
theorem Bnd.norm {m : M} (h : Bnd m) (hg : Good 1000 m) : Bnd m.norm := fun r hr c hc => by
  have hr' : r ∈ cut (nrmB m.b) := hr
  rw [cut_nB hg.b] at hr'
  obtain ⟨r0, h0, rfl⟩ := List.mem_map.1 hr'
  exact h r0 h0 c (cut_nrm_sub hc)
theorem Stl.norm {m : M} (h : Stl m) : Stl m.norm := fun c hc => h c (cut_nrm_sub hc)
theorem Stl.zM : Stl zM := fun c hc => by cases hc

-- sizes
theorem absW_ng {x : Int} (h : -1099511627776 ≤ x ∧ x ≤ 1099511627776) : absW (ng x) = absW x ∧ 0 ≤ absW x ∧ absW x ≤ 1099511627776 := by
  unfold absW ng
  rw [wr (0 - x) (by omega), wr (0 - (0 - x)) (by omega)]
  refine ⟨?_, ?_⟩
  · split <;> split <;> omega
  · split <;> omega
/-- The same sizes. -/
structure Sv (m m' : M) : Prop where
  pre : m'.pre = m.pre
  rl : rl m'.v = rl m.v
  ab : ∀ u, u < Go.Ab.tNearU.rl m.v * 2 → absW (intOf (cut m'.v)[u]?) = absW (intOf (cut m.v)[u]?) ∧ 0 ≤ absW (intOf (cut m.v)[u]?) ∧ absW (intOf (cut m.v)[u]?) ≤ 1099511627776
theorem Row.cutl {N e : Nat} {a : AV} (h : Row N e a) : (cut a).length = rl a * e := by
  obtain rfl | ⟨n, cs, rfl, h1, h2, h3⟩ := h
  · exact (Nat.zero_mul _).symm
  · exact h2
theorem Stl.ab {m : M} (hs : Stl m) (hv : Row 1000 2 m.v) {u : Nat} (hu : u < Go.Ab.tNearU.rl m.v * 2) : -1099511627776 ≤ intOf (cut m.v)[u]? ∧ intOf (cut m.v)[u]? ≤ 1099511627776 := by
  have hl := hv.cutl
  have hu' : u < (cut m.v).length := by omega
  rw [List.getElem?_eq_getElem hu']
  exact hs _ (List.getElem_mem hu')
theorem Sv.refl {m : M} (hs : Stl m) (hv : Row 1000 2 m.v) : Sv m m := ⟨rfl, rfl, fun u hu => ⟨rfl, (absW_ng (hs.ab hv hu)).2⟩⟩
theorem Sv.trans {a b c : M} (h : Sv a b) (h' : Sv b c) : Sv a c := ⟨h'.pre.trans h.pre, h'.rl.trans h.rl, fun u hu => ⟨((h'.ab u (by rw [h.rl]; exact hu)).1).trans (h.ab u hu).1, (h.ab u hu).2⟩⟩
theorem rl_nrm' (a : AV) : Go.Ab.tNearU.rl (nrm a) = Go.Ab.tNearU.rl a := by
  unfold nrm
  split <;> rfl
theorem cut_nrm_at {a : AV} {u : Nat} (hu : u < Go.Ab.tNearU.rl a * 2) : (cut (nrm a))[u]? = (cut a)[u]? := by
  unfold nrm
  split
  · have : u < 0 * 2 := hu
    omega
  · rfl
theorem Sv.norm {m : M} (hs : Stl m) (hv : Row 1000 2 m.v) : Sv m m.norm := ⟨rfl, rl_nrm' _, fun u hu => by
  have h1 : (cut m.norm.v)[u]? = (cut m.v)[u]? := cut_nrm_at hu
  rw [h1]
  exact (Sv.refl hs hv).ab u hu⟩
theorem Sv.neg {m : M} {v' b' : AV} (hs : Stl m) (hv : Row 1000 2 m.v) (h : NegV m.v v') : Sv m { m with v := v', b := b' } := by
  rcases h with ⟨h1, h2⟩ | ⟨n, cs, cs', h1, h2, h3, h4, h5, h6, h7⟩
  · refine ⟨rfl, ?_, fun u hu => ?_⟩
    · show Go.Ab.tNearU.rl v' = _
      rw [h1, h2]
    · rw [h1] at hu
      have : u < 0 * 2 := hu
      omega
  · refine ⟨rfl, ?_, fun u hu => ?_⟩
    · show Go.Ab.tNearU.rl v' = _
      rw [h1, h2]; rfl
    · have hb := hs.ab hv hu
      have e1 : intOf (cut ({ m with v := v', b := b' } : M).v)[u]? = ng (intOf (cut m.v)[u]?) := by
        show intOf (cut v')[u]? = _
        rw [h1] at hu
        rw [h1, h2]
        exact h7 u hu
      rw [e1]
      exact absW_ng hb
theorem Sv.kind {m m' : M} (h : Sv m m') : m'.kind = m.kind := by unfold M.kind; rw [h.pre]
theorem Sv.cov {m m' : M} (h : Sv m m') (p : Nat) : m'.cov p = m.cov p := by unfold M.cov sb; rw [h.kind, h.pre]
theorem Sv.rects {m m' : M} (h : Sv m m') : m'.rects = m.rects := by unfold M.rects sb; rw [h.kind, h.pre]
theorem Sv.pErr {m m' : M} (h : Sv m m') : m'.pErr = m.pErr := by unfold M.pErr sb; rw [h.kind, h.pre]
theorem sizeP_eq {m m' : M} (h : Sv m m') (blk : Nat) (vert : Bool) : ∀ n p, p + n ≤ Go.Ab.tNearU.rl m.v → sizeP m' blk vert n p = sizeP m blk vert n p ∧ 0 ≤ sizeP m blk vert n p ∧ sizeP m blk vert n p ≤ 1099511627776
  | 0, p, _ => ⟨rfl, Int.le_refl _, by show (0 : Int) ≤ _; omega⟩
  | n + 1, p, hp => by
    simp only [sizeP]
    rw [h.cov]
    split
    · unfold mvA
      exact h.ab _ (by cases vert <;> simp <;> omega)
    · exact sizeP_eq h blk vert n (p + 1) (by omega)
theorem sizeV_eq {m m' : M} (h : Sv m m') (blk : Nat) (vert : Bool) : sizeV m' blk vert = sizeV m blk vert ∧ 0 ≤ sizeV m blk vert ∧ sizeV m blk vert ≤ 1099511627776 := by
  unfold sizeV
  rw [h.kind, h.rects, h.rl]
  split
  · exact sizeP_eq h blk vert _ 0 (by omega)
  · exact ⟨rfl, Int.le_refl _, by omega⟩
theorem rl_cutW {a : AV} {j : Nat} (hv : Row 1000 2 a) (hj : j ≤ Go.Ab.tNearU.rl a) : Go.Ab.tNearU.rl (cutW a j) = j := by
  obtain rfl | ⟨n, cs, rfl, h1, h2, h3⟩ := hv
  · have : j ≤ 0 := hj
    show 0 = j
    omega
  · rfl
theorem cut_cutW {a : AV} {j u : Nat} (hu : u < j * 2) : (cut (cutW a j))[u]? = (cut a)[u]? := by
  unfold cutW
  split
  · show (List.take (j * 2) _)[u]? = _
    rw [List.getElem?_take_of_lt hu]
    rfl
  · rename_i h
    cases a <;> first | rfl | exact absurd rfl (h _ _)
theorem Sv.cutV {m m' : M} (h : Sv m m') (hv : Row 1000 2 m.v) (hv' : Row 1000 2 m'.v) {j : Nat} (hj : j ≤ Go.Ab.tNearU.rl m.v) : Sv (m.cutV j) (m'.cutV j) := by
  have e1 : Go.Ab.tNearU.rl (m.cutV j).v = j := rl_cutW hv hj
  have e2 : Go.Ab.tNearU.rl (m'.cutV j).v = j := rl_cutW hv' (by rw [h.rl]; exact hj)
  refine ⟨h.pre, e2.trans e1.symm, fun u hu => ?_⟩
  rw [e1] at hu
  have f1 : (cut (m.cutV j).v)[u]? = (cut m.v)[u]? := cut_cutW hu
  have f2 : (cut (m'.cutV j).v)[u]? = (cut m'.v)[u]? := cut_cutW hu
  rw [f1, f2]
  exact h.ab u (by omega)
theorem msum_eq {m m' : M} {nb nb' : M × Bool} (h : Sv m m') (hn : Sv nb.1 nb'.1) (hf : nb'.2 = nb.2) (ab : Bool) (l0 : Nat) (vert : Bool) {s : Int} (hs : 0 ≤ s ∧ s ≤ 1099511627776) :
    msum m' nb' ab l0 vert s = msum m nb ab l0 vert s ∧ 0 ≤ msum m nb ab l0 vert s ∧ msum m nb ab l0 vert s ≤ 2199023255552 := by
  unfold msum
  rw [hf]
  obtain ⟨a1, a2, a3⟩ := sizeV_eq h (stp false ab l0).1 vert
  obtain ⟨b1, b2, b3⟩ := sizeV_eq hn (stp false ab l0).1 vert
  rw [a1, b1]
  split
  · rw [wr _ (by omega)]; exact ⟨rfl, by omega, by omega⟩
  · split
    · rw [wr _ (by omega)]; exact ⟨rfl, by omega, by omega⟩
    · exact ⟨rfl, by omega, by omega⟩
theorem msum_le1 {m m' : M} {nb nb' : M × Bool} (h : Sv m m') (hn : Sv nb.1 nb'.1) (ab : Bool) (l0 : Nat) (vert : Bool) : msum m nb ab l0 vert 0 ≤ 1099511627776 := by
  unfold msum
  obtain ⟨a1, a2, a3⟩ := sizeV_eq h (stp false ab l0).1 vert
  obtain ⟨b1, b2, b3⟩ := sizeV_eq hn (stp false ab l0).1 vert
  split
  · rw [wr _ (by omega)]; omega
  · split
    · rw [wr _ (by omega)]; omega
    · omega
theorem mvdV_eq {m m' : M} {nl na nl' na' : M × Bool} (h : Sv m m') (hv : Row 1000 2 m.v) (hv' : Row 1000 2 m'.v) (hl : Sv nl.1 nl'.1) (hlf : nl'.2 = nl.2) (ha : Sv na.1 na'.1) (haf : na'.2 = na.2) (part : Int) (vert : Bool) :
    mvdE m' part = mvdE m part ∧ mvdV nl' na' m' part vert = mvdV nl na m part vert ∧ 0 ≤ mvdV nl na m part vert := by
  have hE : mvdE m' part = mvdE m part := by unfold mvdE; rw [h.pErr, h.rl, h.rects]
  refine ⟨hE, ?_⟩
  unfold mvdV
  rw [hE, h.cov]
  by_cases he : mvdE m part = 0
  · rw [if_pos he, if_pos he]
    have hj : part.toNat ≤ Go.Ab.tNearU.rl m.v := by
      unfold mvdE at he
      split at he
      · cases he
      · rename_i hno
        have : ¬ ((Go.Ab.tNearU.rl m.v : Int) < part) := fun h => hno (.inr h)
        omega
    have hc := h.cutV hv hv' hj
    obtain ⟨x1, x2, x3⟩ := msum_eq hc hl hlf false ((m.cov part.toNat).headD 0) vert (s := 0) (by omega)
    have x4 := msum_le1 hc hl false ((m.cov part.toNat).headD 0) vert
    obtain ⟨y1, y2, y3⟩ := msum_eq hc ha haf true ((m.cov part.toNat).headD 0) vert (s := msum (m.cutV part.toNat) nl false ((m.cov part.toNat).headD 0) vert 0) ⟨x2, x4⟩
    rw [x1]
    exact ⟨y1, y2⟩
  · rw [if_neg he, if_neg he]
    exact ⟨rfl, Int.le_refl _⟩
structure SvL (ms ms' : List M) : Prop where
  len : ms.length = ms'.length
  at' : ∀ i (h : i < ms.length) (h' : i < ms'.length), Sv ms[i] ms'[i]
theorem Sv.zM : Sv zM zM := Sv.refl Stl.zM (.inl rfl)
theorem fa_sv {fi a : Int} {ms ms' : List M} (h : SvL ms ms') : Sv (fa fi ms a).1 (fa fi ms' a).1 ∧ (fa fi ms' a).2 = (fa fi ms a).2 := by
  have hl := h.len
  unfold fa
  by_cases h1 : fi ≤ a ∧ a < fi + ms.length
  · rw [dif_pos h1, dif_pos (by omega)]
    exact ⟨h.at' _ (by omega) (by omega), rfl⟩
  · rw [dif_neg h1, dif_neg (by omega)]
    exact ⟨Sv.zM, rfl⟩
theorem lf_sv {fi w : Int} {ms ms' : List M} (h : SvL ms ms') : Sv (lf fi w ms).1 (lf fi w ms').1 ∧ (lf fi w ms').2 = (lf fi w ms).2 := by
  unfold lf
  rw [← h.len]
  split
  · exact ⟨Sv.zM, rfl⟩
  · exact fa_sv h

-- numbers of coefficients
theorem bside_eq {m m' : M} {nb nb' : M × Bool} (h : ∀ c, tot m c = tot m' c) (hk : m'.kind = m.kind) (hn : ∀ c, tot nb.1 c = tot nb'.1 c) (hf : nb.2 = nb'.2) (ab : Bool) (c : Cd) : bside m' nb' ab c = bside m nb ab c := by
  unfold bside
  rw [hk, ← hf, h, hn]
theorem blockV_eq {m m' : M} {nl na nl' na' : M × Bool} (h : ∀ c, tot m c = tot m' c) (hk : m'.kind = m.kind) (hl : ∀ c, tot nl.1 c = tot nl'.1 c) (hlf : nl.2 = nl'.2) (ha : ∀ c, tot na.1 c = tot na'.1 c) (haf : na.2 = na'.2) (c : Cd) : blockV m' nl' na' c = blockV m nl na c := by
  unfold blockV
  rw [bside_eq h hk hl hlf, bside_eq h hk ha haf]

/-- The same with other signs. -/
def Neg (m m' : M) : Prop := ∃ v' b', m' = { m with v := v', b := b' } ∧ Row 1000 2 v' ∧ NegV m.v v' ∧ Rows 1000 b' ∧ RelB (· = ·) m.b b'
theorem Neg.good {m m' : M} (h : Neg m m') (hg : Good 1000 m) : Good 1000 m' := by
  obtain ⟨v', b', rfl, h1, h2, h3, h4⟩ := h
  exact ⟨hg.pre, hg.r, h1, h3⟩
theorem Neg.byt {m m' : M} (h : Neg m m') (hb : Byt m) : Byt m' := by
  obtain ⟨v', b', rfl, h1, h2, h3, h4⟩ := h
  exact ⟨hb.k, hb.c⟩
theorem Neg.bys {m m' : M} (h : Neg m m') (hb : Bys m) : Bys m' := by
  obtain ⟨v', b', rfl, h1, h2, h3, h4⟩ := h
  exact hb
theorem Neg.bls {m m' : M} (h : Neg m m') : m'.bls = m.bls := by
  obtain ⟨v', b', rfl, h1, h2, h3, h4⟩ := h
  rfl
theorem Neg.le {m m' : M} (h : Neg m m') : Le m m' ∧ Le m' m := by
  obtain ⟨v', b', rfl, _, _, _, h2⟩ := h
  refine ⟨⟨rfl, fun c => ?_⟩, ⟨rfl, fun c => ?_⟩⟩
  · rcases h2.row c with h | ⟨r, r', h3, h4, h5⟩
    · exact .inl h
    · exact .inr ⟨r, r', h3, h4, by omega⟩
  · rcases h2.row c with h | ⟨r, r', h3, h4, h5⟩
    · exact .inl ⟨h.2, h.1⟩
    · exact .inr ⟨r', r, h4, h3, by omega⟩
theorem Neg.sv {m m' : M} (h : Neg m m') (hs : Stl m) (hv : Row 1000 2 m.v) : Sv m m' := by
  obtain ⟨v', b', rfl, h1, h2, h3, h4⟩ := h
  exact Sv.neg hs hv h2
theorem Sv.normR {m m' : M} (h : Sv m m') : Sv m m'.norm := ⟨h.pre, (rl_nrm' _).trans h.rl, fun u hu => by
  have h1 : (cut m'.norm.v)[u]? = (cut m'.v)[u]? := cut_nrm_at (by rw [h.rl]; exact hu)
  rw [h1]
  exact h.ab u hu⟩
structure NegL (ms ms' : List M) : Prop where
  len : ms.length = ms'.length
  at' : ∀ i (h : i < ms.length) (h' : i < ms'.length), Neg ms[i] ms'[i]
theorem NegL.good {ms ms' : List M} (h : NegL ms ms') (hg : ∀ m ∈ ms, Good 1000 m) : ∀ m ∈ ms', Good 1000 m := fun m hm => by
  obtain ⟨i, hi, rfl⟩ := List.getElem_of_mem hm
  exact (h.at' i (by rw [h.len]; exact hi) hi).good (hg _ (List.getElem_mem _))
theorem NegL.byt {ms ms' : List M} (h : NegL ms ms') (hg : ∀ m ∈ ms, Byt m) : ∀ m ∈ ms', Byt m := fun m hm => by
  obtain ⟨i, hi, rfl⟩ := List.getElem_of_mem hm
  exact (h.at' i (by rw [h.len]; exact hi) hi).byt (hg _ (List.getElem_mem _))
theorem NegL.bys {ms ms' : List M} (h : NegL ms ms') (hg : ∀ m ∈ ms, Bys m) : ∀ m ∈ ms', Bys m := fun m hm => by
  obtain ⟨i, hi, rfl⟩ := List.getElem_of_mem hm
  exact (h.at' i (by rw [h.len]; exact hi) hi).bys (hg _ (List.getElem_mem _))
theorem NegL.le {ms ms' : List M} (h : NegL ms ms') (hg : ∀ m ∈ ms, Good 1000 m) : LeL ms (ms'.map M.norm) ∧ LeL (ms'.map M.norm) ms := by
  have hg' := h.good hg
  refine ⟨⟨by rw [List.length_map]; exact h.len, fun i h1 h2 => ?_⟩, ⟨by rw [List.length_map]; exact h.len.symm, fun i h1 h2 => ?_⟩⟩
  · rw [List.length_map] at h2
    rw [List.getElem_map]; exact (h.at' i h1 h2).le.1.norm (hg' _ (List.getElem_mem _))
  · rw [List.length_map] at h1
    rw [List.getElem_map]; exact (h.at' i h2 h1).le.2.normL (hg' _ (List.getElem_mem _))
theorem NegL.sv {ms ms' : List M} (h : NegL ms ms') (hg : ∀ m ∈ ms, Good 1000 m) (hs : ∀ m ∈ ms, Stl m) : SvL ms (ms'.map M.norm) :=
  ⟨by rw [List.length_map]; exact h.len, fun i h1 h2 => by
    rw [List.length_map] at h2
    rw [List.getElem_map]
    exact ((h.at' i h1 h2).sv (hs _ (List.getElem_mem _)) (hg _ (List.getElem_mem _)).v).normR⟩
end Go.Ab.tNearU
