/- The abstract machine's regions, code, calls and functions: what it computes of a call, the model does too, for every world and every memory that its values describe. The condition: the program follows the order rule 'mixedOrders'. -/
import Derived.Test.YtbmcdphiolidkaaGreatDoorAbA
import Derived.RangeFuncLeaves
import Derived.OrdersIn
import Derived.Orders
import Derived.Scope
import Derived.RangeFuncRecord
import Derived.OpenShut
import Derived.ChangeStays
import Derived.ReadAgain
import Derived.LaidMore
import Derived.Stop.Joined
/- Freezing: a value's heap slices become rows that never change again. -/
namespace Go.Ab
section
variable {P : Program} {M : Nat → Prop} {h0 : Base} {be : Nat → Option Nat} {bx : Bx} {w : World}

theorem RW.killNone {g : Gam} {S : Heap} (h : RW M h0 g be bx S w) {id : Nat} (hi : g.phi id = none) : RW M h0 g be bx (S.set id none) w :=
  { h with
    live := fun id' b o sz e => by
      obtain ⟨cs, h1, h2⟩ := h.live _ _ _ _ e
      have hne : id' ≠ id := fun hh => by subst hh; rw [hi] at e; cases e
      exact ⟨cs, by simp [Heap.set, hne, h1], h2⟩
    dead := fun id' e => by
      simp only [Heap.set]
      split
      · rfl
      · exact h.dead _ e
    fresh := fun id' e => h.fresh _ e }

def FzOk (M : Nat → Prop) (h0 : Base) (be : Nat → Option Nat) (bx : Bx) (w : World) (d : Nat) : Prop :=
  ∀ (g : Gam) (S S' : Heap) (a a' : AV) (v : Value), RW M h0 g be bx S w → vrel g a v → fz d a S = some (a', S') → ∃ g', g.le g' ∧ vrel g' a' v ∧ RW M h0 g' be bx S' w

theorem fzL_rel {d : Nat} (ih : FzOk M h0 be bx w d) : ∀ {l l' : List AV} {g : Gam} {S S' : Heap} {vs : List Value}, RW M h0 g be bx S w → lrel g l vs → fzM (fz d) l S = some (l', S') →
    ∃ g', g.le g' ∧ lrel g' l' vs ∧ RW M h0 g' be bx S' w
  | [], l', g, S, S', vs, R, hr, h => by
    unfold fzM at h
    cases h
    exact ⟨g, .refl g, hr, R⟩
  | a :: l, l', g, S, S', vs, R, hr, h => by
    unfold fzM at h
    simp only [lrel] at hr
    obtain ⟨v, r, rfl, h1, h2⟩ := hr
    split at h
    · rename_i a' S1 ha
      split at h
      · rename_i l'' S2 hl
        cases h
        obtain ⟨g1, le1, k1, R1⟩ := ih _ _ _ _ _ _ R h1 ha
        obtain ⟨g2, le2, k2, R2⟩ := fzL_rel ih R1 (lrel_mono le1 _ _ h2) hl
        refine ⟨g2, le1.trans le2, ?_, R2⟩
        simp only [lrel]
        exact ⟨v, r, rfl, vrel_mono le2 _ _ k1, k2⟩
      · cases h
    · cases h

theorem fz_rel : ∀ d, FzOk M h0 be bx w d
  | 0 => fun g S S' a a' v R hv h => by unfold fz at h; cases h
  | d + 1 => fun g S S' a a' v R hv h => by
    have ih := fz_rel d
    unfold fz at h
    split at h
    · rename_i id off n es
      split at h
      · rename_i cs hcs
        split at h
        · rename_i hoff
          split at h
          · rename_i cs' S1 hf
            cases h
            simp only [vrel] at hv
            obtain ⟨x, cap, rfl, hcap, hd | hz | ⟨b, o, sz, hl, rfl, hsz⟩⟩ := hv
            · rw [R.dead _ hd] at hcs; cases hcs
            · have hn0 : n = 0 := by omega
              subst hn0
              simp only [Nat.zero_mul, List.take_zero] at hf
              unfold fzM at hf
              cases hf
              by_cases hp : g.phi id = none
              · exact ⟨g, .refl g, by simp only [vrel]; exact ⟨x, cap, rfl, hcap, by simp only [zrel]⟩, R.killNone hp⟩
              · obtain ⟨R1, le⟩ := R.kill id hp
                exact ⟨_, le, by simp only [vrel]; exact ⟨x, cap, rfl, hcap, by simp only [zrel]⟩, R1⟩
            · obtain ⟨cs2, l1, l2⟩ := R.live _ _ _ _ hl
              rw [hcs] at l1; cases l1
              obtain ⟨c, ty, fr, b1, b2, b3, b4, b5⟩ := l2
              obtain ⟨R1, le1⟩ := R.kill id (by rw [hl]; simp)
              obtain ⟨R2, le2⟩ := R1.freeze (R.killFree hl) (o := o + off) (n := n * es) (fun x => c[x]?) fun x v _ _ hx => by rw [cell_of_block b1]; exact hx
              have hr : lrel g ((cs.drop off).take (n * es)) ((c.toList.drop (o + off)).take (n * es)) := lrel_of (by simp; omega) fun i a ha => by
                rw [List.getElem?_take] at ha ⊢
                split at ha
                · rename_i hi
                  rw [List.getElem?_drop] at ha
                  obtain ⟨v, hv, hr⟩ := b5 _ _ ha
                  rw [if_pos hi, List.getElem?_drop]
                  exact ⟨v, by rw [← hv, Array.getElem?_toList]; congr 1; omega, hr⟩
                · cases ha
              obtain ⟨g3, le3, k3, R3⟩ := fzL_rel ih R2 (lrel_mono (le1.trans le2) _ _ hr) hf
              refine ⟨g3, (le1.trans le2).trans le3, ?_, R3⟩
              simp only [vrel]
              refine ⟨_, cap, rfl, hcap, zrel_of fun i a ha => ?_⟩
              obtain ⟨v, hv, hr⟩ := lrel_get _ _ k3 ha
              rw [List.getElem?_take] at hv
              split at hv
              · rename_i hi
                rw [List.getElem?_drop, Array.getElem?_toList] at hv
                exact ⟨v, le3.Z _ _ _ (by simp only [Gam.addZ]; rw [if_pos ⟨trivial, by omega, by omega⟩]; exact hv), hr⟩
              · cases hv
          · cases h
        · cases h
      · cases h
    · split at h
      · rename_i cs' S1 hf
        cases h
        simp only [vrel] at hv
        obtain ⟨vs, rfl, hr⟩ := hv
        obtain ⟨g1, le, k, R1⟩ := fzL_rel ih R hr hf
        exact ⟨g1, le, by simp only [vrel]; exact ⟨vs, rfl, k⟩, R1⟩
      · cases h
    · split at h
      · rename_i cs' S1 hf
        cases h
        simp only [vrel] at hv
        obtain ⟨vs, rfl, hr⟩ := hv
        obtain ⟨g1, le, k, R1⟩ := fzL_rel ih R hr hf
        exact ⟨g1, le, by simp only [vrel]; exact ⟨vs, rfl, k⟩, R1⟩
      · cases h
    · cases h; exact ⟨g, .refl g, hv, R⟩
end
end Go.Ab

/- One operation of the abstract machine, alone: what it looks at and what it leaves. -/
namespace Go.Ab
section
variable {P : Program} {G : Nat → Option (List AV)} {C : CallF} {β : Type} {r : β}

theorem norm_some {d : Option TypeDesc} {a : AV} {K : AV → Option β} (h : norm d a K = some r) : K a = some r := by
  unfold norm at h
  split at h <;> (try simp only [asBool_some, asInt_some, asStr_some, asAgg_some] at h) <;> first | (obtain ⟨b, rfl, h⟩ := h; exact h) | exact h
theorem normL_some : ∀ {ts : List TypeId} {l : List AV} {K : List AV → Option β}, normL P ts l K = some r → K l = some r
  | [], l, K, h => h
  | t :: ts, l, K, h => by
    simp only [normL, asCons_some] at h
    obtain ⟨a, t', rfl, h⟩ := h
    exact normL_some (K := fun r' => K (a :: r')) (norm_some h)
theorem normE_some {op : Op} {t : TypeId} {e : Ent} {K : Ent → Option β} (h : normE P op t e K = some r) : K e = some r := by
  unfold normE at h
  split at h
  · exact h
  · split at h <;> try exact h
    · split at h
      · simp only [asTup_some] at h
        obtain ⟨vs, rfl, h⟩ := h
        exact normL_some (K := fun vs' => K (.v (.tup vs'))) h
      · exact norm_some (K := fun a' => K (.v a')) h
    · exact norm_some (K := fun a' => K (.v a')) h

/-- Is a guarded operation wanted? -/
def want (ops : List Oper) (o : Oper) (env : List Ent) : Option Bool := match o.guard with
  | none => some true
  | some (j, want) => (match (ops[j]?).bind (·.dst) with
    | some d => (match env.getD d (.v .bot) with
      | .v (.bool b) => some (b == want)
      | .v (.tup []) => some false
      | _ => none)
    | none => none)
theorem set_getD : ∀ {env : List Ent} {d : Nat} {e : Ent}, env.getD d (.v .bot) = e → e ≠ .v .bot → env.set d e = env
  | [], d, e, h, hne => by simp at h; exact absurd h.symm hne
  | x :: env, 0, e, h, hne => by simp at h; subst h; simp
  | x :: env, d + 1, e, h, hne => by
    simp only [List.set_cons_succ]
    rw [set_getD (by simpa using h) hne]
theorem guardK_some {ops : List Oper} {o : Oper} {env : List Ent} {K : Bool → List Ent → Option β} (h : guardK ops o env K = some r) :
    ∃ w, want ops o env = some w ∧ K w env = some r := by
  unfold guardK at h
  split at h
  · rename_i hg
    exact ⟨true, by unfold want; rw [hg], h⟩
  · rename_i j wt hg
    split at h
    · rename_i d hd
      split at h
      · rename_i b hb
        cases b with
        | true =>
          rw [if_pos rfl, set_getD hb (by simp)] at h
          exact ⟨true == wt, by unfold want; simp only [hg, hd, hb], h⟩
        | false =>
          rw [if_neg (by simp), set_getD hb (by simp)] at h
          exact ⟨false == wt, by unfold want; simp only [hg, hd, hb], h⟩
      · rename_i hb
        exact ⟨false, by unfold want; simp only [hg, hd, hb], h⟩
      · cases h
    · cases h

theorem rdK_det {cs : List AV} {off n : Nat} {ag : Bool} {K : AV → Option β} (h : rdK cs off n ag K = some r) :
    ∃ a, K a = some r ∧ ∀ {γ : Type} (K2 : AV → Option γ), rdK cs off n ag K2 = K2 a := by
  unfold rdK at h
  split at h
  · rename_i hag
    simp only [gB_some] at h
    obtain ⟨hc, hk⟩ := h
    exact ⟨_, hk, fun K2 => by simp only [rdK, hag, if_true, hc, gB]⟩
  · rename_i hag
    simp only [bO_some] at h
    obtain ⟨a, ha, hk⟩ := h
    exact ⟨_, hk, fun K2 => by simp only [rdK, hag, ha, bO]; rfl⟩
theorem cellsK_det {ag : Bool} {n : Nat} {a : AV} {K : List AV → Option β} (h : cellsK ag n a K = some r) :
    ∃ cs, K cs = some r ∧ ∀ {γ : Type} (K2 : List AV → Option γ), cellsK ag n a K2 = K2 cs := by
  unfold cellsK at h
  split at h
  · rename_i hag
    simp only [asAgg_some, gB_some] at h
    obtain ⟨cs, rfl, hc, hk⟩ := h
    exact ⟨_, hk, fun K2 => by simp only [cellsK, hag, if_true, asAgg, hc, gB]⟩
  · rename_i hag
    simp only [gB_some] at h
    obtain ⟨h1, h2, hk⟩ := h
    exact ⟨_, hk, fun K2 => by simp only [cellsK, hag, h1, h2, gB]; rfl⟩
theorem fillK_det {place : Nat → Option (Nat × Nat × Bool)} : ∀ {l : List (Nat × AV)} {cs : List AV} {K : List AV → Option β}, fillK place cs l K = some r →
    ∃ cs', K cs' = some r ∧ ∀ {γ : Type} (K2 : List AV → Option γ), fillK place cs l K2 = K2 cs'
  | [], cs, K, h => ⟨cs, h, fun _ => rfl⟩
  | (i, v) :: l, cs, K, h => by
    simp only [fillK, bO_some] at h
    obtain ⟨p, hp, h⟩ := h
    obtain ⟨vs, h, hd⟩ := cellsK_det h
    simp only [gB_some] at h
    obtain ⟨hc, h⟩ := h
    obtain ⟨cs', hk, hd2⟩ := fillK_det h
    exact ⟨cs', hk, fun K2 => by simp only [fillK, hp, bO, hd, hc, gB, hd2]⟩
theorem partK_det {cs : List AV} {t : TypeId} {off : Nat} {K : AV → Option β} (h : partK P cs t off K = some r) :
    ∃ a, K a = some r ∧ ∀ {γ : Type} (K2 : AV → Option γ), partK P cs t off K2 = K2 a := by
  unfold partK at h
  split at h
  · rename_i ag n h1 h2
    obtain ⟨a, hk, hd⟩ := rdK_det h
    exact ⟨a, hk, fun K2 => by simp only [partK, h1, h2, hd]⟩
  · cases h
theorem addP_det {p : Ent} {off : Nat} {K : Ent → Option β} (h : addP p off K = some r) : ∃ a, K a = some r ∧ ∀ {γ : Type} (K2 : Ent → Option γ), addP p off K2 = K2 a := by
  unfold addP at h
  split at h
  · exact ⟨_, h, fun K2 => by simp only [addP]⟩
  · simp only [bO_some] at h
    obtain ⟨x, hx, hk⟩ := h
    exact ⟨_, hk, fun K2 => by simp only [addP, hx, bO]⟩
theorem indexAddrK_det {t : TypeId} {x : Ent} {ix : AV} {K : Ent → Option β} (h : indexAddrK P t x ix K = some r) :
    ∃ a, K a = some r ∧ ∀ {γ : Type} (K2 : Ent → Option γ), indexAddrK P t x ix K2 = K2 a := by
  unfold indexAddrK at h
  split at h
  · rename_i n e k i hu
    simp only [bO_some, gB_some] at h
    obtain ⟨k, hk, hc, h⟩ := h
    obtain ⟨a, hka, hd⟩ := addP_det h
    exact ⟨a, hka, fun K2 => by simp only [indexAddrK, hu, hk, bO, hc, gB, hd]⟩
  · rename_i e k i hu
    simp only [bO_some] at h
    obtain ⟨k, hk, h⟩ := h
    split at h
    · simp only [bO_some] at h
      obtain ⟨p, hp, hka⟩ := h
      exact ⟨_, hka, fun K2 => by simp only [indexAddrK, hu, hk, bO, hp]⟩
    · cases h
  · cases h
theorem indexK_det {t : TypeId} {x ix : AV} {K : AV → Option β} (h : indexK P t x ix K = some r) : ∃ a, K a = some r ∧ ∀ {γ : Type} (K2 : AV → Option γ), indexK P t x ix K2 = K2 a := by
  unfold indexK at h
  split at h
  · rename_i n e k i hu
    simp only [asAgg_some, bO_some, gB_some] at h
    obtain ⟨cs, rfl, k, hk, hc, h⟩ := h
    obtain ⟨a, hka, hd⟩ := partK_det h
    exact ⟨a, hka, fun K2 => by simp only [indexK, hu, asAgg, hk, bO, hc, gB, hd]⟩
  · rename_i k i hu
    simp only [asStr_some, gB_some, bO_some] at h
    obtain ⟨s, rfl, hc, b, hb, hk⟩ := h
    exact ⟨_, hk, fun K2 => by simp only [indexK, hu, asStr, hc, gB, hb, bO]⟩
  · cases h
theorem fieldK_det {t : TypeId} {x : AV} {f : Nat} {K : AV → Option β} (h : fieldK P t x f K = some r) : ∃ a, K a = some r ∧ ∀ {γ : Type} (K2 : AV → Option γ), fieldK P t x f K2 = K2 a := by
  unfold fieldK at h
  split at h
  · rename_i fs hu
    simp only [asAgg_some, bO_some] at h
    obtain ⟨fd, hf, cs, rfl, h⟩ := h
    obtain ⟨a, hka, hd⟩ := partK_det h
    exact ⟨a, hka, fun K2 => by simp only [fieldK, hu, asAgg, hf, bO, hd]⟩
  · cases h

/-- What is left as it is, and what is looked at, by an operation's event. -/
def FrameP (F : (β : Type) → Bx → Heap → (Out → Option β) → Option β) (bx : Bx) (S : Heap) (out : Out) : Prop := match out.ev with
  | .none => out.bx = bx ∧ out.S = S ∧ ∀ bx2 S2 β K2, F β bx2 S2 K2 = K2 ⟨out.e, bx2, S2, .none⟩
  | .ld a => out.bx = bx ∧ out.S = S ∧ ∀ bx2 S2 β K2, seeV a S2 = seeV a S → F β bx2 S2 K2 = K2 ⟨out.e, bx2, S2, .ld a⟩
  | .lb a => out.bx = bx ∧ out.S = S ∧ ∀ bx2 S2 β K2, aB2S a S2 = aB2S a S → F β bx2 S2 K2 = K2 ⟨out.e, bx2, S2, .lb a⟩
  | .bld s => out.bx = bx ∧ out.S = S ∧ ∀ (bx2 : Bx) S2 β K2, bx2.getD s none = bx.getD s none → F β bx2 S2 K2 = K2 ⟨out.e, bx2, S2, .bld s⟩
  | .bst s => out.S = S ∧ ∃ c, out.bx = bx.set s c ∧ ∀ (bx2 : Bx) S2 β K2, bx2.getD s none = bx.getD s none → F β bx2 S2 K2 = K2 ⟨out.e, bx2.set s c, S2, .bst s⟩
  | .bal s => out.S = S ∧ ∃ c, out.bx = bx.set s c ∧ ∀ (bx2 : Bx) S2 β K2, bx2[s]? = bx[s]? → F β bx2 S2 K2 = K2 ⟨out.e, bx2.set s c, S2, .bal s⟩
  | .ef => out.bx = bx ∧ ∀ bx2 β K2, F β bx2 S K2 = K2 ⟨out.e, bx2, out.S, .ef⟩

theorem loadK_det {t : TypeId} {p : Ent} {bx : Bx} {S : Heap} {K : Out → Option β} (h : loadK P t p bx S K = some r) :
    ∃ out, K out = some r ∧ FrameP (fun _ bx S K => loadK P t p bx S K) bx S out := by
  unfold loadK at h
  split at h
  · rename_i ag n h1 h2
    split at h
    · rename_i s off
      simp only [bO_some] at h
      obtain ⟨cs, hc, h⟩ := h
      obtain ⟨a, hk, hd⟩ := rdK_det h
      exact ⟨_, hk, rfl, rfl, fun bx2 S2 β K2 e => by simp only [loadK, h1, h2, e, hc, bO, hd]⟩
    · rename_i a
      simp only [bO_some] at h
      obtain ⟨q, hc, h⟩ := h
      obtain ⟨a, hk, hd⟩ := rdK_det h
      exact ⟨_, hk, rfl, rfl, fun bx2 S2 β K2 e => by simp only [loadK, h1, h2, e, hc, bO, hd]⟩
  · cases h
theorem storeK_det {t : TypeId} {p : Ent} {x : AV} {bx : Bx} {S : Heap} {K : Out → Option β} (h : storeK P t p x bx S K = some r) :
    ∃ out, K out = some r ∧ FrameP (fun _ bx S K => storeK P t p x bx S K) bx S out := by
  unfold storeK at h
  split at h
  · rename_i ag n h1 h2
    obtain ⟨vs, h, hd⟩ := cellsK_det h
    simp only [gB_some] at h
    obtain ⟨hg, h⟩ := h
    split at h
    · rename_i s off
      simp only [bO_some, gB_some] at h
      obtain ⟨cs, hc, hg2, hk⟩ := h
      exact ⟨_, hk, rfl, _, rfl, fun bx2 S2 β K2 e => by simp only [storeK, h1, h2, hd, hg, gB, e, hc, bO, hg2]⟩
    · simp only [bO_some] at h
      obtain ⟨S', hp, hk⟩ := h
      exact ⟨_, hk, rfl, fun bx2 β K2 => by simp only [storeK, h1, h2, hd, hg, gB, hp, bO]⟩
  · cases h
theorem newVarK_det {heap : Bool} {dst : Option Nat} {cs : List AV} {bx : Bx} {S : Heap} {K : Out → Option β} (h : newVarK heap dst cs bx S K = some r) :
    ∃ out, K out = some r ∧ FrameP (fun _ bx S K => newVarK heap dst cs bx S K) bx S out := by
  unfold newVarK at h
  split at h
  · rename_i hh
    exact ⟨_, h, rfl, fun bx2 β K2 => by simp only [newVarK, hh, if_true]⟩
  · rename_i hh
    split at h
    · rename_i d
      split at h
      · rename_i hd
        exact ⟨_, h, rfl, _, rfl, fun bx2 S2 β K2 e => by simp only [newVarK, hh, e, hd]; rfl⟩
      · cases h
    · cases h
theorem newRow_det {fz : Bool} {len es : Nat} {cs : List AV} {bx : Bx} {S : Heap} {K : Out → Option β} (h : K (newRowA fz len es cs bx S) = some r) :
    ∃ out, K out = some r ∧ FrameP (fun _ bx S K => K (newRowA fz len es cs bx S)) bx S out := by
  refine ⟨_, h, ?_⟩
  cases fz with
  | true => exact ⟨rfl, rfl, fun _ _ _ _ => rfl⟩
  | false => exact ⟨rfl, fun _ _ _ => rfl⟩
theorem convK_det {fz : Bool} {src dst : TypeId} {x : AV} {bx : Bx} {S : Heap} {K : Out → Option β} (h : convK P fz src dst x bx S K = some r) :
    ∃ out, K out = some r ∧ FrameP (fun _ bx S K => convK P fz src dst x bx S K) bx S out := by
  unfold convK at h
  split at h
  · rename_i k0 k hs hd
    simp only [asInt_some] at h
    obtain ⟨n, rfl, hk⟩ := h
    exact ⟨_, hk, rfl, rfl, fun _ _ _ _ => by simp only [convK, hs, hd, asInt, if_true]⟩
  · rename_i hs hd
    simp only [asStr_some] at h
    obtain ⟨n, rfl, hk⟩ := h
    exact ⟨_, hk, rfl, rfl, fun _ _ _ _ => by simp only [convK, hs, hd, asStr]⟩
  · rename_i e hs hd
    split at h
    · rename_i he
      simp only [bO_some] at h
      obtain ⟨s, hb, hk⟩ := h
      exact ⟨_, hk, rfl, rfl, fun _ _ _ _ e => by simp only [convK, hs, hd, he, e, hb, bO]⟩
    · cases h
  · rename_i e hs hd
    split at h
    · rename_i he
      simp only [asStr_some, gB_some] at h
      obtain ⟨s, rfl, hg, hk⟩ := h
      obtain ⟨out, hk, hf⟩ := newRow_det hk
      refine ⟨out, hk, ?_⟩
      have : (fun (β : Type) bx S (K : Out → Option β) => convK P fz src dst (.str s) bx S K) = fun _ bx S K => K (newRowA fz s.size 1 (byteCells s) bx S) := by
        funext β bx S K; simp only [convK, hs, hd, he, asStr, hg, gB]
      rw [this]; exact hf
    · cases h
  · cases h

theorem FrameP.of_eq {F F' : (β : Type) → Bx → Heap → (Out → Option β) → Option β} {bx : Bx} {S : Heap} {out : Out} (e : F' = F) (h : FrameP F bx S out) : FrameP F' bx S out := e ▸ h

theorem aop_frame {an : OAn} {o : Oper} {env : List Ent} {bx : Bx} {S : Heap} {K : Out → Option β} (h : aopK P G C an o env bx S K = some r) :
    ∃ out, K out = some r ∧ FrameP (fun _ bx S K => aopK P G C an o env bx S K) bx S out := by
  unfold aopK at h
  split at h <;> rename_i hop
  case h_1 x => exact ⟨_, h, rfl, rfl, fun _ _ _ _ => by simp only [aopK, hop]⟩
  case h_2 x => exact ⟨_, h, rfl, rfl, fun _ _ _ _ => by simp only [aopK, hop]⟩
  case h_3 c a b =>
    simp only [bO_some, asBool_some] at h
    obtain ⟨x, hx, t, rfl, h⟩ := h
    cases t
    · exact ⟨_, h, rfl, rfl, fun _ _ _ _ => by simp only [aopK, hop, hx, bO, asBool]; rfl⟩
    · exact ⟨_, h, rfl, rfl, fun _ _ _ _ => by simp only [aopK, hop, hx, bO, asBool]; rfl⟩
  case h_4 t =>
    simp only [bO_some] at h
    obtain ⟨cs, hz, h⟩ := h
    obtain ⟨out, hk, hf⟩ := newVarK_det h
    exact ⟨out, hk, hf.of_eq (by funext β bx S K; simp only [aopK, hop, hz, bO])⟩
  case h_5 t x =>
    simp only [bO_some] at h
    obtain ⟨a, hx, ag, hag, n, hn, h⟩ := h
    obtain ⟨cs, h, hd⟩ := cellsK_det h
    obtain ⟨out, hk, hf⟩ := newVarK_det h
    exact ⟨out, hk, hf.of_eq (by funext β bx S K; simp only [aopK, hop, hx, hag, hn, bO, hd])⟩
  case h_6 t ps =>
    simp only [bO_some] at h
    obtain ⟨zs, hz, l, hl, pl, hpl, h⟩ := h
    obtain ⟨cs, hk, hd⟩ := fillK_det h
    exact ⟨_, hk, rfl, rfl, fun _ _ _ _ => by simp only [aopK, hop, hz, hl, hpl, bO, hd]⟩
  case h_7 t len ps =>
    simp only [bO_some, gB_some] at h
    obtain ⟨e, hel, n, hn, ag, hag, zs, hz, l, hl, hg, h⟩ := h
    obtain ⟨cs, h, hd⟩ := fillK_det h
    obtain ⟨out, hk, hf⟩ := newRow_det h
    exact ⟨out, hk, hf.of_eq (by funext β bx S K; simp only [aopK, hop, hel, hn, hag, hz, hl, bO, hg, gB, hd])⟩
  case h_8 t a =>
    obtain ⟨out, hk, hf⟩ := loadK_det h
    exact ⟨out, hk, hf.of_eq (by funext β bx S K; simp only [aopK, hop])⟩
  case h_9 t a x =>
    simp only [bO_some] at h
    obtain ⟨v, hv, h⟩ := h
    obtain ⟨out, hk, hf⟩ := storeK_det h
    exact ⟨out, hk, hf.of_eq (by funext β bx S K; simp only [aopK, hop, hv, bO])⟩
  case h_10 x =>
    split at h
    · rename_i s f hs
      exact ⟨_, h, rfl, rfl, fun _ _ _ _ => by simp only [aopK, hop, hs]⟩
    · rename_i a ha
      simp only [bO_some] at h
      obtain ⟨p, hp, hk⟩ := h
      exact ⟨_, hk, rfl, rfl, fun _ _ _ _ => by simp only [aopK, hop, ha, hp, bO]⟩
  case h_11 op t x y t2 =>
    simp only [bO_some] at h
    obtain ⟨a, ha, b, hb, z, hz, hk⟩ := h
    exact ⟨_, hk, rfl, rfl, fun _ _ _ _ => by simp only [aopK, hop, ha, hb, hz, bO]⟩
  case h_12 op t x =>
    simp only [bO_some] at h
    obtain ⟨a, ha, z, hz, hk⟩ := h
    exact ⟨_, hk, rfl, rfl, fun _ _ _ _ => by simp only [aopK, hop, ha, hz, bO]⟩
  case h_13 s d x =>
    simp only [bO_some] at h
    obtain ⟨a, ha, h⟩ := h
    obtain ⟨out, hk, hf⟩ := convK_det h
    exact ⟨out, hk, hf.of_eq (by funext β bx S K; simp only [aopK, hop, ha, bO])⟩
  case h_14 f first cap =>
    simp only [bO_some] at h
    obtain ⟨a, ha, b, hb, hk⟩ := h
    exact ⟨_, hk, rfl, rfl, fun _ _ _ _ => by simp only [aopK, hop, ha, hb, bO]⟩
  case h_15 t l c =>
    simp only [bO_some, asInt_some, gB_some] at h
    obtain ⟨e, hel, i, hi, zs, hz, x, hx, y, hy, n, rfl, m, rfl, hg, h⟩ := h
    obtain ⟨out, hk, hf⟩ := newRow_det h
    exact ⟨out, hk, hf.of_eq (by funext β bx S K; simp only [aopK, hop, hel, hi, hz, hx, hy, bO, asInt, if_true, hg, gB])⟩
  case h_16 t x lo hi =>
    simp only [bO_some] at h
    obtain ⟨l, hl, hv, hhv, a, ha, h⟩ := h
    split at h
    · rename_i n e hu
      simp only [bO_some] at h
      obtain ⟨k, hk', z, hz, hk⟩ := h
      refine ⟨_, hk, rfl, rfl, fun bx2 S2 β K2 e => ?_⟩
      have : aSliceArr n k a l hv S2 = some z := by rw [← hz]; unfold aSliceArr; rw [e]
      simp only [aopK, hop, hl, hhv, ha, hu, hk', this, bO]
    · rename_i hna
      simp only [bO_some] at h
      obtain ⟨z, hz, hk⟩ := h
      refine ⟨_, hk, rfl, rfl, fun bx2 S2 β K2 => ?_⟩
      simp only [aopK, hop, hl, hhv, ha, bO, hz]
  case h_17 s x f =>
    split at h
    · rename_i fs hu
      simp only [bO_some, gB_some] at h
      obtain ⟨fd, hf, n, hn, hg, h⟩ := h
      obtain ⟨p, hk, hd⟩ := addP_det h
      exact ⟨_, hk, rfl, rfl, fun _ _ _ _ => by simp only [aopK, hop, hu, hf, hn, bO, hg, gB, hd]⟩
    · cases h
  case h_18 t x f =>
    simp only [bO_some] at h
    obtain ⟨a, ha, h⟩ := h
    obtain ⟨p, hk, hd⟩ := fieldK_det h
    exact ⟨_, hk, rfl, rfl, fun _ _ _ _ => by simp only [aopK, hop, ha, bO, hd]⟩
  case h_19 t x i =>
    simp only [bO_some] at h
    obtain ⟨a, ha, h⟩ := h
    obtain ⟨p, hk, hd⟩ := indexAddrK_det h
    exact ⟨_, hk, rfl, rfl, fun _ _ _ _ => by simp only [aopK, hop, ha, bO, hd]⟩
  case h_20 t x i =>
    simp only [bO_some] at h
    obtain ⟨a, ha, b, hb, h⟩ := h
    obtain ⟨p, hk, hd⟩ := indexK_det h
    exact ⟨_, hk, rfl, rfl, fun _ _ _ _ => by simp only [aopK, hop, ha, hb, bO, hd]⟩
  case h_21 t i =>
    simp only [bO_some, asTup_some] at h
    obtain ⟨a, ha, vs, rfl, z, hz, hk⟩ := h
    exact ⟨_, hk, rfl, rfl, fun _ _ _ _ => by simp only [aopK, hop, ha, bO, asTup, hz]⟩
  case h_22 c =>
    split at h <;> rename_i hcal
    · simp only [bO_some, asCons_some] at h
      obtain ⟨l, hl, a, l', rfl, t, ht, z, hz, hk⟩ := h
      exact ⟨_, hk, rfl, rfl, fun _ _ _ _ => by simp only [aopK, hop, hcal, hl, bO, asCons, ht, hz]⟩
    · simp only [bO_some, asCons_some, gB_some] at h
      obtain ⟨l, hl, s, l', rfl, x, l'', rfl, t, ht, e, hel, i, hi, u, hu, zs, hz, hzl, q, hap, hk⟩ := h
      exact ⟨_, hk, rfl, fun _ _ _ => by simp only [aopK, hop, hcal, hl, bO, asCons, ht, hel, hi, hu, hz, hzl, gB, hap]⟩
    · simp only [bO_some, asCons_some] at h
      obtain ⟨l, hl, s, l', rfl, x, l'', rfl, t, ht, e, hel, n, hn, q, hcp, hk⟩ := h
      exact ⟨_, hk, rfl, fun _ _ _ => by simp only [aopK, hop, hcal, hl, bO, asCons, ht, hel, hn, hcp]⟩
    · simp only [bO_some, asCons_some] at h
      obtain ⟨l, hl, s, l', rfl, a, ha, hk⟩ := h
      exact ⟨_, hk, rfl, rfl, fun _ _ _ _ => by simp only [aopK, hop, hcal, hl, bO, asCons, ha]⟩
    · simp only [bO_some, asCons_some] at h
      obtain ⟨l, hl, s, l', rfl, a, ha, hk⟩ := h
      exact ⟨_, hk, rfl, rfl, fun _ _ _ _ => by simp only [aopK, hop, hcal, hl, bO, asCons, ha]⟩
    · rename_i f
      simp only [bO_some] at h
      obtain ⟨args, hargs, a, ha, h⟩ := h
      unfold callK at h
      split at h
      · rename_i g first cap
        split at h
        · cases h
        · rename_i hny
          simp only [bO_some] at h
          obtain ⟨q, hq, h⟩ := h
          split at h
          · rename_i hfz
            simp only [bO_some] at h
            obtain ⟨q2, hq2, hk⟩ := h
            exact ⟨_, hk, rfl, fun _ _ _ => by simp only [aopK, hop, hcal, hargs, ha, bO, callK, hny, if_false, hq, hfz, if_true, hq2]⟩
          · rename_i hfz
            exact ⟨_, h, rfl, fun _ _ _ => by simp only [aopK, hop, hcal, hargs, ha, bO, callK, hny, if_false, hq, hfz]; rfl⟩
      · simp only [bO_some] at h
        obtain ⟨q, hq, hk⟩ := h
        exact ⟨_, hk, rfl, fun _ _ _ => by simp only [aopK, hop, hcal, hargs, ha, bO, callK, hq]⟩
      · cases h
    · cases h
  case h_23 c =>
    split at h
    · rename_i f hcal
      simp only [bO_some] at h
      obtain ⟨args, hargs, a, ha, h⟩ := h
      split at h
      · rename_i g first cap
        simp only [bO_some] at h
        obtain ⟨q, hq, hk⟩ := h
        exact ⟨_, hk, rfl, fun _ _ _ => by simp only [aopK, hop, hcal, hargs, ha, bO, hq]⟩
      · cases h
    · cases h
  case h_24 => cases h

-- an operation looks at its own operands alone
section
variable {env env2 : List Ent}
theorem opv_congr {o : Operand} (h : opd G env2 o = opd G env o) : opv G env2 o = opv G env o := by unfold opv; rw [h]
theorem opvs_congr : ∀ {l : List Operand}, (∀ x ∈ l, opd G env2 x = opd G env x) → opvs G env2 l = opvs G env l
  | [], _ => rfl
  | o :: l, h => by simp only [opvs, opv_congr (h o (by simp)), opvs_congr (l := l) fun x hx => h x (by simp [hx])]
theorem aParts_congr : ∀ {l : List (Nat × Operand)}, (∀ x ∈ l.map (·.2), opd G env2 x = opd G env x) → aParts G env2 l = aParts G env l
  | [], _ => rfl
  | (i, o) :: l, h => by simp only [aParts, opv_congr (h o (by simp)), aParts_congr (l := l) fun x hx => h x (by simp at hx ⊢; exact .inr hx)]
theorem opvO_congr {o : Option Operand} (h : ∀ x ∈ o, opd G env2 x = opd G env x) : opvO G env2 o = opvO G env o := by
  cases o with
  | none => rfl
  | some o => simp only [opvO, opv_congr (h o rfl)]
theorem aopK_congr {an : OAn} {o : Oper} {bx : Bx} {S : Heap} {K : Out → Option β} (h : ∀ x ∈ o.op.operands, opd G env2 x = opd G env x) :
    aopK P G C an o env2 bx S K = aopK P G C an o env bx S K := by
  obtain ⟨dst, op, ty, pos, after, guard⟩ := o
  cases op <;> simp only [Op.operands] at h <;> simp only [aopK]
  case move x => rw [h x (by simp)]
  case assign x => rw [h x (by simp)]
  case pick c a b => rw [opv_congr (h c (by simp)), h a (by simp), h b (by simp)]
  case box t x => rw [opv_congr (h x (by simp))]
  case build t ps => rw [aParts_congr (l := ps.toList) fun x hx => h x (by simpa using hx)]
  case buildSlice t n ps => rw [aParts_congr (l := ps.toList) fun x hx => h x (by simpa using hx)]
  case load t a => rw [h a (by simp)]
  case store t a x => rw [h a (by simp), opv_congr (h x (by simp))]
  case nilCheck x => rw [h x (by simp)]
  case binOp op t x y t2 => rw [opv_congr (h x (by simp)), opv_congr (h y (by simp))]
  case unOp op t x => rw [opv_congr (h x (by simp))]
  case convert s d x => rw [opv_congr (h x (by simp))]
  case makeFunc f first cap =>
    cases f <;> simp only
    rw [opvs_congr (l := first.toList) fun x hx => h x (by simp at hx; simp [hx]), opvs_congr (l := cap.toList) fun x hx => h x (by simp at hx; simp [hx])]
  case makeSlice t l c => rw [opv_congr (h l (by simp)), opv_congr (h c (by simp))]
  case slice t x lo hi m =>
    cases m <;> simp only
    rw [opvO_congr (o := lo) fun y hy => h y (by cases hy; simp), opvO_congr (o := hi) fun y hy => h y (by cases hy; simp), opv_congr (h x (by simp))]
  case fieldAddr s x f => rw [h x (by simp)]
  case field t x f => rw [opv_congr (h x (by simp))]
  case indexAddr t x i => rw [opv_congr (h i (by simp)), h x (by simp)]
  case index t x i => rw [opv_congr (h x (by simp)), opv_congr (h i (by simp))]
  case extract x i => rw [opv_congr (h x (by simp))]
  case call c =>
    have hargs : opvs G env2 c.args.toList = opvs G env c.args.toList := opvs_congr fun x hx => h x (by simp at hx; simp [Call.operands, hx])
    cases hc : c.callee with
    | builtin b => cases b <;> simp only [hargs]
    | value f => simp only [hargs, opv_congr (h f (by simp [Call.operands, hc]))]
    | invoke a b => rfl
  case defer c =>
    have hargs : opvs G env2 c.args.toList = opvs G env c.args.toList := opvs_congr fun x hx => h x (by simp at hx; simp [Call.operands, hx])
    cases hc : c.callee with
    | builtin b => rfl
    | value f => simp only [hargs, opv_congr (h f (by simp [Call.operands, hc]))]
    | invoke a b => rfl
end
end
end Go.Ab

/- One operation, calls among them: what the abstract machine comes to, the walk comes to. -/
namespace Go.Ab

/-- What calls come to is kept by the model. -/
def CallOk (P : Program) (G : Nat → Option (List AV)) (C : CallF) : Prop :=
  ∀ (f way : Nat) (args : List AV) (S : Heap) (r : AV × Heap), f < yldId → C f way args S = some r →
    (∃ fn, P.funcs[f]? = some fn ∧ fn.name ≠ "runtime.NumGoroutine" ∧ fn.body ≠ none) ∧
    ∀ (M : Nat → Prop) (h0 : Base) (g : Gam) (be : Nat → Option Nat) (bx : Bx) (w : World) (args' : List Value),
      (∀ b, h0.size ≤ b → M b) → GOk G g → RW M h0 g be bx S w → lrel g args args' →
      Calls P f args'.toArray w fun e w' => ∃ v' g', e = .returned v' ∧ g.le g' ∧ vrel g' r.1 v' ∧ RW M h0 g' be bx r.2 w' ∧ r.2.cx = S.cx

-- what a loop over a function keeps of itself
def toCode : AExit → Code
  | .normal => .skip
  | .exit id => .exit id
  | .goto l => .goto l
  | .ret => .ret
/-- The loop's record between two rounds: no jump is pending, or one is. -/
def recOf (lp : Loop) (p : Option AExit) : Obj := .loop { lp with state := if p.isNone then .ready else .done, pending := p.map toCode }

/-- What a function's code runs within: the loop whose rounds it runs, if it is one that is ranged over; whether it may defer calls; what it began with. -/
structure Tie where
  tie : Option (Nat × Loop)
  dfr : Bool
  marks : Bool
  cx : Cx

/-- A later beginning, out of an earlier one: nothing has changed that is out of reach, but the loop's record. -/
structure Bel (M : Nat → Prop) (h0 : Base) (T : Tie) (p : Option AExit) (M1 : Nat → Prop) (h1 : Base) : Prop where
  top : ∀ b, h1.size ≤ b → M1 b
  sub : ∀ b, M1 b → M b
  arr : ∀ b, ¬ M b → (∀ l lp, T.tie = some (l, lp) → b ≠ l) → h1.arr[b]? = h0.arr[b]?
  Z : ∀ b x, ¬ M b → h1.Z b x = h0.Z b x
  size : h0.size ≤ h1.size
  os : h1.os = h0.os
  outp : h1.output = h0.output
  tie : ∀ l lp, T.tie = some (l, lp) → ¬ M l ∧ h1.arr[l]? = some (recOf lp p)

/-- The deferred calls. -/
def drel (g : Gam) : List (Nat × List AV) → List Deferred → Prop
  | [], ds => ds = []
  | (f, as) :: l, ds => ∃ (d : Deferred) (r : List Deferred), ds = d :: r ∧ (∃ cp args : List Value, d = { target := .fn (.func f) cp.toArray, args := args.toArray } ∧ lrel g as (args ++ cp)) ∧ drel g l r
theorem drel_mono {g h : Gam} (le : g.le h) : ∀ {l : List (Nat × List AV)} {ds : List Deferred}, drel g l ds → drel h l ds
  | [], _, e => e
  | (f, as) :: l, ds, e => by
    obtain ⟨d, r, hd, ⟨cp, args, h1, h2⟩, h3⟩ := e
    exact ⟨d, r, hd, ⟨cp, args, h1, lrel_mono le _ _ h2⟩, drel_mono le h3⟩
/-- The marks that loops over functions have left. -/
structure Mrk (mk : Bool) (M M1 : Nat → Prop) (h1 : Base) (ds : List Deferred) : Prop where
  nd : ds.Nodup
  ok : ds ≠ [] → mk = true
  all : ∀ d ∈ ds, ∃ b, d = { target := .collected b, args := #[] } ∧ M b ∧ ¬ M1 b ∧ h1.arr[b]? = some (.deferred (some []))
def DefR (g : Gam) (T : Tie) (S : Heap) (M M1 : Nat → Prop) (h1 : Base) (ds : List Deferred) : Prop := if T.dfr = true then drel g S.cx.2 ds else Mrk T.marks M M1 h1 ds

/-- The abstract state and the real one. -/
def StR (n : Nat) (M : Nat → Prop) (h0 : Base) (T : Tie) (g0 : Gam) (st : St) (a : Act) (w : World) : Prop :=
  ∃ M1 h1 g be, Bel M h0 T st.S.cx.1 M1 h1 ∧ g0.le g ∧ erel g be st.env a.tmps ∧ (DefR g T st.S M M1 h1 a.defers ∧ a.tmps.size = n) ∧
    ((T.tie = none → st.S.cx.1 = T.cx.1) ∧ (T.dfr = false → st.S.cx.2 = T.cx.2)) ∧ RW M1 h1 g be st.bx st.S w

/-- What the function that a loop hands over comes to is kept by the model. -/
def YOk (F : Fence) (P : Program) (C : CallF) (M : Nat → Prop) (h0 : Base) (T : Tie) (g0 : Gam) : Prop :=
  ∀ (way : Nat) (args : List AV) (S : Heap) (r : AV × Heap), C yldId way args S = some r →
    ∃ l lp, T.tie = some (l, lp) ∧ g0.yl way = some l ∧ ∀ (M1 : Nat → Prop) (h1 : Base) (g : Gam) (be : Nat → Option Nat) (bx : Bx) (w : World) (args' : List Value) (k : Nat),
      Bel M h0 T S.cx.1 M1 h1 → g0.le g → RW M1 h1 g be bx S w → lrel g args args' →
      ∃ tmps, (Instr.yield l args'.toArray).run P w = .ok (.round l lp.fn tmps lp.assign lp.body) w ∧
        RoundIn F k P l lp.fn tmps lp.assign lp.body w fun e w' => ∃ v' g' h1', e = .returned v' ∧ g.le g' ∧ vrel g' r.1 v' ∧ Bel M h0 T r.2.cx.1 M1 h1' ∧
          (∀ b, b ≠ l → h1'.arr[b]? = h1.arr[b]?) ∧ RW M1 h1' g' be bx r.2 w' ∧ r.2.cx.2 = S.cx.2
/-- What 'defer' statements come to. -/
def DOk (F : Fence) (C : CallF) (T : Tie) : Prop :=
  ∀ (f : Nat) (as : List AV) (S : Heap) (r : AV × Heap), C dfrId f as S = some r → T.dfr = true ∧ F.round = none ∧ r.2 = { S with cx := (S.cx.1, (f, as) :: S.cx.2) }

-- what an operation does beside the blocks: nothing
theorem fzM_cx {d : Nat} (ih : ∀ a S a' S', fz d a S = some (a', S') → S'.cx = S.cx) : ∀ {l l' : List AV} {S S' : Heap}, fzM (fz d) l S = some (l', S') → S'.cx = S.cx
  | [], _, _, _, h => by unfold fzM at h; cases h; rfl
  | a :: l, l', S, S', h => by
    unfold fzM at h
    split at h
    · rename_i a' S1 ha
      split at h
      · rename_i l'' S2 hl
        cases h
        exact (fzM_cx ih hl).trans (ih _ _ _ _ ha)
      · cases h
    · cases h
theorem fz_cx : ∀ (d : Nat) (a : AV) (S : Heap) (a' : AV) (S' : Heap), fz d a S = some (a', S') → S'.cx = S.cx
  | 0, _, _, _, _, h => by unfold fz at h; cases h
  | d + 1, a, S, a', S', h => by
    have ih := fz_cx d
    unfold fz at h
    split at h
    · split at h
      · split at h
        · split at h
          · rename_i hf; cases h; exact (fzM_cx ih hf).trans rfl
          · cases h
        · cases h
      · cases h
    · split at h
      · rename_i hf; cases h; exact fzM_cx ih hf
      · cases h
    · split at h
      · rename_i hf; cases h; exact fzM_cx ih hf
      · cases h
    · cases h; rfl

section
variable {P : Program} {G : Nat → Option (List AV)} {C : CallF} {n : Nat} {M : Nat → Prop} {h0 : Base} {T : Tie} {g0 g : Gam} {be : Nat → Option Nat} {bx : Bx} {S : Heap} {w : World} {env : List Ent} {act : Act}
variable {β : Type} {r : β}

theorem newVar_cx {hp : Bool} {dst : Option Nat} {cs : List AV} {K : Out → Option β} (h : newVarK hp dst cs bx S K = some r) : ∃ out, K out = some r ∧ out.S.cx = S.cx := by
  unfold newVarK at h
  split at h
  · exact ⟨_, h, rfl⟩
  · split at h
    · split at h
      · exact ⟨_, h, rfl⟩
      · cases h
    · cases h
theorem newRow_cx {fz : Bool} {len es : Nat} {cs : List AV} : (newRowA fz len es cs bx S).S.cx = S.cx := by unfold newRowA; split <;> rfl
theorem conv_cx {fz : Bool} {s d : TypeId} {x : AV} {K : Out → Option β} (h : convK P fz s d x bx S K = some r) : ∃ out, K out = some r ∧ out.S.cx = S.cx := by
  unfold convK at h
  split at h
  · simp only [asInt_some] at h; obtain ⟨n, _, h⟩ := h; exact ⟨_, h, rfl⟩
  · simp only [asStr_some] at h; obtain ⟨n, _, h⟩ := h; exact ⟨_, h, rfl⟩
  · split at h
    · simp only [bO_some] at h; obtain ⟨n, _, h⟩ := h; exact ⟨_, h, rfl⟩
    · cases h
  · split at h
    · simp only [asStr_some, gB_some] at h; obtain ⟨n, _, _, h⟩ := h; exact ⟨_, h, newRow_cx⟩
    · cases h
  · cases h
theorem appendN_cx {es by' n : Nat} {s : AV} {new : List AV} {q : AV × Heap} (h : aAppendN es by' s n new S = some q) : q.2.cx = S.cx := by
  unfold aAppendN at h
  split at h
  · split at h <;> cases h <;> rfl
  · split at h
    · split at h <;> cases h; rfl
    · split at h
      · split at h <;> cases h; rfl
      · cases h
    · cases h
theorem append_cx {es by' : Nat} {s x : AV} {q : AV × Heap} (h : aAppend es by' s x S = some q) : q.2.cx = S.cx := by
  unfold aAppend at h
  split at h
  · exact appendN_cx h
  · cases h
theorem appendZ_cx {es by' : Nat} {zs : List AV} {s x : AV} {q : AV × Heap} (h : aAppendZ es by' zs s x S = some q) : q.2.cx = S.cx := by
  unfold aAppendZ at h
  split at h
  · split at h
    · exact appendN_cx h
    · cases h
  · cases h
theorem copy_cx {es : Nat} {s x : AV} {q : AV × Heap} (h : aCopy es s x S = some q) : q.2.cx = S.cx := by
  unfold aCopy at h
  split at h
  · split at h
    · split at h <;> cases h; rfl
    · cases h
  · cases h; rfl
  · cases h
theorem load_cx {t : TypeId} {p : Ent} {K : Out → Option β} (h : loadK P t p bx S K = some r) : ∃ out, K out = some r ∧ out.S.cx = S.cx := by
  unfold loadK at h
  split at h
  · split at h
    · simp only [bO_some] at h
      obtain ⟨cs, _, h⟩ := h
      obtain ⟨a, h, _⟩ := rdK_det h
      exact ⟨_, h, rfl⟩
    · simp only [bO_some] at h
      obtain ⟨cs, _, h⟩ := h
      obtain ⟨a, h, _⟩ := rdK_det h
      exact ⟨_, h, rfl⟩
  · cases h
theorem store_cx {t : TypeId} {p : Ent} {x : AV} {K : Out → Option β} (h : storeK P t p x bx S K = some r) : ∃ out, K out = some r ∧ out.S.cx = S.cx := by
  unfold storeK at h
  split at h
  · obtain ⟨cs, h, _⟩ := cellsK_det h
    simp only [gB_some] at h
    obtain ⟨_, h⟩ := h
    split at h
    · simp only [bO_some, gB_some] at h
      obtain ⟨_, _, _, h⟩ := h
      exact ⟨_, h, rfl⟩
    · simp only [bO_some] at h
      obtain ⟨S', hp, h⟩ := h
      refine ⟨_, h, ?_⟩
      unfold putV at hp
      split at hp
      · split at hp
        · split at hp <;> cases hp; rfl
        · cases hp
      · cases hp
  · cases h

theorem aop_cx {an : OAn} {o : Oper} {K : Out → Option β} (hnc : ∀ c f, o.op = .call c → c.callee ≠ .value f) (hnd : ∀ c, o.op ≠ .defer c) (h : aopK P G C an o env bx S K = some r) :
    ∃ out, K out = some r ∧ out.S.cx = S.cx := by
  unfold aopK at h
  split at h <;> rename_i hop
  case h_1 x => exact ⟨_, h, rfl⟩
  case h_2 x => exact ⟨_, h, rfl⟩
  case h_3 c a b =>
    simp only [bO_some, asBool_some] at h
    obtain ⟨x, hx, t, rfl, h⟩ := h
    cases t <;> exact ⟨_, h, rfl⟩
  case h_4 t =>
    simp only [bO_some] at h
    obtain ⟨cs, hz, h⟩ := h
    exact newVar_cx h
  case h_5 t x =>
    simp only [bO_some] at h
    obtain ⟨a, hx, ag, hag, n, hn, h⟩ := h
    obtain ⟨cs, h, hd⟩ := cellsK_det h
    exact newVar_cx h
  case h_6 t ps =>
    simp only [bO_some] at h
    obtain ⟨zs, hz, l, hl, pl, hpl, h⟩ := h
    obtain ⟨cs, hk, hd⟩ := fillK_det h
    exact ⟨_, hk, rfl⟩
  case h_7 t len ps =>
    simp only [bO_some, gB_some] at h
    obtain ⟨e, hel, n, hn, ag, hag, zs, hz, l, hl, hg, h⟩ := h
    obtain ⟨cs, h, hd⟩ := fillK_det h
    exact ⟨_, h, newRow_cx⟩
  case h_8 t a => exact load_cx h
  case h_9 t a x =>
    simp only [bO_some] at h
    obtain ⟨v, hv, h⟩ := h
    exact store_cx h
  case h_10 x =>
    split at h
    · exact ⟨_, h, rfl⟩
    · simp only [bO_some] at h
      obtain ⟨p, hp, hk⟩ := h
      exact ⟨_, hk, rfl⟩
  case h_11 op t x y t2 =>
    simp only [bO_some] at h
    obtain ⟨a, ha, b, hb, z, hz, hk⟩ := h
    exact ⟨_, hk, rfl⟩
  case h_12 op t x =>
    simp only [bO_some] at h
    obtain ⟨a, ha, z, hz, hk⟩ := h
    exact ⟨_, hk, rfl⟩
  case h_13 s d x =>
    simp only [bO_some] at h
    obtain ⟨a, ha, h⟩ := h
    exact conv_cx h
  case h_14 f first cap =>
    simp only [bO_some] at h
    obtain ⟨a, ha, b, hb, hk⟩ := h
    exact ⟨_, hk, rfl⟩
  case h_15 t l c =>
    simp only [bO_some, asInt_some, gB_some] at h
    obtain ⟨e, hel, i, hi, zs, hz, x, hx, y, hy, n, rfl, m, rfl, hg, h⟩ := h
    exact ⟨_, h, newRow_cx⟩
  case h_16 t x lo hi =>
    simp only [bO_some] at h
    obtain ⟨l, hl, hv, hhv, a, ha, h⟩ := h
    split at h
    · simp only [bO_some] at h
      obtain ⟨k, hk', z, hz, hk⟩ := h
      exact ⟨_, hk, rfl⟩
    · simp only [bO_some] at h
      obtain ⟨z, hz, hk⟩ := h
      exact ⟨_, hk, rfl⟩
  case h_17 s x f =>
    split at h
    · simp only [bO_some, gB_some] at h
      obtain ⟨fd, hf, n, hn, hg, h⟩ := h
      obtain ⟨p, hk, hd⟩ := addP_det h
      exact ⟨_, hk, rfl⟩
    · cases h
  case h_18 t x f =>
    simp only [bO_some] at h
    obtain ⟨a, ha, h⟩ := h
    obtain ⟨p, hk, hd⟩ := fieldK_det h
    exact ⟨_, hk, rfl⟩
  case h_19 t x i =>
    simp only [bO_some] at h
    obtain ⟨a, ha, h⟩ := h
    obtain ⟨p, hk, hd⟩ := indexAddrK_det h
    exact ⟨_, hk, rfl⟩
  case h_20 t x i =>
    simp only [bO_some] at h
    obtain ⟨a, ha, b, hb, h⟩ := h
    obtain ⟨p, hk, hd⟩ := indexK_det h
    exact ⟨_, hk, rfl⟩
  case h_21 t i =>
    simp only [bO_some, asTup_some] at h
    obtain ⟨a, ha, vs, rfl, z, hz, hk⟩ := h
    exact ⟨_, hk, rfl⟩
  case h_22 c =>
    split at h <;> rename_i hcal
    · simp only [bO_some, asCons_some] at h
      obtain ⟨l, hl, a, l', rfl, t, ht, z, hz, hk⟩ := h
      exact ⟨_, hk, rfl⟩
    · simp only [bO_some, asCons_some, gB_some] at h
      obtain ⟨l, hl, s, l', rfl, x, l'', rfl, t, ht, e, hel, i, hi, u, hu, zs, hz, hzl, q, hap, hk⟩ := h
      refine ⟨_, hk, ?_⟩
      split at hap
      · exact append_cx hap
      · exact append_cx hap
      · exact appendZ_cx hap
      · cases hap
    · simp only [bO_some, asCons_some] at h
      obtain ⟨l, hl, s, l', rfl, x, l'', rfl, t, ht, e, hel, n, hn, q, hcp, hk⟩ := h
      exact ⟨_, hk, copy_cx hcp⟩
    · simp only [bO_some, asCons_some] at h
      obtain ⟨l, hl, s, l', rfl, a, ha, hk⟩ := h
      exact ⟨_, hk, rfl⟩
    · simp only [bO_some, asCons_some] at h
      obtain ⟨l, hl, s, l', rfl, a, ha, hk⟩ := h
      exact ⟨_, hk, rfl⟩
    · rename_i f; exact absurd hcal (hnc c f hop)
    · cases h
  case h_23 c => exact absurd hop (hnd c)
  case h_24 => cases h

def Stp (P : Program) (G : Nat → Option (List AV)) (C : CallF) (an : OAn) (o : Oper) (env : List Ent) (bx : Bx) (S : Heap) (out : Out) : Prop :=
  FrameP (fun _ bx S K => aopK P G C an o env bx S K) bx S out

theorem FrameP.self {F : (β : Type) → Bx → Heap → (Out → Option β) → Option β} {out : Out} (h : FrameP F bx S out) {β : Type} (K : Out → Option β) : F β bx S K = K out := by
  obtain ⟨e, bx', S', ev⟩ := out
  unfold FrameP at h
  cases ev with
  | none => obtain ⟨rfl, rfl, h⟩ := h; exact h bx' S' β K
  | ld a => obtain ⟨rfl, rfl, h⟩ := h; exact h bx' S' β K rfl
  | lb a => obtain ⟨rfl, rfl, h⟩ := h; exact h bx' S' β K rfl
  | bld a => obtain ⟨rfl, rfl, h⟩ := h; exact h bx' S' β K rfl
  | bst s => obtain ⟨rfl, c, rfl, h⟩ := h; exact h bx S' β K rfl
  | bal s => obtain ⟨rfl, c, rfl, h⟩ := h; exact h bx S' β K rfl
  | ef => obtain ⟨rfl, h⟩ := h; exact h bx' β K

theorem put_size' (a : Act) (d : Option Tmp) (v : Value) : (a.put d v).tmps.size = a.tmps.size := by cases d <;> simp [Act.put]
theorem put_tmps_def (a : Act) (ds : List Deferred) (d : Option Tmp) (v : Value) : (({ a with defers := ds } : Act).put d v).tmps = (a.put d v).tmps := by cases d <;> rfl
theorem put_defers' (a : Act) (d : Option Tmp) (v : Value) : (a.put d v).defers = a.defers := by cases d <;> rfl

theorem DefR.mono {h : Gam} {S' : Heap} {M1 : Nat → Prop} {h1 h1' : Base} {ds : List Deferred} (d : DefR g T S M M1 h1 ds) (le : g.le h) (hcx : S'.cx.2 = S.cx.2)
    (harr : ∀ b : Nat, h1.arr[b]? = some (Obj.deferred (some [])) → h1'.arr[b]? = some (Obj.deferred (some []))) : DefR h T S' M M1 h1' ds := by
  unfold DefR at *
  split
  · rename_i hd
    rw [if_pos hd] at d
    rw [hcx]; exact drel_mono le d
  · rename_i hd
    rw [if_neg hd] at d
    exact ⟨d.nd, d.ok, fun x hx => let ⟨b, e1, e0, e2, e3⟩ := d.all x hx; ⟨b, e1, e0, e2, harr b e3⟩⟩

/-- A fence that lets everything in: that of a function's own code, or of a round. -/
def Open (F : Fence) : Prop := F = { Fence.wide with round := F.round }
theorem Open.fn {F : Fence} (h : Open F) (f : Nat) : F.fn f := by rw [h]; trivial
theorem Open.depth {F : Fence} (h : Open F) : F.depth = none := by rw [h]; rfl
theorem Open.room {F : Fence} (h : Open F) (k : Nat) : F.room k := by intro d hd; rw [h.depth] at hd; cases hd
theorem Open.calls {F : Fence} (h : Open F) {n : Nat} {P : Program} {f : Nat} {args : Array Value} {w : World} {R : Ending → World → Prop} (hc : Calls P f args w R) : CallsIn F n P f args w R := by
  have h1 : CallsIn { Fence.wide with round := F.round } n P f args w R := callsIn_wide.2 hc
  rw [h]; exact h1

theorem exec_yield {vs : Array Value} (P : Program) (w : World) {o : Oper} {c : Call} {f : Operand} {ev : Operand → Value} {l : Nat} (hop : o.op = .call c) (hcal : c.callee = .value f) (hf : ev f = .func (.yield l) #[] #[]) (hv : c.args.map ev = vs) :
    (execOp ev o).run P w = (Instr.yield l vs).run P w := by
  subst hv
  simp [execOp, hop, resolve, hcal, hf, Deferred.ofValue, invoke]

theorem step_op {F : Fence} {k : Nat} (hF : Open F) (hG : GOk G g0) (hC : CallOk P G C) (hY : YOk F P C M h0 T g0) (hD : DOk F C T) {an : OAn} {o : Oper} {out : Out} (R : StR n M h0 T g0 ⟨env, bx, S⟩ act w) (h : Stp P G C an o env bx S out)
    {next : Act → World → Prop} {Q : Exit → Act → World → Prop} (hn : ∀ a' w', StR n M h0 T g0 ⟨putE env o.dst out.e, out.bx, out.S⟩ a' w' → next a' w') : o.wpIn F k P act w next Q := by
  obtain ⟨M1, h1, g, be, B, le, he, hd, hcx, RR⟩ := R
  have hd1 : DefR g T S M M1 h1 act.defers := hd.1
  have hk : aopK P G C an o env bx S some = some out := h.self some
  have hG' := hG.mono le
  have hdep : F.depth.isSome = true → 1 ≤ k := by rw [hF.depth]; intro h; cases h
  refine ⟨fun f _ => hF.fn f, ?_⟩
  by_cases hdfr : ∃ c, o.op = .defer c
  · obtain ⟨c, hop⟩ := hdfr
    unfold aopK at hk
    simp only [hop] at hk
    split at hk
    · rename_i f hcal
      simp only [bO_some] at hk
      obtain ⟨args, hargs, a, ha, hk⟩ := hk
      split at hk
      · rename_i fid first cap
        simp only [bO_some] at hk
        obtain ⟨q, hq, hk⟩ := hk
        cases hk
        obtain ⟨hdf, hro, hq2⟩ := hD _ _ _ _ hq
        have hfv := opv_rel hG' he ha
        simp only [vrel] at hfv
        obtain ⟨fs, cp, hfv, hfs, hcp⟩ := hfv
        have har := opvs_rel hG' he hargs
        have hrun : (o.semAt F.round act.eval).run P w = .ok (.defer { target := .fn (.func fid) cp.toArray, args := (fs ++ c.args.toList.map act.eval).toArray }) w := by
          have hargs' : fs.toArray ++ c.args.map act.eval = (fs ++ c.args.toList.map act.eval).toArray := by apply Array.ext'; simp
          rw [hro, Oper.semAt_none]
          simp [execOp, hop, resolve, hcal, hfv, Deferred.ofValue, hargs']
        rw [hrun, Oper.uponIn_defer]
        refine hn _ _ ⟨M1, h1, g, be, by rw [hq2]; exact B, le, by rw [put_tmps_def]; exact erel_put (e := .v (.tup [])) he (by simp only [entrel, vrel]; exact ⟨[], rfl, by simp [lrel]⟩) o.dst,
          ⟨?_, by rw [put_size']; exact hd.2⟩, ⟨fun h => by rw [hq2]; exact hcx.1 h, fun h => by rw [hdf] at h; cases h⟩, ?_⟩
        · rw [put_defers', hq2]
          unfold DefR
          rw [if_pos hdf]
          have h1 := hd.1
          unfold DefR at h1
          rw [if_pos hdf] at h1
          exact ⟨_, _, rfl, ⟨cp, fs ++ c.args.toList.map act.eval, rfl, lrel_append (lrel_append hfs har) hcp⟩, h1⟩
        · rw [hq2]; exact { RR with }
      · cases hk
    · cases hk
  have hnd : ∀ c, o.op ≠ .defer c := fun c h => hdfr ⟨c, h⟩
  rw [Oper.semAt_eq _ _ _ hnd]
  by_cases hcall : ∃ c f, o.op = .call c ∧ c.callee = .value f
  · obtain ⟨c, f, hop, hcal⟩ := hcall
    unfold aopK at hk
    simp only [hop, hcal, bO_some] at hk
    obtain ⟨args, hargs, a, ha, hk⟩ := hk
    unfold callK at hk
    split at hk
    · rename_i fid first cap
      split at hk
      · cases hk
      rename_i hlt
      simp only [bO_some] at hk
      obtain ⟨⟨rv, S1⟩, hq, hk⟩ := hk
      have hfv := opv_rel hG' he ha
      simp only [vrel] at hfv
      obtain ⟨fs, cp, hfv, hfs, hcp⟩ := hfv
      have har := opvs_rel hG' he hargs
      obtain ⟨⟨fn, hfn, hname, hbody⟩, hcalls⟩ := hC _ _ _ _ _ (by omega) hq
      have hcs := hcalls M1 h1 g be bx w (fs ++ c.args.toList.map act.eval ++ cp) B.top hG' RR (lrel_append (lrel_append hfs har) hcp)
      have hrun : (execOp act.eval o).run P w = .ok (.enter fid (fs ++ c.args.toList.map act.eval ++ cp).toArray) w := by
        have hargs' : fs.toArray ++ c.args.map act.eval ++ cp.toArray = (fs ++ c.args.toList.map act.eval ++ cp).toArray := by
          apply Array.ext'; simp
        simp [execOp, hop, resolve, hcal, hfv, Deferred.ofValue, invoke, callFunc, hfn, hname, hbody, hargs']
      rw [hrun, Oper.uponIn_enter]
      refine ⟨hdep, ?_⟩
      refine CallsIn.mono (hF.calls hcs) fun e w' he' => ?_
      obtain ⟨v', g', rfl, le', hv', R', hcx'⟩ := he'
      simp only
      have fin : ∀ (q : AV × Heap) g'', g'.le g'' → vrel g'' q.1 v' → RW M1 h1 g'' be bx q.2 w' → q.2.cx = S.cx → out = ⟨.v q.1, bx, q.2, .ef⟩ → next (act.put o.dst v') w' := by
        intro q g'' l2 hv2 R2 hq ho
        subst ho
        exact hn _ _ ⟨M1, h1, g'', be, by simp only [hq]; exact B, (le.trans le').trans l2, erel_put (e := .v q.1) (erel_mono (le'.trans l2) (fun _ _ h => h) he) hv2 o.dst,
          by rw [put_defers', put_size']; exact ⟨DefR.mono hd1 (le'.trans l2) (by simp only [hq]) fun _ h => h, hd.2⟩, by simp only [hq]; exact hcx, R2⟩
      split at hk
      · simp only [bO_some] at hk
        obtain ⟨⟨qv, qS⟩, hq2, hk⟩ := hk
        cases hk
        obtain ⟨g'', l2, hv2, R2⟩ := fz_rel 40 _ _ _ _ _ _ R' hv' hq2
        exact fin (qv, qS) g'' l2 hv2 R2 ((fz_cx _ _ _ _ _ hq2).trans hcx') rfl
      · cases hk
        exact fin (rv, S1) g' (.refl _) hv' R' hcx' rfl
    · simp only [bO_some] at hk
      obtain ⟨q, hq, hk⟩ := hk
      cases hk
      obtain ⟨l, lp, ht, hl, hy⟩ := hY _ _ _ _ hq
      have hfv := opv_rel hG' he ha
      simp only [vrel] at hfv
      obtain ⟨l', hl', hfv⟩ := hfv
      rw [le.yl _ _ hl] at hl'
      cases hl'
      have har := opvs_rel hG' he hargs
      obtain ⟨tmps, hrun, hround⟩ := hy M1 h1 g be bx w (c.args.toList.map act.eval) (k - 1) B le RR har
      rw [exec_yield P w hop hcal hfv (vs := (c.args.toList.map act.eval).toArray) (by apply Array.ext'; simp), hrun, Oper.uponIn_round]
      refine ⟨hdep, RoundIn.mono hround fun e w' he' => ?_⟩
      obtain ⟨v', g', h1', rfl, le', hv', B', harr, R', hcx'⟩ := he'
      refine hn _ _ ⟨M1, h1', g', be, B', le.trans le', erel_put (e := .v q.1) (erel_mono le' (fun _ _ h => h) he) hv' o.dst,
        ⟨?_, by rw [put_size']; exact hd.2⟩, ⟨fun h => (by rw [ht] at h; cases h), fun h => by simp only [hcx']; exact hcx.2 h⟩, R'⟩
      rw [put_defers']
      refine DefR.mono hd1 le' hcx' fun b hb => ?_
      rw [harr b fun hbl => ?_]
      · exact hb
      · subst hbl
        rw [(B.tie _ _ ht).2] at hb
        simp [recOf] at hb
    · cases hk
  · obtain ⟨out', ho, v', w', g', be', hrun, l1, l2, hv, R'⟩ := aop_rel B.top hG' RR he (fun c f h1 h2 => hcall ⟨c, f, h1, h2⟩) hnd hk
    cases ho
    obtain ⟨out', ho, hc'⟩ := aop_cx (fun c f h1 h2 => hcall ⟨c, f, h1, h2⟩) hnd hk
    cases ho
    have hst : StR n M h0 T g0 ⟨putE env o.dst out.e, out.bx, out.S⟩ (act.put o.dst v') w' :=
      ⟨M1, h1, g', be', by simp only [hc']; exact B, le.trans l1, erel_put (erel_mono l1 l2 he) hv o.dst,
        by rw [put_defers', put_size']; exact ⟨DefR.mono hd1 l1 (by simp only [hc']) fun _ h => h, hd.2⟩, by simp only [hc']; exact hcx, R'⟩
    rcases hrun with hrun | ⟨hrun, rfl⟩
    · rw [hrun, Oper.uponIn_value]; exact hn _ _ hst
    · rw [hrun, Oper.uponIn_skip]; exact hn _ _ hst
theorem want_wanted {ops : Array Oper} {o : Oper} {wt : Bool} (he : erel g be env act.tmps) (h : want ops.toList o env = some wt) : Region.wanted o (yielded ops act.tmps) = wt := by
  unfold want at h
  unfold Region.wanted
  split at h
  · rename_i hg; cases h; simp only [hg]
  · rename_i j w hg
    simp only [hg]
    split at h
    · rename_i d hd
      unfold yielded
      rw [Array.getElem?_toList] at hd
      rw [hd]
      have hent : ∀ e, env.getD d (.v .bot) = e → e ≠ .v .bot → entrel g be e (act.tmps.getD d undef) ∧ act.tmps[d]? = some (act.tmps.getD d undef) := by
        intro e hh hne
        rw [List.getD_eq_getElem?_getD] at hh
        cases hx : env[d]? with
        | none => rw [hx] at hh; simp at hh; exact absurd hh.symm hne
        | some x =>
          rw [hx] at hh; simp at hh; subst hh
          have hlt := (List.getElem?_eq_some_iff.1 hx).1
          rw [he.1] at hlt
          exact ⟨he.2 d x hx, by simp [hlt]⟩
      split at h
      · rename_i b hb
        cases h
        obtain ⟨h1, h2⟩ := hent _ hb (by simp)
        simp only [entrel, vrel] at h1
        simp only [Option.bind_some, h2, h1]
        cases b <;> cases w <;> rfl
      · rename_i hb
        cases h
        obtain ⟨h1, h2⟩ := hent _ hb (by simp)
        simp only [entrel, vrel, lrel] at h1
        obtain ⟨vs, h1, rfl⟩ := h1
        simp only [Option.bind_some, h2, h1]
        rfl
      · cases h
    · cases h

theorem step_skipped (R : StR n M h0 T g0 ⟨env, bx, S⟩ act w) (d : Option Tmp) : StR n M h0 T g0 ⟨putE env d (.v (.tup [])), bx, S⟩ (act.put d undef) w := by
  obtain ⟨M1, h1, g, be, B, le, he, hd, hcx, RR⟩ := R
  exact ⟨M1, h1, g, be, B, le, erel_put he (by simp only [entrel, vrel]; exact ⟨[], rfl, by simp [lrel]⟩) d, by rw [put_defers', put_size']; exact hd, hcx, RR⟩

/-- A region in the order of the text. -/
theorem evS_sound {F : Fence} {k : Nat} (hF : Open F) (hG : GOk G g0) (hC : CallOk P G C) (hY : YOk F P C M h0 T g0) (hD : DOk F C T) {ops : Array Oper} {ans : List (Nat × OAn)} {Q : Exit → Act → World → Prop} : ∀ (l : List Oper) (i : Nat) (K : St → Option β) (st : St) (a : Act) (w : World),
    l = ops.toList.drop i → evS P G C ops.toList ans i l K st = some r → StR n M h0 T g0 st a w → (∀ st' a' w', K st' = some r → StR n M h0 T g0 st' a' w' → Q .normal a' w') → wpOpsIn F k P ops Q (List.range' i l.length) a w
  | [], i, K, st, a, w, hl, h, R, hq => by
    simp only [evS] at h
    simp only [List.length_nil, List.range'_zero, wpOpsIn]
    exact hq _ _ _ h R
  | o :: l, i, K, ⟨env, bx, S⟩, a, w, hl, h, R, hq => by
    have ho : ops[i]? = some o := by
      have : (ops.toList.drop i)[0]? = some o := by rw [← hl]; rfl
      rw [List.getElem?_drop] at this
      simpa using this
    have hl' : l = ops.toList.drop (i + 1) := by
      have := congrArg List.tail hl
      simpa [List.tail_drop] using this
    simp only [evS] at h
    obtain ⟨wt, hw, h⟩ := guardK_some h
    have hwt : Region.wanted o (yielded ops a.tmps) = wt := by obtain ⟨_, _, g, be, _, _, he, _⟩ := R; exact want_wanted he hw
    simp only [List.length_cons, List.range'_succ, wpOpsIn, ho, hwt]
    cases wt with
    | true =>
      simp only [if_true] at h ⊢
      obtain ⟨out, h, hf⟩ := aop_frame h
      have h := normE_some h
      exact step_op hF hG hC hY hD R hf fun a' w' R' => evS_sound hF hG hC hY hD l (i + 1) K _ a' w' hl' h R' hq
    | false =>
      simp only [Bool.false_eq_true, if_false] at h ⊢
      exact ⟨fun f _ => hF.fn f, evS_sound hF hG hC hY hD l (i + 1) K _ _ w hl' h (step_skipped R o.dst) hq⟩
end
end Go.Ab

/- A region that draws its order: whatever order is drawn, it comes to what the order of the text comes to. -/
namespace Go.Ab

def Cmp (a b : Hist) : Prop := ∃ ps, compat a b = some ps ∧ ∀ p ∈ ps, p.ok
/-- The same to 'compat'. -/
def HEq' (a b : Hist) : Prop := a.i = b.i ∧ a.ev = b.ev ∧ (a.ev = .ef → a.S = b.S ∧ a.S' = b.S')

theorem Cmp.symm {a b : Hist} (h : Cmp a b) : Cmp b a := by
  obtain ⟨i, ea, S, S'⟩ := a
  obtain ⟨j, eb, T, T'⟩ := b
  obtain ⟨ps, h, hp⟩ := h
  refine ⟨ps, ?_, hp⟩
  rw [← h]
  cases ea <;> cases eb <;> simp only [compat] <;> (first | rfl | (split <;> split <;> first | rfl | (rename_i h1 h2; exact absurd h1.symm h2) | (rename_i h1 h2; exact absurd h2.symm h1)))
theorem Cmp.congr {a b a' b' : Hist} (h : Cmp a b) (ha : HEq' a a') (hb : HEq' b b') : Cmp a' b' := by
  obtain ⟨i, ea, S, S'⟩ := a
  obtain ⟨j, eb, T, T'⟩ := b
  obtain ⟨i', ea', A, A'⟩ := a'
  obtain ⟨j', eb', B, B'⟩ := b'
  obtain ⟨h1, h2, h3⟩ := ha
  obtain ⟨k1, k2, k3⟩ := hb
  simp only at h1 h2 h3 k1 k2 k3
  subst h2 k2
  obtain ⟨ps, h, hp⟩ := h
  refine ⟨ps, ?_, hp⟩
  rw [← h]
  cases ea <;> cases eb <;> simp only [compat] <;> simp only [forall_const, reduceCtorEq, false_imp_iff] at h3 k3 <;> first | rfl | (obtain ⟨rfl, rfl⟩ := h3; rfl) | (obtain ⟨rfl, rfl⟩ := k3; rfl)

def Look : Ev → Bx → Heap → Bx → Heap → Prop
  | .none, _, _, _, _ => True
  | .ld a, _, S, _, S2 => seeV a S2 = seeV a S
  | .lb a, _, S, _, S2 => aB2S a S2 = aB2S a S
  | .bld s, bx, _, bx2, _ => bx2.getD s none = bx.getD s none
  | .bst s, bx, _, bx2, _ => bx2.getD s none = bx.getD s none
  | .bal s, bx, _, bx2, _ => bx2[s]? = bx[s]?
  | .ef, _, S, _, S2 => S2 = S
/-- How an operation leaves memory, at one state and at another. -/
def Chg : Ev → Bx → Heap → Bx → Heap → Bx → Heap → Bx → Heap → Prop
  | .bst s, bx, S, bx', S', b2, S2, b2', S2' => S' = S ∧ S2' = S2 ∧ ∃ c, bx' = bx.set s c ∧ b2' = b2.set s c
  | .bal s, bx, S, bx', S', b2, S2, b2', S2' => S' = S ∧ S2' = S2 ∧ ∃ c, bx' = bx.set s c ∧ b2' = b2.set s c
  | .ef, bx, _, bx', S', b2, _, b2', S2' => bx' = bx ∧ b2' = b2 ∧ S2' = S'
  | _, bx, S, bx', S', b2, S2, b2', S2' => bx' = bx ∧ S' = S ∧ b2' = b2 ∧ S2' = S2

section
variable {F : (β : Type) → Bx → Heap → (Out → Option β) → Option β} {bx b2 : Bx} {S S2 : Heap} {out : Out}

theorem getD_of_get {bx b2 : Bx} {s : Nat} (h : b2[s]? = bx[s]?) : b2.getD s none = bx.getD s none := by simp [List.getD_eq_getElem?_getD, h]

theorem frame_move (h : FrameP F bx S out) (hl : Look out.ev bx S b2 S2) : ∃ out2, FrameP F b2 S2 out2 ∧ out2.e = out.e ∧ out2.ev = out.ev ∧ Chg out.ev bx S out.bx out.S b2 S2 out2.bx out2.S := by
  obtain ⟨e, bx', S', ev⟩ := out
  unfold FrameP at h
  cases ev with
  | none =>
    obtain ⟨rfl, rfl, h⟩ := h
    exact ⟨⟨e, b2, S2, .none⟩, ⟨rfl, rfl, h⟩, rfl, rfl, rfl, rfl, rfl, rfl⟩
  | ld a =>
    obtain ⟨rfl, rfl, h⟩ := h
    exact ⟨⟨e, b2, S2, .ld a⟩, ⟨rfl, rfl, fun bx3 S3 β K2 h3 => h bx3 S3 β K2 (h3.trans hl)⟩, rfl, rfl, rfl, rfl, rfl, rfl⟩
  | lb a =>
    obtain ⟨rfl, rfl, h⟩ := h
    exact ⟨⟨e, b2, S2, .lb a⟩, ⟨rfl, rfl, fun bx3 S3 β K2 h3 => h bx3 S3 β K2 (h3.trans hl)⟩, rfl, rfl, rfl, rfl, rfl, rfl⟩
  | bld a =>
    obtain ⟨rfl, rfl, h⟩ := h
    exact ⟨⟨e, b2, S2, .bld a⟩, ⟨rfl, rfl, fun bx3 S3 β K2 h3 => h bx3 S3 β K2 (h3.trans hl)⟩, rfl, rfl, rfl, rfl, rfl, rfl⟩
  | bst s =>
    obtain ⟨rfl, c, rfl, h⟩ := h
    exact ⟨⟨e, b2.set s c, S2, .bst s⟩, ⟨rfl, c, rfl, fun bx3 S3 β K2 h3 => h bx3 S3 β K2 (h3.trans hl)⟩, rfl, rfl, rfl, rfl, c, rfl, rfl⟩
  | bal s =>
    obtain ⟨rfl, c, rfl, h⟩ := h
    exact ⟨⟨e, b2.set s c, S2, .bal s⟩, ⟨rfl, c, rfl, fun bx3 S3 β K2 h3 => h bx3 S3 β K2 (h3.trans hl)⟩, rfl, rfl, rfl, rfl, c, rfl, rfl⟩
  | ef =>
    obtain ⟨rfl, h⟩ := h
    simp only [Look] at hl
    subst hl
    exact ⟨⟨e, b2, S', .ef⟩, ⟨rfl, h⟩, rfl, rfl, rfl, rfl, rfl⟩

theorem frame_chg (h : FrameP F bx S out) : Chg out.ev bx S out.bx out.S bx S out.bx out.S := by
  obtain ⟨e, bx', S', ev⟩ := out
  unfold FrameP at h
  cases ev with
  | none => exact ⟨h.1, h.2.1, h.1, h.2.1⟩
  | ld a => exact ⟨h.1, h.2.1, h.1, h.2.1⟩
  | lb a => exact ⟨h.1, h.2.1, h.1, h.2.1⟩
  | bld a => exact ⟨h.1, h.2.1, h.1, h.2.1⟩
  | bst s => obtain ⟨h1, c, h2, _⟩ := h; exact ⟨h1, h1, c, h2, h2⟩
  | bal s => obtain ⟨h1, c, h2, _⟩ := h; exact ⟨h1, h1, c, h2, h2⟩
  | ef => exact ⟨h.1, h.1, rfl⟩

theorem getD_set_ne' {bx : Bx} {s s' : Nat} {c} (h : s ≠ s') : (bx.set s c).getD s' none = bx.getD s' none := by simp [List.getD_eq_getElem?_getD, h]

theorem look_of {ev eb : Ev} {bx bx' b2 b2' : Bx} {S S' S2 S2' T T' : Heap} {i j : Nat} (hc : Chg eb bx S bx' S' b2 S2 b2' S2') (h : Cmp ⟨i, eb, S, S'⟩ ⟨j, ev, T, T'⟩) :
    Look ev bx S bx' S' ∧ Look ev bx' S' bx S := by
  obtain ⟨ps, h, hp⟩ := h
  cases eb
  case none => obtain ⟨rfl, rfl, _⟩ := hc; cases ev <;> simp [Look]
  case ld => obtain ⟨rfl, rfl, _⟩ := hc; cases ev <;> simp [Look]
  case lb => obtain ⟨rfl, rfl, _⟩ := hc; cases ev <;> simp [Look]
  case bld => obtain ⟨rfl, rfl, _⟩ := hc; cases ev <;> simp [Look]
  case ef =>
    obtain ⟨rfl, _, _⟩ := hc
    cases ev <;> simp only [compat] at h <;> (try cases h) <;> simp only [Look, and_self]
    · have := hp _ (List.mem_singleton.2 rfl); exact ⟨this, this.symm⟩
    · have := hp _ (List.mem_singleton.2 rfl); exact ⟨this, this.symm⟩
  case bst s =>
    obtain ⟨rfl, _, c, rfl, _⟩ := hc
    cases ev <;> simp only [compat] at h <;> simp only [Look, and_self] <;> (split at h <;> first | cases h | skip) <;> rename_i hne
    · exact ⟨getD_set_ne' hne, (getD_set_ne' hne).symm⟩
    · exact ⟨getD_set_ne' hne, (getD_set_ne' hne).symm⟩
    · constructor <;> simp [hne]
  case bal s =>
    obtain ⟨rfl, _, c, rfl, _⟩ := hc
    cases ev <;> simp only [compat] at h <;> simp only [Look, and_self] <;> (split at h <;> first | cases h | skip) <;> rename_i hne
    · exact ⟨getD_set_ne' hne, (getD_set_ne' hne).symm⟩
    · exact ⟨getD_set_ne' hne, (getD_set_ne' hne).symm⟩
    · constructor <;> simp [hne]
end

def boxy (ev : Ev) (s : Nat) : Prop := ev = .bst s ∨ ev = .bal s
theorem Chg.cls {ev : Ev} {bx bx' b2 b2' : Bx} {S S' S2 S2' : Heap} (h : Chg ev bx S bx' S' b2 S2 b2' S2') :
    (ev ≠ .ef ∧ bx' = bx ∧ b2' = b2 ∧ S' = S ∧ S2' = S2) ∨ (ev ≠ .ef ∧ ∃ s c, boxy ev s ∧ bx' = bx.set s c ∧ b2' = b2.set s c ∧ S' = S ∧ S2' = S2) ∨ (ev = .ef ∧ bx' = bx ∧ b2' = b2 ∧ S2' = S') := by
  cases ev <;> simp only [Chg] at h
  case bst s => obtain ⟨h1, h2, c, h3, h4⟩ := h; exact .inr (.inl ⟨by simp, s, c, .inl rfl, h3, h4, h1, h2⟩)
  case bal s => obtain ⟨h1, h2, c, h3, h4⟩ := h; exact .inr (.inl ⟨by simp, s, c, .inr rfl, h3, h4, h1, h2⟩)
  case ef => exact .inr (.inr ⟨rfl, h⟩)
  all_goals exact .inl ⟨by simp, h.1, h.2.2.1, h.2.1, h.2.2.2⟩
theorem boxy_ne {ev eb : Ev} {i j : Nat} {S S' T T' : Heap} {s s' : Nat} (h : Cmp ⟨i, ev, S, S'⟩ ⟨j, eb, T, T'⟩) (hs : boxy ev s) (hs' : boxy eb s') : s ≠ s' := by
  obtain ⟨ps, h, _⟩ := h
  intro e
  subst e
  rcases hs with rfl | rfl <;> rcases hs' with rfl | rfl <;> simp [compat] at h

theorem frame_swap {Fx Fy : (β : Type) → Bx → Heap → (Out → Option β) → Option β} {bx : Bx} {S : Heap} {ox oy : Out} {i j : Nat} (hx : FrameP Fx bx S ox) (hy : FrameP Fy ox.bx ox.S oy)
    (hc : Cmp ⟨i, ox.ev, S, ox.S⟩ ⟨j, oy.ev, ox.S, oy.S⟩) : ∃ oy' ox', FrameP Fy bx S oy' ∧ FrameP Fx oy'.bx oy'.S ox' ∧ ox'.e = ox.e ∧ oy'.e = oy.e ∧ ox'.ev = ox.ev ∧ oy'.ev = oy.ev ∧
      ox'.bx = oy.bx ∧ ox'.S = oy.S ∧ (ox.ev = .ef → S = oy'.S ∧ ox.S = ox'.S) ∧ (oy.ev = .ef → ox.S = S ∧ oy.S = oy'.S) := by
  have cx := frame_chg hx
  have cy := frame_chg hy
  obtain ⟨oy', hy', e1, e2, c1⟩ := frame_move hy (look_of cx hc).2
  have hc' : Cmp ⟨j, oy'.ev, S, oy'.S⟩ ⟨i, ox.ev, S, ox.S⟩ := by
    refine Cmp.congr hc.symm ⟨rfl, e2.symm, ?_⟩ ⟨rfl, rfl, fun _ => ⟨rfl, rfl⟩⟩
    simp only
    intro he
    rw [he] at c1 hc
    simp only [Chg] at c1
    refine ⟨?_, c1.2.2.symm⟩
    obtain ⟨ps, h, _⟩ := hc
    cases hxe : ox.ev <;> rw [hxe] at h cx <;> simp only [compat, Chg] at h cx <;> first | exact cx.2.1 | exact cx.1 | cases h
  obtain ⟨ox', hx', f1, f2, c2⟩ := frame_move hx (look_of (frame_chg hy') hc').1
  refine ⟨oy', ox', hy', hx', f1, e1, f2, e2, ?_⟩
  rcases c2.cls with ⟨n2, p1, p2, p3, p4⟩ | ⟨n2, s, c, hb, p1, p2, p3, p4⟩ | ⟨n2, p1, p2, p4⟩ <;> rcases c1.cls with ⟨n1, q1, q2, q3, q4⟩ | ⟨n1, s', c', hb', q1, q2, q3, q4⟩ | ⟨n1, q1, q2, q4⟩
  case inr.inl.inr.inl =>
    have hne := boxy_ne hc hb hb'
    refine ⟨by rw [p2, q1, q2, p1, List.set_comm _ _ hne], by rw [p4, q4, q3, p3], fun h => absurd h n2, fun h => absurd h n1⟩
  case inr.inr.inr.inr => obtain ⟨ps, h, _⟩ := hc; rw [n1, n2] at h; simp only [compat] at h; cases h
  all_goals refine ⟨?_, ?_, fun h => ?_, fun h => ?_⟩ <;> first | exact absurd h n1 | exact absurd h n2 | (simp_all; done)

section
variable (P : Program) (G : Nat → Option (List AV)) (C : CallF) (ops : List Oper) (ans : List (Nat × OAn)) (bf : List Nat)

/-- An operation, or its being left out. -/
def Fam (i : Nat) (o : Oper) (env : List Ent) (β : Type) (bx : Bx) (S : Heap) (K : Out → Option β) : Option β := match want ops o env with
  | some true => aopK P G C (anAt ans i) o env bx S K
  | some false => K ⟨.v (.tup []), bx, S, .none⟩
  | none => none

inductive RunD : List (Nat × Oper) → List Hist → St → St → Prop
  | nil (st) : RunD [] [] st st
  | cons {i o l tr st st' out} (hf : FrameP (Fam P G C ops ans i o st.env) st.bx st.S out)
      (hc : ∀ b ∈ tr, (bf.getD b.i 0).testBit i = false → Cmp ⟨i, out.ev, st.S, out.S⟩ b) (r : RunD l tr ⟨putE st.env o.dst out.e, out.bx, out.S⟩ st') :
      RunD ((i, o) :: l) (⟨i, out.ev, st.S, out.S⟩ :: tr) st st'

def idx : Nat → List Oper → List (Nat × Oper)
  | _, [] => []
  | i, o :: l => (i, o) :: idx (i + 1) l
end

section
variable {P : Program} {G : Nat → Option (List AV)} {C : CallF} {ops : List Oper} {ans : List (Nat × OAn)} {bf : List Nat} {β : Type} {r : β}

theorem compatAll_some {b : Hist} : ∀ {hist : List Hist} {ps : List Chk}, compatAll bf b hist = some ps → (∀ p ∈ ps, p.ok) → ∀ a ∈ hist, (bf.getD b.i 0).testBit a.i = false → Cmp a b
  | [], _, _, _, a, ha, _ => by cases ha
  | x :: l, ps, h, hp, a, ha, hb => by
    unfold compatAll at h
    split at h
    · rename_i hx
      cases ha with
      | head => rw [hx] at hb; cases hb
      | tail _ ha => exact compatAll_some h hp a ha hb
    · split at h
      · rename_i p q h1 h2
        cases h
        cases ha with
        | head => exact ⟨p, h1, fun z hz => hp z (by simp [hz])⟩
        | tail _ ha => exact compatAll_some h2 (fun z hz => hp z (by simp [hz])) a ha hb
      · cases h
theorem Cmp.none {a : Hist} {i : Nat} {S S' : Heap} : Cmp a ⟨i, .none, S, S'⟩ := by
  obtain ⟨j, ev, T, T'⟩ := a
  refine ⟨[], ?_, by simp⟩
  cases ev <;> rfl

theorem of_evD {X : Ctl} (hX : ∀ ps, X.same ps = true → ∀ p ∈ ps, p.ok) : ∀ (l : List Oper) (i : Nat) (hist : List Hist) (K : St → Option β) (st : St), evD P G C X ops ans bf i l hist K st = some r →
    ∃ st' tr, K st' = some r ∧ RunD P G C ops ans bf (idx i l) tr st st' ∧ ∀ b ∈ tr, ∀ a ∈ hist, (bf.getD b.i 0).testBit a.i = false → Cmp a b
  | [], i, hist, K, st, h => ⟨st, [], h, .nil st, by simp⟩
  | o :: l, i, hist, K, ⟨env, bx, S⟩, h => by
    simp only [evD] at h
    obtain ⟨wt, hw, h⟩ := guardK_some h
    cases wt with
    | false =>
      simp only [Bool.false_eq_true, if_false] at h
      obtain ⟨st', tr, hk, hr, hc⟩ := of_evD hX l (i + 1) hist K _ h
      have hfam : Fam P G C ops ans i o env = fun _ bx S K => K ⟨.v (.tup []), bx, S, .none⟩ := by funext β bx S K; simp only [Fam, hw]
      refine ⟨st', _, hk, RunD.cons (out := ⟨.v (.tup []), bx, S, .none⟩) (by rw [hfam]; exact ⟨rfl, rfl, fun _ _ _ _ => rfl⟩) (fun b _ _ => Cmp.none.symm) hr, fun b hb a ha hab => ?_⟩
      cases hb with
      | head => exact Cmp.none
      | tail _ hb => exact hc b hb a ha hab
    | true =>
      simp only [if_true] at h
      obtain ⟨out, h, hf⟩ := aop_frame h
      have h := normE_some h
      have hfam : Fam P G C ops ans i o env = fun _ bx S K => aopK P G C (anAt ans i) o env bx S K := by funext β bx S K; simp only [Fam, hw]
      split at h
      · rename_i hev
        obtain ⟨st', tr, hk, hr, hc⟩ := of_evD hX l (i + 1) hist K _ h
        refine ⟨st', _, hk, RunD.cons (out := out) (by rw [hfam]; exact hf) (fun b _ _ => by rw [hev]; exact Cmp.none.symm) hr, fun b hb a ha hab => ?_⟩
        cases hb with
        | head => rw [hev]; exact Cmp.none
        | tail _ hb => exact hc b hb a ha hab
      · split at h
        · rename_i ps hps
          simp only [gB_some] at h
          obtain ⟨hp, h⟩ := h
          have hp := hX _ hp
          obtain ⟨st', tr, hk, hr, hc⟩ := of_evD hX l (i + 1) _ K _ h
          refine ⟨st', _, hk, RunD.cons (out := out) (by rw [hfam]; exact hf) (fun b hb hab => hc b hb _ (by simp) hab) hr, fun b hb a ha hab => ?_⟩
          cases hb with
          | head => exact compatAll_some hps hp a ha hab
          | tail _ hb => exact hc b hb a (by simp [ha]) hab
        · cases h

-- an operation that is apart from another does not see it
theorem apartO_spec {x y : Oper} (h : apartO ops x y = true) :
    (∀ d, x.dst = some d → d ∉ looks ops y) ∧ (∀ d, x.dst = some d → y.dst ≠ some d) ∧ (∀ d, y.dst = some d → d ∉ looks ops x) := by
  refine ⟨fun d hd => ?_, fun d hd => ?_, fun d hd => ?_⟩ <;> simp [apartO, hd] at h
  · exact h.1.1
  · exact h.1.2
  · exact h.2
theorem getD_putE {env : List Ent} {dst : Option Nat} {e : Ent} {t : Nat} (h : dst ≠ some t) : (putE env dst e).getD t (.v .bot) = env.getD t (.v .bot) := by
  cases dst with
  | none => rfl
  | some d =>
    have hne : d ≠ t := fun hh => h (by rw [hh])
    simp [putE, List.getD_eq_getElem?_getD, hne]
theorem Fam_putE {i : Nat} {o : Oper} {env : List Ent} {dst : Option Nat} {e : Ent} (h : ∀ d, dst = some d → d ∉ looks ops o) : Fam P G C ops ans i o (putE env dst e) = Fam P G C ops ans i o env := by
  have h1 : want ops o (putE env dst e) = want ops o env := by
    unfold want
    split
    · rfl
    · rename_i j w hg
      split
      · rename_i d hd
        rw [getD_putE]
        intro he
        exact h d he (by simp [looks, hg, hd])
      · rfl
  have h2 : ∀ x ∈ o.op.operands, opd G (putE env dst e) x = opd G env x := by
    intro x hx
    cases x with
    | tmp t =>
      simp only [opd]
      rw [getD_putE]
      intro he
      exact h t he (List.mem_append_left _ (List.mem_filterMap.2 ⟨.tmp t, by simpa using hx, rfl⟩))
    | _ => rfl
  funext β bx S K
  unfold Fam
  rw [h1]
  split
  · exact aopK_congr h2
  · rfl
  · rfl
theorem putE_comm {env : List Ent} {x y : Option Nat} {e f : Ent} (h : ∀ d, x = some d → y ≠ some d) : putE (putE env x e) y f = putE (putE env y f) x e := by
  cases x with
  | none => rfl
  | some d =>
    cases y with
    | none => rfl
    | some d' =>
      have hne : d ≠ d' := fun he => h d rfl (by rw [he])
      simp only [putE]
      rw [List.set_comm _ _ hne]

theorem swap {i j : Nat} {x y : Oper} {l : List (Nat × Oper)} {tr : List Hist} {st st' : St} (h : RunD P G C ops ans bf ((i, x) :: (j, y) :: l) tr st st') (hb : (bf.getD j 0).testBit i = false)
    (ha : apartO ops x y = true) : ∃ tr', RunD P G C ops ans bf ((j, y) :: (i, x) :: l) tr' st st' ∧ ∀ b' ∈ tr', ∃ b ∈ tr, HEq' b b' := by
  obtain ⟨a1, a2, a3⟩ := apartO_spec ha
  cases h with
  | cons hx hcx rx =>
    rename_i trx ox
    cases rx with
    | cons hy hcy ry =>
      rename_i tr oy
      simp only at hy hcy ry
      rw [Fam_putE a1] at hy
      have hxy := hcx _ (List.mem_cons_self ..) hb
      obtain ⟨oy', ox', hy', hx', e1, e2, e3, e4, e5, e6, e7, e8⟩ := frame_swap hx hy hxy
      have hqy : HEq' ⟨j, oy.ev, ox.S, oy.S⟩ ⟨j, oy'.ev, st.S, oy'.S⟩ := ⟨rfl, e4.symm, e8⟩
      have hqx : HEq' ⟨i, ox.ev, st.S, ox.S⟩ ⟨i, ox'.ev, oy'.S, ox'.S⟩ := ⟨rfl, e3.symm, e7⟩
      have hfin : (⟨putE (putE st.env y.dst oy'.e) x.dst ox'.e, ox'.bx, ox'.S⟩ : St) = ⟨putE (putE st.env x.dst ox.e) y.dst oy.e, oy.bx, oy.S⟩ := by
        rw [e5, e6, e1, e2, putE_comm a2]
      refine ⟨_, RunD.cons hy' ?_ (RunD.cons (out := ox') (by simp only; rw [Fam_putE a3]; exact hx') ?_ (by simp only; rw [hfin]; exact ry)), ?_⟩
      · intro b hb' hbb
        cases hb' with
        | head => exact (hxy.congr hqx hqy).symm
        | tail _ hb' => exact (hcy b hb' hbb).congr hqy ⟨rfl, rfl, fun _ => ⟨rfl, rfl⟩⟩
      · intro b hb' hbb
        exact (hcx b (List.mem_cons_of_mem _ hb') hbb).congr hqx ⟨rfl, rfl, fun _ => ⟨rfl, rfl⟩⟩
      · intro b' hb'
        cases hb' with
        | head => exact ⟨_, List.mem_cons_of_mem _ (List.mem_cons_self ..), hqy⟩
        | tail _ hb' =>
          cases hb' with
          | head => exact ⟨_, List.mem_cons_self .., hqx⟩
          | tail _ hb' => exact ⟨b', List.mem_cons_of_mem _ (List.mem_cons_of_mem _ hb'), rfl, rfl, fun _ => ⟨rfl, rfl⟩⟩

theorem HEq'.trans {a b c : Hist} (h : HEq' a b) (k : HEq' b c) : HEq' a c :=
  ⟨h.1.trans k.1, h.2.1.trans k.2.1, fun he => ⟨(h.2.2 he).1.trans (k.2.2 (h.2.1 ▸ he)).1, (h.2.2 he).2.trans (k.2.2 (h.2.1 ▸ he)).2⟩⟩

theorem bubble {j : Nat} {y : Oper} {U2 : List (Nat × Oper)} {st' : St} : ∀ (U1 : List (Nat × Oper)) (tr : List Hist) (st : St), RunD P G C ops ans bf (U1 ++ (j, y) :: U2) tr st st' →
    (∀ p ∈ U1, (bf.getD j 0).testBit p.1 = false ∧ apartO ops p.2 y = true) → ∃ tr', RunD P G C ops ans bf ((j, y) :: (U1 ++ U2)) tr' st st' ∧ ∀ b' ∈ tr', ∃ b ∈ tr, HEq' b b'
  | [], tr, st, h, _ => ⟨tr, h, fun b hb => ⟨b, hb, rfl, rfl, fun _ => ⟨rfl, rfl⟩⟩⟩
  | (i, x) :: U1, tr, st, h, ha => by
    cases h with
    | cons hx hcx rx =>
      rename_i trx ox
      obtain ⟨tr1, r1, q1⟩ := bubble U1 trx _ rx fun p hp => ha p (List.mem_cons_of_mem _ hp)
      have hrun : RunD P G C ops ans bf ((i, x) :: (j, y) :: (U1 ++ U2)) (⟨i, ox.ev, st.S, ox.S⟩ :: tr1) st st' := RunD.cons hx (fun b hb hbb => by
        obtain ⟨b0, hb0, hq⟩ := q1 b hb
        exact (hcx b0 hb0 (by rw [hq.1]; exact hbb)).congr ⟨rfl, rfl, fun _ => ⟨rfl, rfl⟩⟩ hq) r1
      obtain ⟨h1, h2⟩ := ha (i, x) (List.mem_cons_self ..)
      obtain ⟨tr2, r2, q2⟩ := swap hrun h1 h2
      refine ⟨tr2, r2, fun b' hb' => ?_⟩
      obtain ⟨b, hb, hq⟩ := q2 b' hb'
      cases hb with
      | head => exact ⟨_, List.mem_cons_self .., hq⟩
      | tail _ hb =>
        obtain ⟨b0, hb0, hq0⟩ := q1 b hb
        exact ⟨b0, List.mem_cons_of_mem _ hb0, hq0.trans hq⟩
end
end Go.Ab

/- A region that draws its order: any order comes to the end of the order of the text. -/
namespace Go.Ab

-- what is before what
theorem foldl_bits {α : Type} {k : Nat} (b : α → Bool) (f h : α → Nat) : ∀ (l : List α) (s0 : Nat), (l.foldl (fun s e => if b e then s ||| f e ||| h e else s) s0).testBit k = true →
    s0.testBit k = true ∨ ∃ e ∈ l, b e = true ∧ ((f e).testBit k = true ∨ (h e).testBit k = true)
  | [], s0, hh => .inl hh
  | e :: l, s0, hh => by
    simp only [List.foldl_cons] at hh
    rcases foldl_bits b f h l _ hh with h1 | ⟨e', he, h2⟩
    · split at h1
      · rename_i hb
        simp only [Nat.testBit_or, Bool.or_eq_true] at h1
        rcases h1 with (h1 | h1) | h1
        · exact .inl h1
        · exact .inr ⟨e, by simp, hb, .inl h1⟩
        · exact .inr ⟨e, by simp, hb, .inr h1⟩
      · exact .inl h1
    · exact .inr ⟨e', by simp [he], h2⟩

theorem befores_pre : ∀ (l : List Oper) (acc : List Nat), ∃ s, befores l acc = acc ++ s
  | [], acc => ⟨[], by simp [befores]⟩
  | o :: l, acc => by
    obtain ⟨s, hs⟩ := befores_pre l (acc ++ [o.after.toList.foldl (fun s e => if Region.binds .any e then s ||| (1 <<< e.on) ||| acc.getD e.on 0 else s) 0])
    exact ⟨[_] ++ s, by rw [befores, hs, List.append_assoc]⟩
theorem befores_spec : ∀ (l : List Oper) (acc : List Nat) (t : Nat) (o : Oper), l[t]? = some o → ∀ k, ((befores l acc).getD (acc.length + t) 0).testBit k = true →
    ∃ e ∈ o.after, Region.binds .any e = true ∧ (e.on = k ∨ ((befores l acc).getD e.on 0).testBit k = true)
  | [], acc, t, o, h, _, _ => by simp at h
  | x :: l, acc, 0, o, h, k, hk => by
    simp at h
    subst h
    obtain ⟨s, hs⟩ := befores_pre l (acc ++ [x.after.toList.foldl (fun s e => if Region.binds .any e then s ||| (1 <<< e.on) ||| acc.getD e.on 0 else s) 0])
    simp only [befores] at hk ⊢
    rw [hs] at hk ⊢
    simp only [List.getD_eq_getElem?_getD, Nat.add_zero, List.append_assoc, List.getElem?_append_right (Nat.le_refl _), Nat.sub_self, List.singleton_append, List.getElem?_cons_zero, Option.getD_some] at hk
    rcases foldl_bits (fun e => Region.binds .any e) (fun e => 1 <<< e.on) (fun e => (acc[e.on]?).getD 0) x.after.toList 0 hk with h0 | ⟨e, he, hb, h1⟩
    · simp at h0
    · refine ⟨e, by simpa using he, hb, ?_⟩
      rcases h1 with h1 | h1
      · left
        rw [Nat.one_shiftLeft, Nat.testBit_two_pow] at h1
        simpa using h1
      · right
        rcases Nat.lt_or_ge e.on acc.length with hl | hl
        · rw [List.getD_eq_getElem?_getD, List.append_assoc, List.getElem?_append_left hl]; exact h1
        · rw [List.getElem?_eq_none hl] at h1; simp at h1
  | x :: l, acc, t + 1, o, h, k, hk => by
    simp only [befores] at hk ⊢
    refine befores_spec l _ t o (by simpa using h) k ?_
    rw [List.length_append, List.length_singleton, Nat.add_assoc, Nat.add_comm 1 t]
    exact hk

theorem edgesDown_spec : ∀ (l : List Oper) (i : Nat), edgesDown i l = true → ∀ (t : Nat) (o : Oper), l[t]? = some o → ∀ e ∈ o.after, Region.binds .any e = true → e.on < i + t
  | [], i, _, t, o, h, _, _, _ => by simp at h
  | x :: l, i, hd, 0, o, h, e, he, hb => by
    simp at h; subst h
    simp only [edgesDown, Bool.and_eq_true, List.all_eq_true, Bool.or_eq_true, Bool.not_eq_true', decide_eq_true_eq] at hd
    rcases hd.1 e (by simpa using he) with h1 | h1
    · rw [h1] at hb; cases hb
    · simpa using h1
  | x :: l, i, hd, t + 1, o, h, e, he, hb => by
    simp only [edgesDown, Bool.and_eq_true] at hd
    have := edgesDown_spec l (i + 1) hd.2 t o (by simpa using h) e he hb
    omega
theorem apartAll_spec {ops : List Oper} {b : Nat} {o : Oper} : ∀ (l : List Oper) (i : Nat), apartAll ops b o i l = true → ∀ (t : Nat) (x : Oper), l[t]? = some x → b.testBit (i + t) = false → apartO ops x o = true
  | [], _, _, t, x, h, _ => by simp at h
  | y :: l, i, ha, 0, x, h, hb => by
    simp at h; subst h
    simp only [apartAll, Bool.and_eq_true, Bool.or_eq_true] at ha
    rcases ha.1 with h1 | h1
    · rw [Nat.add_zero] at hb; rw [h1] at hb; cases hb
    · exact h1
  | y :: l, i, ha, t + 1, x, h, hb => by
    simp only [apartAll, Bool.and_eq_true] at ha
    exact apartAll_spec l (i + 1) ha.2 t x (by simpa using h) (by rw [← hb]; congr 1; omega)
theorem regOk_spec {ops : List Oper} {bf : List Nat} : ∀ (l : List Oper) (i : Nat), regOk ops bf i l = true → ∀ (t : Nat) (y : Oper), l[t]? = some y → ∀ (s : Nat) (x : Oper), s < i + t → ops[s]? = some x →
    (bf.getD (i + t) 0).testBit s = false → apartO ops x y = true
  | [], _, _, t, y, h, _, _, _, _, _ => by simp at h
  | o :: l, i, hr, 0, y, h, s, x, hs, hx, hb => by
    simp at h; subst h
    simp only [regOk, Bool.and_eq_true] at hr
    exact apartAll_spec _ 0 hr.1 s x (by rw [List.getElem?_take, if_pos (by omega)]; exact hx) (by rw [← hb]; simp)
  | o :: l, i, hr, t + 1, y, h, s, x, hs, hx, hb => by
    simp only [regOk, Bool.and_eq_true] at hr
    exact regOk_spec l (i + 1) hr.2 t y (by simpa using h) s x (by omega) hx (by rw [← hb]; congr 2; omega)

theorem idx_mem : ∀ (l : List Oper) (i j : Nat) (o : Oper), (j, o) ∈ idx i l ↔ i ≤ j ∧ l[j - i]? = some o
  | [], i, j, o => by simp [idx]
  | x :: l, i, j, o => by
    simp only [idx, List.mem_cons, Prod.mk.injEq, idx_mem l (i + 1) j o]
    constructor
    · rintro (⟨rfl, rfl⟩ | ⟨h1, h2⟩)
      · simp
      · refine ⟨by omega, ?_⟩
        rw [show j - i = (j - (i + 1)) + 1 by omega, List.getElem?_cons_succ]; exact h2
    · rintro ⟨h1, h2⟩
      by_cases hij : j = i
      · subst hij; simp at h2; exact .inl ⟨rfl, h2.symm⟩
      · right
        refine ⟨by omega, ?_⟩
        rw [show j - i = (j - (i + 1)) + 1 by omega, List.getElem?_cons_succ] at h2; exact h2
theorem idx_sorted : ∀ (l : List Oper) (i : Nat), (idx i l).Pairwise fun a b => a.1 < b.1
  | [], _ => by simp [idx]
  | x :: l, i => by
    simp only [idx, List.pairwise_cons]
    refine ⟨fun p hp => ?_, idx_sorted l (i + 1)⟩
    obtain ⟨j, o⟩ := p
    have := ((idx_mem l (i + 1) j o).1 hp).1
    simp only; omega
theorem idx_length : ∀ (l : List Oper) (i : Nat), (idx i l).length = l.length
  | [], _ => rfl
  | x :: l, i => by simp [idx, idx_length l (i + 1)]

section
variable {P : Program} {G : Nat → Option (List AV)} {C : CallF} {n : Nat} {M : Nat → Prop} {h0 : Base} {T : Tie} {g0 : Gam} {ans : List (Nat × OAn)} {β : Type} {r : β}

theorem runD_any {F : Fence} {k : Nat} (hF : Open F) (hG : GOk G g0) (hC : CallOk P G C) (hY : YOk F P C M h0 T g0) (hD : DOk F C T) {ops : Array Oper} {bf : List Nat} {Q : Exit → Act → World → Prop} {st' : St}
    (hbf : ∀ (j : Nat) (o : Oper), ops[j]? = some o → ∀ k, (bf.getD j 0).testBit k = true → ∃ e ∈ o.after, Region.binds .any e = true ∧ (e.on = k ∨ (bf.getD e.on 0).testBit k = true))
    (hdown : ∀ (j : Nat) (o : Oper), ops[j]? = some o → ∀ e ∈ o.after, Region.binds .any e = true → e.on < j)
    (hap : ∀ (j : Nat) (y : Oper), ops[j]? = some y → ∀ (s : Nat) (x : Oper), s < j → ops[s]? = some x → (bf.getD j 0).testBit s = false → apartO ops.toList x y = true)
    (hq : ∀ a w, StR n M h0 T g0 st' a w → Q .normal a w) : ∀ (fuel : Nat) (U : List (Nat × Oper)) (tr : List Hist) (st : St) (listed : Array Bool) (a : Act) (w : World), U.length = fuel → listed.size = ops.size →
      (∀ i o, (i, o) ∈ U ↔ ops[i]? = some o ∧ listed.getD i true = false) → (U.Pairwise fun a b => a.1 < b.1) →
      (∀ i, listed.getD i false = true → ∀ k, (bf.getD i 0).testBit k = true → listed.getD k false = true) →
      RunD P G C ops.toList ans bf U tr st st' → StR n M h0 T g0 st a w → wpAnyIn F k P .any ops Q fuel listed a w
  | 0, U, tr, st, listed, a, w, hl, hsz, hU, hs, hcl, hr, R => by
    have : U = [] := List.eq_nil_of_length_eq_zero hl
    subst this
    cases hr
    refine ⟨?_, hq a w R⟩
    cases hrd : Region.ready .any ops listed with
    | nil => rfl
    | cons j l =>
      have hj : j ∈ Region.ready .any ops listed := by rw [hrd]; simp
      rw [mem_ready] at hj
      obtain ⟨h1, o, ho, _⟩ := hj
      exact absurd ((hU j o).2 ⟨ho, h1⟩) (by simp)
  | fuel + 1, U, tr, st, listed, a, w, hl, hsz, hU, hs, hcl, hr, R => by
    have tf : ∀ k, k < ops.size → listed.getD k true = true → listed.getD k false = true := by
      intro k hk h
      have : k < listed.size := by omega
      simpa [this] using h
    have ft : ∀ k, listed.getD k false = true → listed.getD k true = true := by
      intro k h
      rcases Nat.lt_or_ge k listed.size with hk | hk
      · simpa [hk] using h
      · simp [Array.getElem?_eq_none hk] at h
    refine ⟨fun hnil => ?_, fun j hj => ?_⟩
    · cases U with
      | nil => simp at hl
      | cons p U =>
        obtain ⟨i, o⟩ := p
        obtain ⟨ho, hi⟩ := (hU i o).1 (by simp)
        have : i ∈ Region.ready .any ops listed := by
          rw [mem_ready]
          refine ⟨hi, o, ho, fun e he hb => ?_⟩
          have hlt := hdown i o ho e he hb
          have hsi : i < ops.size := (Array.getElem?_eq_some_iff.1 ho).1
          cases hle : listed.getD e.on true with
          | true => exact tf _ (by omega) hle
          | false =>
            have hm := (hU e.on ops[e.on]).2 ⟨by simp [show e.on < ops.size by omega], hle⟩
            rw [List.pairwise_cons] at hs
            rcases List.mem_cons.1 hm with hm | hm
            · have := congrArg Prod.fst hm; simp only at this; omega
            · have := hs.1 _ hm; simp only at this; omega
        rw [hnil] at this; cases this
    · obtain ⟨hjun, o, ho, hall⟩ := mem_ready.1 hj
      have hm := (hU j o).2 ⟨ho, hjun⟩
      obtain ⟨U1, U2, rfl⟩ := List.append_of_mem hm
      have hbfj : ∀ k, (bf.getD j 0).testBit k = true → listed.getD k false = true := by
        intro k hk
        obtain ⟨e, he, hb, h1 | h1⟩ := hbf j o ho k hk
        · rw [← h1]; exact hall e he hb
        · exact hcl _ (hall e he hb) k h1
      have hlt1 : ∀ p ∈ U1, p.1 < j := fun p hp => (List.pairwise_append.1 hs).2.2 p hp (j, o) (by simp)
      have hlt2 : ∀ p ∈ U2, j < p.1 := fun p hp => (List.pairwise_cons.1 (List.pairwise_append.1 hs).2.1).1 p hp
      obtain ⟨tr', r', -⟩ := bubble U1 tr st hr fun p hp => by
        obtain ⟨i, x⟩ := p
        obtain ⟨hx, hxl⟩ := (hU i x).1 (by simp [hp])
        have hb : (bf.getD j 0).testBit i = false := by
          cases hb : (bf.getD j 0).testBit i with
          | false => rfl
          | true => have := ft _ (hbfj i hb); rw [hxl] at this; cases this
        exact ⟨hb, hap j o ho i x (hlt1 _ hp) hx hb⟩
      cases r' with
      | cons hf hc hrest =>
        rename_i trr out
        have next : ∀ a' w', StR n M h0 T g0 ⟨putE st.env o.dst out.e, out.bx, out.S⟩ a' w' → wpAnyIn F k P .any ops Q fuel (listed.setIfInBounds j true) a' w' := by
          intro a' w' R'
          refine runD_any hF hG hC hY hD hbf hdown hap hq fuel (U1 ++ U2) _ _ _ a' w' (by simp at hl ⊢; omega) (by simp [hsz]) (fun i x => ?_) ?_ ?_ hrest R'
          · constructor
            · intro hi
              have hne : i ≠ j := by
                rcases List.mem_append.1 hi with h | h
                · have := hlt1 _ h; simp only at this; omega
                · have := hlt2 _ h; simp only at this; omega
              obtain ⟨h1, h2⟩ := (hU i x).1 (by rcases List.mem_append.1 hi with h | h <;> simp [h])
              exact ⟨h1, by rw [getD_set_ne true (Ne.symm hne)]; exact h2⟩
            · rintro ⟨h1, h2⟩
              have hne : i ≠ j := by
                intro he
                subst he
                have : i < listed.size := by rw [hsz]; exact (Array.getElem?_eq_some_iff.1 h1).1
                simp [this] at h2
              rw [getD_set_ne true (Ne.symm hne)] at h2
              have := (hU i x).2 ⟨h1, h2⟩
              simp only [List.mem_append, List.mem_cons, Prod.mk.injEq, hne, false_and, false_or] at this ⊢
              exact this
          · rw [List.pairwise_append] at hs ⊢
            exact ⟨hs.1, (List.pairwise_cons.1 hs.2.1).2, fun p hp q hq => hs.2.2 p hp q (by simp [hq])⟩
          · intro i hi k hk
            by_cases hij : i = j
            · subst hij; exact getD_set_true (hbfj k hk)
            · rw [getD_set_ne false (Ne.symm hij)] at hi
              exact getD_set_true (hcl i hi k hk)
        unfold Go.wpOpIn
        simp only [ho]
        have hself := hf.self (β := Out) some
        unfold Fam at hf hself
        cases hw : want ops.toList o st.env with
        | none => rw [hw] at hself; cases hself
        | some wt =>
          have hwt : Region.wanted o (yielded ops a.tmps) = wt := by obtain ⟨_, _, g, be, _, _, he, _⟩ := R; exact want_wanted he hw
          rw [hwt]
          cases wt with
          | true =>
            simp only [hw] at hf
            simp only [if_true]
            exact step_op hF hG hC hY hD (env := st.env) (bx := st.bx) (S := st.S) R hf next
          | false =>
            simp only [hw] at hself
            cases hself
            simp only [Bool.false_eq_true, if_false]
            exact ⟨fun f _ => hF.fn f, next _ _ (step_skipped (env := st.env) (bx := st.bx) (S := st.S) R o.dst)⟩

theorem evReg_sound {X : Ctl} {F : Fence} {k : Nat} (hF : Open F) (hX : ∀ ps, X.same ps = true → ∀ p ∈ ps, p.ok) (hG : GOk G g0) (hC : CallOk P G C) (hY : YOk F P C M h0 T g0) (hD : DOk F C T) (hmix : P.follows .mixedOrders = true) {id : Nat} {ops : Array Oper} {draw : Bool} {K : St → Option β} {st : St} {a : Act} {w : World}
    {Q : Exit → Act → World → Prop} (h : evReg X P G C ops.toList draw ans K st = some r) (R : StR n M h0 T g0 st a w) (hq : ∀ st' a' w', K st' = some r → StR n M h0 T g0 st' a' w' → Q .normal a' w') :
    (Code.region id ops draw).wpIn F k P Q a w := by
  unfold evReg at h
  split at h
  · rename_i hd
    rw [hd]
    split at h
    · rename_i hok
      simp only [Bool.and_eq_true] at hok
      obtain ⟨st', tr, hk, hr, _⟩ := of_evD hX _ _ _ _ _ h
      refine wpIn_region_any hmix (runD_any hF hG hC hY hD (bf := befores ops.toList []) (st' := st') ?_ ?_ ?_ (fun a w R => hq st' a w hk R) ops.size (idx 0 ops.toList) tr st _ a _ (by simp [idx_length]) (by simp) ?_ (idx_sorted _ _) ?_ hr ?_)
      · intro j o ho k hk
        have := befores_spec ops.toList [] j o (by simpa using ho) k
        simp only [List.length_nil, Nat.zero_add] at this
        exact this hk
      · intro j o ho e he hb
        have := edgesDown_spec _ _ hok.1 j o (by simpa using ho) e he hb
        omega
      · intro j y hy s x hs hx hb
        exact regOk_spec _ _ hok.2 j y (by simpa using hy) s x (by omega) (by simpa using hx) (by rw [← hb]; simp)
      · intro i o
        rw [idx_mem]
        constructor
        · rintro ⟨_, h2⟩
          have ho : ops[i]? = some o := by simpa using h2
          exact ⟨ho, by simp [(Array.getElem?_eq_some_iff.1 ho).1]⟩
        · rintro ⟨h1, _⟩
          exact ⟨by omega, by simpa using h1⟩
      · intro i hi
        rcases Nat.lt_or_ge i ops.size with h | h
        · simp [h] at hi
        · simp [Array.getElem?_eq_none (xs := Array.replicate ops.size false) (by simpa using h)] at hi
      · obtain ⟨M1, h1, g, be, B, le, he, hdf, hcx, RR⟩ := R
        exact ⟨M1, h1, g, be, B, le, he, hdf, hcx, RR.world B.top ⟨Nat.le_refl _, rfl, rfl⟩ fun _ _ => rfl⟩
    · cases h
  · rename_i hd
    have hd : draw = false := by simpa using hd
    rw [hd]
    have := evS_sound (k := k) hF hG hC hY hD (ops := ops) ops.toList 0 K st a w (by simp) h R hq
    rw [Array.length_toList] at this
    exact wpIn_region (by rw [List.range_eq_range']; exact this)
end
end Go.Ab

/- The code of a function: what the abstract machine comes to, the walk comes to. -/
namespace Go.Ab

def toExit : AExit → Exit
  | .normal => .normal
  | .exit id => .exit id
  | .goto l => .goto l
  | .ret => .ret

section
variable {P : Program} {G : Nat → Option (List AV)} {C : CallF} {n : Nat} {M : Nat → Prop} {h0 : Base} {T : Tie} {g0 : Gam} {β : Type} {r : β}

-- the slots anew
def mkE : Live → List AV → List Ent → Bx → List Ent × Bx
  | [], _, env, bx => (env, bx)
  | (s, none) :: l, vs, env, bx => mkE l vs.tail (env.set s (.ref s 0)) (bx.set s (some (aggCells (vs.headD .bot))))
  | (s, some _) :: l, vs, env, bx => mkE l vs.tail (env.set s (.v (vs.headD .bot))) bx
def mkS (n : Nat) (live : Live) (vs : List AV) (S : Heap) : St :=
  ⟨(mkE live vs (List.replicate n (.v .bot)) (List.replicate n none)).1, (mkE live vs (List.replicate n (.v .bot)) (List.replicate n none)).2, S⟩
theorem mkK_some : ∀ {live : Live} {vs : List AV} {env : List Ent} {bx : Bx} {K : List Ent → Bx → Option β}, mkK P live vs env bx K = some r → K (mkE live vs env bx).1 (mkE live vs env bx).2 = some r
  | [], vs, env, bx, K, h => h
  | (s, none) :: l, vs, env, bx, K, h => by simp only [mkK] at h; simp only [mkE]; exact mkK_some (live := l) h
  | (s, some t) :: l, vs, env, bx, K, h => by
    simp only [mkK] at h
    simp only [mkE]
    exact mkK_some (live := l) (norm_some (K := fun a => mkK P l vs.tail (env.set s (.v a)) bx K) h)
theorem mkSt_some {live : Live} {vs : List AV} {S : Heap} {K : St → Option β} (h : mkSt P n live vs S K = some r) : K (mkS n live vs S) = some r := mkK_some (K := fun env bx => K ⟨env, bx, S⟩) h

structure Sub (n : Nat) (env : List Ent) (bx : Bx) (st : St) : Prop where
  len : env.length = n
  blen : bx.length = n
  ent : ∀ (t : Nat) e, env[t]? = some e → e = .v .bot ∨ (st.env.getD t (.v .bot) = e ∧ ∀ s o, e = .ref s o → bx.getD s none ≠ none)
  box : ∀ (s : Nat) cs, bx.getD s none = some cs → st.bx.getD s none = some cs

theorem bxset {bx : Bx} {s s' : Nat} {c} : (bx.set s c).getD s' none = if s = s' ∧ s < bx.length then c else bx.getD s' none := by
  simp only [List.getD_eq_getElem?_getD, List.getElem?_set]
  by_cases h : s = s'
  · subst h
    by_cases hl : s < bx.length
    · simp [hl]
    · simp [hl]
  · simp [h]

theorem sub_mk {st : St} : ∀ {live : Live} {vs : List AV} {env : List Ent} {bx : Bx}, reify st live = some vs → Sub n env bx st → Sub n (mkE live vs env bx).1 (mkE live vs env bx).2 st
  | [], vs, env, bx, _, hs => hs
  | (s, none) :: l, vs, env, bx, h, hs => by
    simp only [reify] at h
    split at h
    · rename_i s' cs he hb
      split at h
      · rename_i hss
        subst hss
        split at h
        · rename_i rr hr
          cases h
          simp only [mkE, List.tail_cons, List.headD_cons, aggCells]
          refine sub_mk hr ⟨by simp [hs.len], by simp [hs.blen], fun t e ht => ?_, fun t c ht => ?_⟩
          · rw [List.getElem?_set] at ht
            split at ht
            · rename_i hst
              subst hst
              split at ht
              · rename_i hlt
                cases ht
                refine .inr ⟨he, fun s o hso => ?_⟩
                cases hso
                rw [bxset, if_pos ⟨rfl, by rw [hs.blen, ← hs.len]; exact hlt⟩]; simp
              · cases ht
            · rcases hs.ent t e ht with h1 | ⟨h1, h2⟩
              · exact .inl h1
              · refine .inr ⟨h1, fun s o hso => ?_⟩
                rw [bxset]
                split
                · simp
                · exact h2 s o hso
          · rw [bxset] at ht
            split at ht
            · rename_i hst; cases ht; rw [← hst.1]; exact hb
            · exact hs.box t c ht
        · cases h
      · cases h
    · cases h
  | (s, some _) :: l, vs, env, bx, h, hs => by
    simp only [reify] at h
    split at h
    · rename_i a he
      split at h
      · rename_i rr hr
        cases h
        simp only [mkE, List.tail_cons, List.headD_cons]
        refine sub_mk hr ⟨by simp [hs.len], hs.blen, fun t e ht => ?_, hs.box⟩
        rw [List.getElem?_set] at ht
        split at ht
        · rename_i hst
          subst hst
          split at ht
          · cases ht; exact .inr ⟨he, fun s o hso => by cases hso⟩
          · cases ht
        · exact hs.ent t e ht
      · cases h
    · cases h

theorem sub_rel {st : St} {env : List Ent} {bx : Bx} {a : Act} {w : World} (hs : Sub n env bx st) (R : StR n M h0 T g0 st a w) : StR n M h0 T g0 ⟨env, bx, st.S⟩ a w := by
  obtain ⟨M1, h1, g, be, B, le, he, hd, hcx, RR⟩ := R
  have hbe : ∀ s b, (if (bx.getD s none).isSome then be s else none) = some b → be s = some b := by
    intro s b h
    split at h
    · exact h
    · cases h
  refine ⟨M1, h1, g, fun s => if (bx.getD s none).isSome then be s else none, B, le, ⟨by rw [hs.len, hd.2], fun t e ht => ?_⟩, hd, hcx, { RR with
    box := fun s cs hc => ?_, boxOf := fun s b hb => ?_, bdist := fun s s' b h1 h2 => RR.bdist _ _ _ (hbe _ _ h1) (hbe _ _ h2), hdist := fun id s b o sz hp hb => RR.hdist id s b o sz hp (hbe _ _ hb),
    bZ := fun s b x hb => RR.bZ s b x (hbe _ _ hb), bM := fun s b hb => RR.bM s b (hbe _ _ hb) }⟩
  · rcases hs.ent t e ht with rfl | ⟨h1, h2⟩
    · simp only [entrel, vrel]
    · have hold : entrel g be e (a.tmps.getD t undef) := by
        rw [List.getD_eq_getElem?_getD] at h1
        cases hx : st.env[t]? with
        | none => rw [hx] at h1; simp at h1; subst h1; simp only [entrel, vrel]
        | some x => rw [hx] at h1; simp at h1; subst h1; exact he.2 t x hx
      cases e with
      | v a => exact hold
      | ref s o =>
        obtain ⟨b, hb, hv⟩ := hold
        have := h2 s o rfl
        exact ⟨b, by simp only; rw [if_pos (by cases hh : bx.getD s none with | none => exact absurd hh this | some _ => rfl)]; exact hb, hv⟩
  · have hc' : bx.getD s none = some cs := hc
    obtain ⟨b, sz, h1, h2⟩ := RR.box s cs (hs.box s cs hc')
    exact ⟨b, sz, by simp only [hc', Option.isSome_some, if_true]; exact h1, h2⟩
  · split at hb
    · rename_i hh; exact Option.isSome_iff_exists.1 hh
    · cases hb

theorem getD_replicate' {n s : Nat} : (List.replicate n (none : Option (List AV))).getD s none = none := by
  rw [List.getD_eq_getElem?_getD]
  cases h : (List.replicate n (none : Option (List AV)))[s]? with
  | none => rfl
  | some x => have := List.mem_of_getElem? h; simp at this; simp [this.2]
theorem mkS_rel {st : St} {live : Live} {vs : List AV} {a : Act} {w : World} (h : reify st live = some vs) (R : StR n M h0 T g0 st a w) : StR n M h0 T g0 (mkS n live vs st.S) a w :=
  sub_rel (sub_mk h ⟨by simp, by simp, fun t e ht => .inl (by have := List.mem_of_getElem? ht; simp at this; exact this.2), fun s cs hc => by rw [getD_replicate'] at hc; cases hc⟩) R

-- freezing ahead of a region
theorem freezeK_sound {a : Act} {w : World} : ∀ {l : List Nat} {st : St} {K : St → Option β}, freezeK l st K = some r → StR n M h0 T g0 st a w → ∃ st', K st' = some r ∧ StR n M h0 T g0 st' a w
  | [], st, K, h, R => ⟨st, h, R⟩
  | s :: l, st, K, h, R => by
    unfold freezeK at h
    obtain ⟨M1, h1, g, be, B, le, he, hd, hcx, RR⟩ := R
    split at h
    · rename_i x hx
      simp only [bO_some] at h
      obtain ⟨⟨x', S'⟩, hf, h⟩ := h
      refine freezeK_sound h ?_
      have hxr : vrel g x (a.tmps.getD s undef) := by
        rw [List.getD_eq_getElem?_getD] at hx
        cases hh : st.env[s]? with
        | none => rw [hh] at hx; simp at hx; subst hx; simp only [vrel]
        | some e => rw [hh] at hx; simp at hx; subst hx; exact he.2 s _ hh
      obtain ⟨g', le', hv', R'⟩ := fz_rel 40 _ _ _ _ _ _ RR hxr hf
      have hc := fz_cx _ _ _ _ _ hf
      refine ⟨M1, h1, g', be, by simp only [hc]; exact B, le.trans le', ⟨by simp [he.1], fun t e ht => ?_⟩, ⟨DefR.mono hd.1 le' (by simp only [hc]) fun _ h => h, hd.2⟩, by simp only [hc]; exact hcx, R'⟩
      rw [List.getElem?_set] at ht
      split at ht
      · rename_i hst
        subst hst
        split at ht
        · cases ht; exact hv'
        · cases ht
      · exact entrel_mono le' (fun _ _ h => h) (he.2 t e ht)
    · rename_i s' off hx
      simp only [gB_some, bO_some, asAgg_some, beq_iff_eq] at h
      obtain ⟨rfl, cs, hcs, ⟨q, S'⟩, hf, cs', hq, h⟩ := h
      simp only at hq h
      subst hq
      refine freezeK_sound h ?_
      obtain ⟨b, sz, hb, hk⟩ := RR.box _ _ hcs
      obtain ⟨c, ty, fr, b1, b2, b3, b4, b5⟩ := hk
      have hr : lrel g cs (c.toList.take cs.length) := lrel_of (by simp; omega) fun i x hi => by
        obtain ⟨v, hv, hr⟩ := b5 i x hi
        have hl := (List.getElem?_eq_some_iff.1 hi).1
        exact ⟨v, by rw [List.getElem?_take, if_pos hl, Array.getElem?_toList, ← hv, Nat.zero_add], hr⟩
      obtain ⟨g', le', hv', R'⟩ := fz_rel 40 _ _ _ _ _ (.agg (c.toList.take cs.length).toArray) RR (by simp only [vrel]; exact ⟨_, rfl, hr⟩) hf
      simp only [vrel] at hv'
      obtain ⟨vs, hvs, hv'⟩ := hv'
      have hvs' : vs = c.toList.take cs.length := by
        injection hvs with h1
        have h2 := congrArg Array.toList h1
        simp only at h2
        exact h2.symm
      subst hvs'
      have hlen := lrel_length hv'
      have hc := fz_cx _ _ _ _ _ hf
      refine ⟨M1, h1, g', be, by simp only [hc]; exact B, le.trans le', erel_mono le' (fun _ _ h => h) he, ⟨DefR.mono hd.1 le' (by simp only [hc]) fun _ h => h, hd.2⟩, by simp only [hc]; exact hcx, R'.writeBox hb ⟨rfl, rfl, rfl⟩ (fun _ _ => rfl) ⟨c, ty, fr, b1, b2, b3, by simp at hlen; omega, fun i x hi => ?_⟩⟩
      obtain ⟨v, hv, hr⟩ := lrel_get i x hv' hi
      rw [List.getElem?_take] at hv
      split at hv
      · exact ⟨v, by rw [Nat.zero_add, ← Array.getElem?_toList]; exact hv, hr⟩
      · cases hv

-- loops
def LoopAt (F : Fence) (k : Nat) (P : Program) (c : Code) (Q : Exit → Act → World → Prop) (a : Act) (w : World) : Prop :=
  ∀ (b : Frame) (kk : List Item) (cs : List Frame), b.roundOf = F.round → F.fn b.fn → F.room (cs.length + 1 + k) →
    ∃ e a' w', Q e a' w' ∧ ArrivesIn (Machine.fenced P F) P (lone (b.atR a (.code c :: .inLoop c :: kk)) cs w) b kk cs e a' w'
theorem loopAt_of {F : Fence} {k : Nat} {c : Code} {Q : Exit → Act → World → Prop} {a : Act} {w : World} (h : c.wpIn F k P (Exit.then (LoopAt F k P c Q) Q) a w) : LoopAt F k P c Q a w := by
  intro b kk cs hro hb hr
  obtain ⟨e, a₁, w₁, hq, harr⟩ := h b (.inLoop c :: kk) cs hro hb hr
  cases e with
  | normal =>
    obtain ⟨e₂, a₂, w₂, hq₂, harr₂⟩ := hq b kk cs hro hb hr
    exact ⟨e₂, a₂, w₂, hq₂, .of_steps (StepsIn.trans harr (.one (fenced_calm hb hr rfl) stepR_inLoop)) harr₂⟩
  | exit id => exact ⟨_, a₁, w₁, hq, .pass (x := .inLoop c) rfl (fun _ _ => .inl (by simp)) harr⟩
  | goto l => exact ⟨_, a₁, w₁, hq, .pass (x := .inLoop c) rfl (fun _ _ => .inl (by simp)) harr⟩
  | ret => exact ⟨_, a₁, w₁, hq, .pass (x := .inLoop c) rfl (fun _ _ => .inl (by simp)) harr⟩
  | panic ch => exact ⟨_, a₁, w₁, hq, .pass (x := .inLoop c) rfl (fun _ _ => .inl (by simp)) harr⟩
  | outgrown => exact ⟨_, a₁, w₁, hq, .pass (x := .inLoop c) rfl (fun _ _ => .inl (by simp)) harr⟩
theorem wp_loop_at {F : Fence} {k : Nat} {c : Code} {Q : Exit → Act → World → Prop} {a : Act} {w : World} (h : LoopAt F k P c Q a w) : (Code.loop c).wpIn F k P Q a w := by
  intro b kk cs hro hb hr
  obtain ⟨e, a', w', hq, harr⟩ := h b kk cs hro hb hr
  exact ⟨e, a', w', hq, .of_steps (.one (fenced_calm hb hr rfl) stepR_loop) harr⟩

-- a scope, and a jump to one of its labels
theorem stepR_scope' {b : Frame} {a : Act} {k : List Item} {cs : List Frame} {w : World} {c : Code} : step P (lone (b.atR a (.code (.scope c) :: k)) cs w) = .next (lone (b.atR a (.code c :: .inScope c :: k)) cs w) :=
  step_lone_go (by simp [stepG, stepG.exec, Frame.atR])
theorem stepR_inScope' {b : Frame} {a : Act} {k : List Item} {cs : List Frame} {w : World} {c : Code} : step P (lone (b.atR a (.inScope c :: k)) cs w) = .next (lone (b.atR a k) cs w) :=
  step_lone_go (by simp [stepG, stepG.exec, Frame.atR])
/-- As Q; by a goto: what follows the label is walked, without another jump. -/
def jumpPost (F : Fence) (k : Nat) (P : Program) (c : Code) (Q : Exit → Act → World → Prop) : Exit → Act → World → Prop
  | .goto l, a, w => ∃ rest, findLabel c l = some rest ∧ rest.wpIn F k P (Exit.noGoto Q) a w
  | e, a, w => Q e a w
theorem wpIn_scope_jump {F : Fence} {n : Nat} {c : Code} {Q : Exit → Act → World → Prop} {a : Act} {w : World} (h : c.wpIn F n P (jumpPost F n P c Q) a w) : (Code.scope c).wpIn F n P Q a w := by
  intro b k cs hro hb hr
  have h0 : (lone (b.atR a (.code (.scope c) :: k)) cs w).fenced P F := fenced_calm hb hr rfl
  have key : ∀ (m : Machine) (e : Exit) (a₁ : Act) (w₁ : World), Exit.noGoto Q e a₁ w₁ → ArrivesIn (Machine.fenced P F) P m b (.inScope c :: k) cs e a₁ w₁ → ∃ e a' w', Q e a' w' ∧ ArrivesIn (Machine.fenced P F) P m b k cs e a' w' := by
    intro m e a₁ w₁ hq harr
    cases e with
    | normal => exact ⟨.normal, a₁, w₁, hq, StepsIn.trans harr (.one (fenced_calm hb hr rfl) stepR_inScope')⟩
    | exit id =>
      have hx : exitTo id (.inScope c :: k) = exitTo id k := by simp [exitTo]
      exact ⟨_, a₁, w₁, hq, fun k' hk => harr.1 k' (by rw [hx]; exact hk), fun hr' hk => harr.2 hr' (by rw [hx]; exact hk)⟩
    | goto l => exact hq.elim
    | ret => exact ⟨_, a₁, w₁, hq, harr⟩
    | panic ch => exact ⟨_, a₁, w₁, hq, harr⟩
    | outgrown => exact ⟨_, a₁, w₁, hq, harr⟩
  obtain ⟨e, a₁, w₁, hq, harr⟩ := h b (.inScope c :: k) cs hro hb hr
  have fin : ∀ (e : Exit) (a₁ : Act) (w₁ : World), Exit.noGoto Q e a₁ w₁ → ArrivesIn (Machine.fenced P F) P (lone (b.atR a (.code c :: .inScope c :: k)) cs w) b (.inScope c :: k) cs e a₁ w₁ →
      ∃ e a' w', Q e a' w' ∧ ArrivesIn (Machine.fenced P F) P (lone (b.atR a (.code (.scope c) :: k)) cs w) b k cs e a' w' := by
    intro e a₁ w₁ hq harr
    obtain ⟨e', a', w', hq', harr'⟩ := key _ e a₁ w₁ hq harr
    exact ⟨e', a', w', hq', .of_steps (.one h0 stepR_scope') harr'⟩
  cases e with
  | normal => exact fin .normal a₁ w₁ hq harr
  | exit id => exact fin (.exit id) a₁ w₁ hq harr
  | goto l =>
    obtain ⟨rest, hf, hrest⟩ := hq
    obtain ⟨e₂, a₂, w₂, hq₂, harr₂⟩ := hrest b (.inScope c :: k) cs hro hb hr
    have hg : gotoIn l (.inScope c :: k) = some (.code rest :: .inScope c :: k) := by simp [gotoIn, hf]
    exact fin e₂ a₂ w₂ hq₂ (.of_steps (harr.1 _ hg) harr₂)
  | ret => exact fin .ret a₁ w₁ hq harr
  | panic ch => exact fin (.panic ch) a₁ w₁ hq harr
  | outgrown => exact fin .outgrown a₁ w₁ hq harr

theorem exIdx_some {e : AExit} {st : St} : ∀ {l : List (AExit × Live)} {i0 i : Nat} {vs : List AV} {S : Heap}, exIdx e st i0 l = some (i, vs, S) →
    i0 ≤ i ∧ ∃ outs, l[i - i0]? = some (e, outs) ∧ reify st outs = some vs ∧ S = st.S
  | [], _, _, _, _, h => by cases h
  | (x, outs) :: l, i0, i, vs, S, h => by
    unfold exIdx at h
    split at h
    · rename_i hx
      subst hx
      split at h
      · rename_i q hq
        cases h
        exact ⟨Nat.le_refl _, outs, by simp, hq, rfl⟩
      · cases h
    · obtain ⟨h1, outs', h2, h3⟩ := exIdx_some h
      exact ⟨by omega, outs', by rw [show i - i0 = (i - (i0 + 1)) + 1 by omega, List.getElem?_cons_succ]; exact h2, h3⟩
theorem sel_exConts {K : AExit → St → Option β} {e : AExit} {outs : Live} {vs : List AV} {S : Heap} : ∀ {l : List (AExit × Live)} {i : Nat}, sel (exConts P n K l) i vs S = some r → l[i]? = some (e, outs) →
    K e (mkS n outs vs S) = some r
  | [], _, h, hi => by simp at hi
  | (x, o) :: l, 0, h, hi => by
    simp at hi
    obtain ⟨rfl, rfl⟩ := hi
    simp only [exConts, sel] at h
    exact mkSt_some h
  | (x, o) :: l, i + 1, h, hi => by
    simp only [exConts, sel] at h
    exact sel_exConts h (by simpa using hi)
/-- What the ways to go through loops, to compare looks and to cut heaps back must keep. -/
structure CtlOk (X : Ctl) : Prop where
  loop : ∀ step s x, X.loop step s = some x → LoopRel step s x
  same : ∀ ps, X.same ps = true → ∀ p ∈ ps, p.ok
  tr : ∀ S v S', X.tr S v S' = (v, S') ∨ (X.tr S v S' = (v, S) ∧ noId v = true ∧ S'.cx = S.cx ∧ ∀ i, i < S.next → S'.blk i = S.blk i)

theorem onlyNormal_some {outs : Live} {e : AExit} {st : St} {x : LSt} (h : onlyNormal outs e st = some x) : e = .normal ∧ reify st outs = some x.1 ∧ x.2 = st.S := by
  unfold onlyNormal at h
  split at h
  · split at h
    · rename_i vs hv; cases h; exact ⟨rfl, hv, rfl⟩
    · cases h
  · cases h

theorem exSel_some {K : AExit → Option β} {e : AExit} : ∀ {l : List AExit}, exSel l e K = some r → K e = some r
  | [], h => by cases h
  | x :: l, h => by
    unfold exSel at h
    split at h
    · rename_i hx; rw [hx]; exact h
    · exact exSel_some h
/-- What loops over functions come to is kept. -/
def RfOk (X : Ctl) (F : Fence) (k : Nat) (P : Program) (G : Nat → Option (List AV)) (C : CallF) (n : Nat) (M : Nat → Prop) (h0 : Base) (T : Tie) (g0 : Gam) : Prop :=
  ∀ (g : Operand) (ps : Array Tmp) (assign body : Code) (an : AnX) (st : St) (q : AExit × Heap) (a : Act) (w : World) (Q : Exit → Act → World → Prop), X.rf P G C n g ps assign body an st = some q →
    StR n M h0 T g0 st a w → (∀ a' w', StR n M h0 T g0 { st with S := q.2 } a' w' → Q (toExit q.1) a' w') → (Code.rangeFunc g ps assign body).wpIn F k P Q a w
/-- What jumps come to is kept. -/
def JfOk (X : Ctl) (F : Fence) (k : Nat) (P : Program) (G : Nat → Option (List AV)) (C : CallF) (n : Nat) (M : Nat → Prop) (h0 : Base) (T : Tie) (g0 : Gam) : Prop :=
  ∀ (c : Code) (l : Nat) (js : AnX) (exits : List (AExit × Live)) (st : St) (q : Nat × LSt), X.jf P G C n c l js exits st = some q → ∃ rest, findLabel c l = some rest ∧
    ∀ (a : Act) (w : World) (Q : Exit → Act → World → Prop), StR n M h0 T g0 st a w →
      (∀ e outs st' a' w', exits[q.1]? = some (e, outs) → reify st' outs = some q.2.1 → q.2.2 = st'.S → (∀ l, e ≠ .goto l) → StR n M h0 T g0 st' a' w' → Q (toExit e) a' w') → rest.wpIn F k P Q a w

structure Cond (X : Ctl) (F : Fence) (k : Nat) (P : Program) (G : Nat → Option (List AV)) (C : CallF) (n : Nat) (M : Nat → Prop) (h0 : Base) (T : Tie) (g0 : Gam) : Prop where
  ctl : CtlOk X
  fence : Open F
  hG : GOk G g0
  hC : CallOk P G C
  hY : YOk F P C M h0 T g0
  hD : DOk F C T
  rf : RfOk X F k P G C n M h0 T g0
  jf : JfOk X F k P G C n M h0 T g0
  mix : P.follows .mixedOrders = true

theorem ev_sound {X : Ctl} {F : Fence} {k : Nat} (c0 : Cond X F k P G C n M h0 T g0) : ∀ (c : Code) {β : Type} (an : AnX) (K : AExit → St → Option β) (r : β) (st : St) (a : Act) (w : World)
    (Q : Exit → Act → World → Prop), ev X P G C n c an K st = some r → StR n M h0 T g0 st a w → (∀ e st' a' w', K e st' = some r → StR n M h0 T g0 st' a' w' → Q (toExit e) a' w') → c.wpIn F k P Q a w
  | .skip, β, an, K, r, st, a, w, Q, h, R, hq => by unfold ev at h; exact wpIn_skip (hq _ _ _ _ h R)
  | .label l, β, an, K, r, st, a, w, Q, h, R, hq => by unfold ev at h; exact wpIn_label (hq _ _ _ _ h R)
  | .ret, β, an, K, r, st, a, w, Q, h, R, hq => by unfold ev at h; exact wpIn_ret (hq _ _ _ _ h R)
  | .exit id, β, an, K, r, st, a, w, Q, h, R, hq => by unfold ev at h; exact wpIn_exit (hq _ _ _ _ h R)
  | .goto l, β, an, K, r, st, a, w, Q, h, R, hq => by unfold ev at h; exact wpIn_goto (hq _ _ _ _ h R)
  | .region id ops draw, β, an, K, r, st, a, w, Q, h, R, hq => by
    unfold ev at h
    obtain ⟨st', h, R⟩ := freezeK_sound h R
    split at h
    · exact evReg_sound c0.fence c0.ctl.same c0.hG c0.hC c0.hY c0.hD c0.mix h R fun st' a' w' hk R' => hq _ _ _ _ hk R'
    · rename_i outs _
      simp only [bO_some] at h
      obtain ⟨x, hx, h⟩ := h
      have h := mkSt_some h
      refine evReg_sound c0.fence c0.ctl.same c0.hG c0.hC c0.hY c0.hD c0.mix hx R fun st2 a' w' hk R' => ?_
      obtain ⟨_, h1, h2⟩ := onlyNormal_some hk
      rw [h2] at h
      exact hq _ _ _ _ h (mkS_rel h1 R')
  | .seq x y, β, an, K, r, st, a, w, Q, h, R, hq => by
    unfold ev at h
    refine wpIn_seq (ev_sound c0 x _ _ r st a w _ h R fun e st' a' w' hk R' => ?_)
    cases e with
    | normal => exact ev_sound c0 y _ K r st' a' w' Q hk R' hq
    | exit i => exact hq _ _ _ _ hk R'
    | goto l => exact hq _ _ _ _ hk R'
    | ret => exact hq _ _ _ _ hk R'
  | .cond c x y, β, an, K, r, st, a, w, Q, h, R, hq => by
    unfold ev at h
    simp only [bO_some, asBool_some] at h
    obtain ⟨v, hv, t, rfl, h⟩ := h
    have hc : a.eval c = .bool t := by
      obtain ⟨M1, h1, g, be, B, le, he, hd, hcx, RR⟩ := R
      have := opv_rel (c0.hG.mono le) he hv
      simpa only [vrel] using this
    refine wpIn_cond hc ?_
    split at h
    · cases t with
      | true => exact ev_sound c0 x _ K r st a w Q h R hq
      | false => exact ev_sound c0 y _ K r st a w Q h R hq
    · rename_i outs _
      simp only [bO_some] at h
      obtain ⟨q, hx, h⟩ := h
      have h := mkSt_some h
      have post : ∀ e st' a' w', onlyNormal outs e st' = some q → StR n M h0 T g0 st' a' w' → Q (toExit e) a' w' := by
        intro e st' a' w' hk R'
        obtain ⟨rfl, h1, h2⟩ := onlyNormal_some hk
        rw [h2] at h
        exact hq _ _ _ _ h (mkS_rel h1 R')
      cases t with
      | true => exact ev_sound c0 x _ _ q st a w Q hx R post
      | false => exact ev_sound c0 y _ _ q st a w Q hx R post
  | .block id x, β, an, K, r, st, a, w, Q, h, R, hq => by
    unfold ev at h
    refine wpIn_block (ev_sound c0 x _ _ r st a w _ h R fun e st' a' w' hk R' => ?_)
    cases e with
    | normal => exact hq _ _ _ _ hk R'
    | exit i =>
      simp only [inBlk] at hk
      simp only [toExit, Exit.inBlock]
      split at hk
      · rename_i hi; rw [if_pos hi]; exact hq _ _ _ _ hk R'
      · rename_i hi; rw [if_neg hi]; exact hq _ _ _ _ hk R'
    | goto l => exact hq _ _ _ _ hk R'
    | ret => exact hq _ _ _ _ hk R'
  | .scope x, β, an, K, r, st, a, w, Q, h, R, hq => by
    unfold ev at h
    refine wpIn_scope_jump (ev_sound c0 x _ _ r st a w _ h R fun e st' a' w' hk R' => ?_)
    cases e with
    | normal => exact hq _ _ _ _ hk R'
    | exit i => exact hq _ _ _ _ hk R'
    | goto l =>
      simp only [inScope, bO_some] at hk
      obtain ⟨q, hj, hsel⟩ := hk
      obtain ⟨rest, hf, hrest⟩ := c0.jf _ _ _ _ _ _ hj
      refine ⟨rest, hf, hrest a' w' (Exit.noGoto Q) R' fun e outs st2 a2 w2 h1 h2 h3 h4 R2 => ?_⟩
      have hk2 := sel_exConts (e := e) (outs := outs) hsel h1
      rw [h3] at hk2
      have := hq e _ a2 w2 hk2 (mkS_rel h2 R2)
      cases e with
      | normal => exact this
      | exit _ => exact this
      | goto l => exact absurd rfl (h4 l)
      | ret => exact this
    | ret => exact hq _ _ _ _ hk R'
  | .loop x, β, an, K, r, st, a, w, Q, h, R, hq => by
    unfold ev at h
    simp only [bO_some] at h
    obtain ⟨vs, hvs, ⟨i, vs', S'⟩, hl, h⟩ := h
    have hl := c0.ctl.loop _ _ _ hl
    refine wp_loop_at ?_
    have key : ∀ (s : LSt) (q : Nat × LSt), LoopRel (fun s => mkSt P n an.live s.1 s.2 (ev X P G C n x an.sb (inRound an.live an.exits))) s q →
        sel (exConts P n K an.exits) q.1 q.2.1 q.2.2 = some r → ∀ a w, StR n M h0 T g0 (mkS n an.live s.1 s.2) a w → LoopAt F k P x Q a w := by
      intro s q hs hsel
      induction hs with
      | done hst =>
        rename_i s q
        intro a w R
        have hst := mkSt_some hst
        refine loopAt_of (ev_sound c0 x _ _ _ _ a w _ hst R fun e st' a' w' hk R' => ?_)
        have hex : e ≠ .normal ∧ exIdx e st' 0 an.exits = some q := by
          unfold inRound at hk
          split at hk
          · split at hk <;> cases hk
          · rename_i hne
            refine ⟨fun he => hne he, ?_⟩
            split at hk
            · rename_i y hy; cases hk; exact hy
            · cases hk
        obtain ⟨hne, hex⟩ := hex
        obtain ⟨i, vs, S⟩ := q
        obtain ⟨_, outs, h1, h2, h3⟩ := exIdx_some hex
        have hk2 := sel_exConts (e := e) (outs := outs) hsel (by simpa using h1)
        simp only at hk2
        rw [h3] at hk2
        have := hq e _ a' w' hk2 (mkS_rel h2 R')
        cases e with
        | normal => exact absurd rfl hne
        | exit _ => exact this
        | goto _ => exact this
        | ret => exact this
      | cont hst _ ih =>
        rename_i s s' q _
        intro a w R
        have hst := mkSt_some hst
        refine loopAt_of (ev_sound c0 x _ _ _ _ a w _ hst R fun e st' a' w' hk R' => ?_)
        unfold inRound at hk
        split at hk
        · split at hk
          · rename_i vs hvs
            cases hk
            exact ih hsel a' w' (mkS_rel hvs R')
          · cases hk
        · split at hk <;> cases hk
    exact key (vs, st.S) (i, vs', S') hl h a w (mkS_rel hvs R)
  | .rangeFunc g ps x y, β, an, K, r, st, a, w, Q, h, R, hq => by
    unfold ev at h
    simp only [bO_some] at h
    obtain ⟨q, hq1, h⟩ := h
    exact c0.rf _ _ _ _ _ _ _ _ _ _ hq1 R fun a' w' R' => hq _ _ _ _ (exSel_some h) R'
  | .refuse _, β, an, K, r, st, a, w, Q, h, R, hq => by unfold ev at h; cases h
end
end Go.Ab

/- A function: what the abstract machine says of a call, the model does. -/
namespace Go.Ab
section
variable {P : Program} {G : Nat → Option (List AV)} {C : CallF} {M : Nat → Prop} {h0 : Base} {g g0 : Gam} {be : Nat → Option Nat} {bx : Bx} {S : Heap} {w : World} {β : Type} {r : β}

def resVal (tmps : Array Value) : ResultVar → Sem Value
  | .tmp t => pure (tmps.getD t undef)
  | .cell s t => do loadVar t (← asAddr (tmps.getD s undef))
theorem results_eq (fn : Func) (tmps : Array Value) : results fn tmps = (fn.results.mapM (resVal tmps)) >>= fun vs => pure (if h : vs.size = 1 then vs[0] else .tuple vs) := rfl
theorem loadK_ptr {t : TypeId} {p : Ent} {v : Value} {K : Out → Option β} (hp : entrel g be p v) (h : loadK P t p bx S K = some r) : ∃ x, v = .pointer (some x) := by
  unfold loadK at h
  split at h
  · split at h
    · obtain ⟨b, _, hv⟩ := hp; exact ⟨_, hv⟩
    · rename_i a
      simp only [bO_some] at h
      obtain ⟨q, hq, _⟩ := h
      unfold seeV at hq
      split at hq
      · simp only [entrel, vrel] at hp; obtain ⟨x, hv, _⟩ := hp; exact ⟨x, hv⟩
      · simp only [entrel, vrel] at hp; obtain ⟨x, hv, _⟩ := hp; exact ⟨x, hv⟩
      · cases hq
  · cases h

theorem resK_sound {st : St} {a : Act} {K : AV → Option β} (RR : RW M h0 g be st.bx st.S w) (he : erel g be st.env a.tmps) {rv : ResultVar} (h : resK P st rv K = some r) :
    ∃ x v, K x = some r ∧ vrel g x v ∧ (resVal a.tmps rv).run P w = .ok v w := by
  have hget : ∀ t, entrel g be (st.env.getD t (.v .bot)) (a.tmps.getD t undef) := by
    intro t
    rw [List.getD_eq_getElem?_getD]
    cases hh : st.env[t]? with
    | none => simp [entrel, vrel]
    | some e => exact he.2 t e hh
  cases rv with
  | tmp t =>
    simp only [resK] at h
    split at h
    · rename_i x hx
      have := hget t
      rw [hx] at this
      exact ⟨x, _, h, this, by simp [resVal]⟩
    · cases h
  | cell s t =>
    simp only [resK] at h
    obtain ⟨y, hy⟩ := loadK_ptr (hget s) h
    obtain ⟨out, v, hk, hrun, hv, _, _⟩ := load_rel RR (hget s) h
    split at hk
    · rename_i x hx
      rw [hx] at hv
      refine ⟨x, v, hk, hv, ?_⟩
      simp only [resVal, hy] at hrun ⊢
      simpa [Instr.loadAt, Instr.sureAddr, asAddr] using hrun
    · cases hk

theorem resL_sound {st : St} {a : Act} (RR : RW M h0 g be st.bx st.S w) (he : erel g be st.env a.tmps) : ∀ {l : List ResultVar} {K : List AV → Option β}, resL P st l K = some r →
    ∃ xs vs, K xs = some r ∧ lrel g xs vs ∧ (l.mapM (resVal a.tmps)).run P w = .ok vs w
  | [], K, h => ⟨[], [], h, by simp [lrel], by simp⟩
  | rv :: l, K, h => by
    simp only [resL] at h
    obtain ⟨x, v, h, hv, hrun⟩ := resK_sound RR he h
    obtain ⟨xs, vs, hk, hvs, hruns⟩ := resL_sound (K := fun vs => K (x :: vs)) RR he h
    refine ⟨x :: xs, v :: vs, hk, by simp only [lrel]; exact ⟨v, vs, rfl, hv, hvs⟩, ?_⟩
    rw [List.mapM_cons]
    simp only [Sem.run_bind, hrun, Result.andThen_ok, hruns, Sem.run_pure]

theorem oneOf_rel {xs : List AV} {vs : List Value} (h : lrel g xs vs) : vrel g (oneOf xs) (if h : vs.toArray.size = 1 then vs.toArray[0] else .tuple vs.toArray) := by
  have hl := lrel_length h
  unfold oneOf
  split
  · rename_i x
    simp only [lrel] at h
    obtain ⟨v, r, rfl, h1, rfl⟩ := h
    simpa using h1
  · rename_i hne
    have : vs.toArray.size ≠ 1 := by
      simp only [List.size_toArray]
      intro h1
      rw [hl] at h1
      obtain ⟨x, rfl⟩ := List.length_eq_one_iff.1 h1
      exact hne x rfl
    rw [dif_neg this]
    simp only [vrel]
    exact ⟨vs, rfl, h⟩

-- what names no place of the heap
mutual
theorem vrel_noId {g g' : Gam} (hZ : ∀ b o v, g.Z b o = some v → g'.Z b o = some v) : ∀ (a : AV) (v : Value), noId a = true → vrel g a v → vrel g' a v
  | .bool _, _, _, e => e
  | .int _ _, _, _, e => e
  | .str _, _, _, e => e
  | .nilp, _, _, e => e
  | .ptr id off, v, h, e => by simp [noId] at h
  | .iptr cs, v, h, e => by
    simp only [noId] at h
    simp only [vrel] at e ⊢
    obtain ⟨x, hv, hz⟩ := e
    exact ⟨x, hv, zrel_noId hZ cs x h hz⟩
  | .nils, _, _, e => e
  | .hs id off len es, v, h, e => by simp [noId] at h
  | .is len cs, v, h, e => by
    simp only [noId] at h
    simp only [vrel] at e ⊢
    obtain ⟨x, cap, hv, hc, hz⟩ := e
    exact ⟨x, cap, hv, hc, zrel_noId hZ cs x h hz⟩
  | .nilf, _, _, e => e
  | .fn f a c, v, h, e => by
    simp only [noId, Bool.and_eq_true] at h
    simp only [vrel] at e ⊢
    obtain ⟨fs, cp, hv, h1, h2⟩ := e
    exact ⟨fs, cp, hv, lrel_noId hZ a fs h.1 h1, lrel_noId hZ c cp h.2 h2⟩
  | .agg cs, v, h, e => by
    simp only [noId] at h
    simp only [vrel] at e ⊢
    obtain ⟨vs, hv, h1⟩ := e
    exact ⟨vs, hv, lrel_noId hZ cs vs h h1⟩
  | .tup cs, v, h, e => by
    simp only [noId] at h
    simp only [vrel] at e ⊢
    obtain ⟨vs, hv, h1⟩ := e
    exact ⟨vs, hv, lrel_noId hZ cs vs h h1⟩
  | .yld y, v, h, e => by simp [noId] at h
  | .bot, _, _, _ => by simp only [vrel]
theorem lrel_noId {g g' : Gam} (hZ : ∀ b o v, g.Z b o = some v → g'.Z b o = some v) : ∀ (l : List AV) (vs : List Value), noIdL l = true → lrel g l vs → lrel g' l vs
  | [], _, _, e => e
  | a :: l, vs, h, e => by
    simp only [noIdL, Bool.and_eq_true] at h
    simp only [lrel] at e ⊢
    obtain ⟨v, r, hv, h1, h2⟩ := e
    exact ⟨v, r, hv, vrel_noId hZ a v h.1 h1, lrel_noId hZ l r h.2 h2⟩
theorem zrel_noId {g g' : Gam} (hZ : ∀ b o v, g.Z b o = some v → g'.Z b o = some v) : ∀ (l : List AV) (x : Addr), noIdL l = true → zrel g l x → zrel g' l x
  | [], _, _, _ => by simp only [zrel]
  | a :: l, x, h, e => by
    simp only [noIdL, Bool.and_eq_true] at h
    simp only [zrel] at e ⊢
    obtain ⟨hs, ⟨v, hz, h1⟩, h2⟩ := e
    exact ⟨hs, ⟨v, hZ _ _ _ hz, vrel_noId hZ a v h.1 h1⟩, zrel_noId hZ l _ h.2 h2⟩
end

-- what was known before names no place that has come since
mutual
theorem vrel_known {g g' g2 : Gam} (hp : ∀ id, g.phi id ≠ none → g2.phi id = g'.phi id) (hZ : ∀ b o v, g'.Z b o = some v → g2.Z b o = some v) (hy : ∀ y, g.yl y ≠ none → g2.yl y = g'.yl y) : ∀ (a : AV) (u v : Value), vrel g a u → vrel g' a v → vrel g2 a v
  | .bool _, _, _, _, e => e
  | .int _ _, _, _, _, e => e
  | .str _, _, _, _, e => e
  | .nilp, _, _, _, e => e
  | .ptr id off, u, v, h, e => by
    simp only [vrel] at h e ⊢
    obtain ⟨y, _, h⟩ := h
    have hn : g.phi id ≠ none := by rcases h with h | ⟨b, o, sz, h, _⟩ <;> rw [h] <;> simp
    rw [hp id hn]; exact e
  | .iptr cs, u, v, h, e => by
    simp only [vrel] at h e ⊢
    obtain ⟨y, _, h⟩ := h
    obtain ⟨x, hv, hz⟩ := e
    exact ⟨x, hv, zrel_known hp hZ hy cs y x h hz⟩
  | .nils, _, _, _, e => e
  | .hs id off len es, u, v, h, e => by
    simp only [vrel] at h e ⊢
    obtain ⟨y, c, _, _, h⟩ := h
    have hn : g.phi id ≠ none := by rcases h with h | h | ⟨b, o, sz, h, _⟩
                                    · rw [h]; simp
                                    · exact h.2
                                    · rw [h]; simp
    rw [hp id hn]; exact e
  | .is len cs, u, v, h, e => by
    simp only [vrel] at h e ⊢
    obtain ⟨y, c, _, _, h⟩ := h
    obtain ⟨x, cap, hv, hc, hz⟩ := e
    exact ⟨x, cap, hv, hc, zrel_known hp hZ hy cs y x h hz⟩
  | .nilf, _, _, _, e => e
  | .fn f a c, u, v, h, e => by
    simp only [vrel] at h e ⊢
    obtain ⟨fs', cp', _, k1, k2⟩ := h
    obtain ⟨fs, cp, hv, h1, h2⟩ := e
    exact ⟨fs, cp, hv, lrel_known hp hZ hy a fs' fs k1 h1, lrel_known hp hZ hy c cp' cp k2 h2⟩
  | .agg cs, u, v, h, e => by
    simp only [vrel] at h e ⊢
    obtain ⟨us, _, k⟩ := h
    obtain ⟨vs, hv, h1⟩ := e
    exact ⟨vs, hv, lrel_known hp hZ hy cs us vs k h1⟩
  | .tup cs, u, v, h, e => by
    simp only [vrel] at h e ⊢
    obtain ⟨us, _, k⟩ := h
    obtain ⟨vs, hv, h1⟩ := e
    exact ⟨vs, hv, lrel_known hp hZ hy cs us vs k h1⟩
  | .yld y, u, v, h, e => by
    simp only [vrel] at h e ⊢
    obtain ⟨l0, h0, _⟩ := h
    obtain ⟨l, h1, h2⟩ := e
    exact ⟨l, by rw [hy y (by rw [h0]; simp)]; exact h1, h2⟩
  | .bot, _, _, _, _ => by simp only [vrel]
theorem lrel_known {g g' g2 : Gam} (hp : ∀ id, g.phi id ≠ none → g2.phi id = g'.phi id) (hZ : ∀ b o v, g'.Z b o = some v → g2.Z b o = some v) (hy : ∀ y, g.yl y ≠ none → g2.yl y = g'.yl y) : ∀ (l : List AV) (us vs : List Value), lrel g l us → lrel g' l vs → lrel g2 l vs
  | [], _, _, _, e => e
  | a :: l, us, vs, h, e => by
    simp only [lrel] at h e ⊢
    obtain ⟨u, q, _, k1, k2⟩ := h
    obtain ⟨v, r, hv, h1, h2⟩ := e
    exact ⟨v, r, hv, vrel_known hp hZ hy a u v k1 h1, lrel_known hp hZ hy l q r k2 h2⟩
theorem zrel_known {g g' g2 : Gam} (hp : ∀ id, g.phi id ≠ none → g2.phi id = g'.phi id) (hZ : ∀ b o v, g'.Z b o = some v → g2.Z b o = some v) (hy : ∀ y, g.yl y ≠ none → g2.yl y = g'.yl y) : ∀ (l : List AV) (y x : Addr), zrel g l y → zrel g' l x → zrel g2 l x
  | [], _, _, _, _ => by simp only [zrel]
  | a :: l, y, x, h, e => by
    simp only [zrel] at h e ⊢
    obtain ⟨_, ⟨u, _, k1⟩, k2⟩ := h
    obtain ⟨hs, ⟨v, hz, h1⟩, h2⟩ := e
    exact ⟨hs, ⟨v, hZ _ _ _ hz, vrel_known hp hZ hy a u v k1 h1⟩, zrel_known hp hZ hy l _ _ k2 h2⟩
end

/-- The heap as it was: what has come anew is forgotten. -/
theorem trim_rel {X : Ctl} (hX : CtlOk X) {M0 : Nat → Prop} {h00 : Base} {g' : Gam} {S' : Heap} {v : AV} {x : Value} {w' : World} (R0 : RW M0 h00 g be bx S w) (le : g.le g') (R : RW M h0 g' be bx S' w') (hv : vrel g' v x) :
    ∃ g2, g.le g2 ∧ vrel g2 (X.tr S v S').1 x ∧ RW M h0 g2 be bx (X.tr S v S').2 w' ∧ (X.tr S v S').2.cx = S'.cx := by
  rcases hX.tr S v S' with he | ⟨he, hid, hcx, hS⟩ <;> rw [he]
  · exact ⟨g', le, hv, R, rfl⟩
  · skip
    let g2 : Gam := { phi := fun i => match g.phi i with | some _ => g'.phi i | none => none, Z := g'.Z, yl := fun y => match g.yl y with | some _ => g'.yl y | none => none }
    have hp : ∀ i x, g2.phi i = some x → g.phi i ≠ none ∧ g'.phi i = some x := by
      intro i x h
      simp only [g2] at h
      split at h
      · rename_i y hy; exact ⟨by rw [hy]; simp, h⟩
      · cases h
    have hk : ∀ id, g.phi id ≠ none → g2.phi id = g'.phi id := by
      intro id h
      simp only [g2]
      split
      · rfl
      · rename_i hn; exact absurd hn h
    have hlt : ∀ id, g.phi id ≠ none → id < S.next := by
      intro id h
      rcases Nat.lt_or_ge id S.next with hl | hl
      · exact hl
      · exact absurd (R0.fresh id hl) h
    have le2 : g.le g2 := ⟨fun i y hy => by
      have hn : g.phi i ≠ none := by rw [hy]; simp
      rw [hk i hn]; exact le.phi i y hy, le.Z, fun y l hy => by simp only [g2, hy]; exact le.yl y l hy⟩
    have blk : ∀ {cs b o sz b' o' sz'}, BlkAt g w cs b' o' sz' → BlkAt g' w' cs b o sz → BlkAt g2 w' cs b o sz := by
      intro cs b o sz b' o' sz' h k
      obtain ⟨_, _, _, _, _, _, _, h5⟩ := h
      obtain ⟨c, ty, fr, k1, k2, k3, k4, k5⟩ := k
      refine ⟨c, ty, fr, k1, k2, k3, k4, fun i a ha => ?_⟩
      obtain ⟨u, _, hu⟩ := h5 i a ha
      obtain ⟨v, hv, hr⟩ := k5 i a ha
      exact ⟨v, hv, vrel_known hk (fun _ _ _ h => h) (fun y hy => by simp only [g2]; split <;> first | rfl | (rename_i hn; exact absurd hn hy)) a u v hu hr⟩
    have old : ∀ id b o sz, g2.phi id = some (some (b, o, sz)) → g.phi id = some (some (b, o, sz)) := by
      intro id b o sz e
      obtain ⟨h1, h2⟩ := hp _ _ e
      cases hg : g.phi id with
      | none => exact absurd hg h1
      | some y =>
        rcases le.phi _ _ hg with h3 | h3
        · rw [h2] at h3; exact h3.symm
        · rw [h2] at h3; cases h3
    refine ⟨g2, le2, vrel_noId (g := g') (g' := g2) (fun b o v h => h) v x hid hv, ?_, hcx.symm⟩
    exact { R with
      live := fun id b o sz e => by
        obtain ⟨cs, h1, h2⟩ := R.live _ _ _ _ (hp _ _ e).2
        obtain ⟨cs0, k1, k2⟩ := R0.live _ _ _ _ (old _ _ _ _ e)
        rw [hS id (hlt id (hp _ _ e).1), k1] at h1
        cases h1
        exact ⟨cs, k1, blk k2 h2⟩
      dead := fun id e => by rw [← hS id (hlt id (hp _ _ e).1)]; exact R.dead _ (hp _ _ e).2
      yfresh := fun y e => by
        simp only [g2]
        split
        · rename_i hy; rw [R0.yfresh y e] at hy; cases hy
        · rfl
      fresh := fun id e => by
        cases hg : g2.phi id with
        | none => rfl
        | some y => exact absurd (R0.fresh id e) (hp _ _ hg).1
      box := fun s cs e => by
        obtain ⟨b, sz, h1, h2⟩ := R.box _ _ e
        obtain ⟨b', sz', k1, k2⟩ := R0.box _ _ e
        exact ⟨b, sz, h1, blk k2 h2⟩
      dist := fun id id' b o sz o' sz' e e' => R.dist _ _ _ _ _ _ _ (hp _ _ e).2 (hp _ _ e').2
      hdist := fun id s b o sz e => R.hdist _ s _ _ _ (hp _ _ e).2
      hZ := fun id b o sz x e => R.hZ _ _ _ _ x (hp _ _ e).2
      hM := fun id b o sz e => R.hM _ _ _ _ (hp _ _ e).2 }

-- what lies outside
/-- A block out of reach that holds no cells is written. -/
theorem RW.outside (R : RW M h0 g be bx S w) {b : Nat} (hb : ¬ M b) {o o' : Obj} (ho : w.heap[b]? = some o) (hnc : ∀ c e fz, o ≠ .cells c e fz) {w' : World} (hw : w'.heap = w.heap.setIfInBounds b o') (hk : Kin w w') :
    RW M { h0 with arr := h0.arr.setIfInBounds b o' } g be bx S w' := by
  have hlt : b < w.heap.size := (Array.getElem?_eq_some_iff.1 ho).1
  have hne : ∀ b', b' ≠ b → w'.heap[b']? = w.heap[b']? := fun b' h => by rw [hw, Array.getElem?_setIfInBounds_ne (Ne.symm h)]
  have hz : ∀ b' x v, g.Z b' x = some v → b' ≠ b := fun b' x v h e => by
    subst e
    have := R.zone _ _ _ h
    simp only [World.cell?, ho] at this
    cases o <;> first | exact absurd rfl (hnc _ _ _) | simp at this
  exact { R with
    zone := fun b' x v h => by rw [← R.zone _ _ _ h]; simp only [World.cell?, hne b' (hz _ _ _ h)]
    live := fun id b' x sz e => by
      obtain ⟨cs, h1, h2⟩ := R.live _ _ _ _ e
      exact ⟨cs, h1, h2.mono (.refl g) (hne b' fun hh => hb (hh ▸ R.hM _ _ _ _ e))⟩
    box := fun s cs e => by
      obtain ⟨b', sz, h1, h2⟩ := R.box _ _ e
      exact ⟨b', sz, h1, h2.mono (.refl g) (hne b' fun hh => hb (hh ▸ R.bM _ _ h1))⟩
    frame := fun b' hn => by
      by_cases he : b' = b
      · subst he
        have h1 := R.frame b' hn
        rw [ho] at h1
        have h2 : b' < h0.arr.size := (Array.getElem?_eq_some_iff.1 h1.symm).1
        rw [hw]
        simp [hlt, h2]
      · rw [hne b' he, R.frame b' hn]
        simp only
        rw [Array.getElem?_setIfInBounds_ne (Ne.symm he)]
    size := by simp only [Base.size, Array.size_setIfInBounds, hw]; exact R.size
    os := hk.1.trans R.os
    outp := hk.2.trans R.outp }

/-- The marks are taken off, one after another. -/
theorem leaves_marks {F : Fence} {k : Nat} {fn : Func} {tmps : Array Value} {Rp : Ending → World → Prop} {mk : Bool} {M1 : Nat → Prop} : ∀ {ds : List Deferred} {h1 : Base} {w : World}, Mrk mk M M1 h1 ds → RW M1 h1 g be bx S w →
    (∀ h1' w', (∀ b, ¬ M b → h1'.arr[b]? = h1.arr[b]?) → h1'.Z = h1.Z → h1'.size = h1.size → h1'.os = h1.os → h1'.output = h1.output → RW M1 h1' g be bx S w' → ∃ v, (results fn tmps).run P w' = .ok v w' ∧ Rp (.returned v) w') →
    LeavesInM F k P fn tmps Rp ds .returning w
  | [], h1, w, hm, R, hend => hend h1 w (fun _ _ => rfl) rfl rfl rfl rfl R
  | d :: ds, h1, w, hm, R, hend => by
    obtain ⟨b, hd, hMb, hnb, hob⟩ := hm.all d (by simp)
    have ho : w.heap[b]? = some (.deferred (some [])) := by rw [R.frame b hnb]; exact hob
    have hlt : b < w.heap.size := (Array.getElem?_eq_some_iff.1 ho).1
    refine ⟨by simp, .inl ⟨b, { w with heap := w.heap.setIfInBounds b (.deferred none) }, by rw [hd], ?_, ?_⟩⟩
    · exact run_takeDeferred ho
    · have R' := R.outside (o' := .deferred none) (w' := { w with heap := w.heap.setIfInBounds b (.deferred none) }) hnb ho (fun _ _ _ => by simp) rfl ⟨rfl, rfl⟩
      have hnd := List.nodup_cons.1 hm.nd
      refine leaves_marks (h1 := { h1 with arr := h1.arr.setIfInBounds b (.deferred none) }) ⟨hnd.2, fun _ => hm.ok (by simp), fun d' hd' => ?_⟩ R' fun h1' w' e1 e2 e3 e4 e5 R2 => hend h1' w' (fun b' hb' => ?_) e2 (e3.trans (by simp [Base.size])) e4 e5 R2
      · obtain ⟨b', h1, h2, h3, h4⟩ := hm.all d' (by simp [hd'])
        refine ⟨b', h1, h2, h3, ?_⟩
        have : b ≠ b' := fun e => hnd.1 (by subst e; rw [hd, ← h1]; exact hd')
        simp only
        rw [Array.getElem?_setIfInBounds_ne this]; exact h4
      · rw [e1 b' hb']
        have : b ≠ b' := fun e => hb' (e ▸ hMb)
        simp only
        rw [Array.getElem?_setIfInBounds_ne this]

/-- The beginning, with the loop's record as it is now. -/
def Base.now (h : Base) (T : Tie) (p : Option AExit) : Base := match T.tie with
  | none => h
  | some (l, lp) => { h with arr := h.arr.setIfInBounds l (recOf lp p) }
theorem Base.now_size {h : Base} {T : Tie} {p : Option AExit} : (h.now T p).size = h.size := by unfold Base.now; split <;> simp [Base.size]
theorem Base.now_Z {h : Base} {T : Tie} {p : Option AExit} : (h.now T p).Z = h.Z := by unfold Base.now; split <;> rfl
theorem Base.now_os {h : Base} {T : Tie} {p : Option AExit} : (h.now T p).os = h.os := by unfold Base.now; split <;> rfl
theorem Base.now_outp {h : Base} {T : Tie} {p : Option AExit} : (h.now T p).output = h.output := by unfold Base.now; split <;> rfl

theorem evFn_gen {X : Ctl} {T : Tie} {k : Nat} (hC0 : ∀ n M' h0', Cond X Fence.wide k P G C n M' h0' T g) {f : Nat} {fn : Func} {fa : FAn} {args : List AV} {r : AV × Heap} (hf : P.funcs[f]? = some fn)
    (h : evFn X P G C fn fa args S = some r) {args' : List Value} (hM : ∀ b, h0.size ≤ b → M b) (R : RW M h0 g be bx S w) (hargs : lrel g args args') (hT : T.cx = S.cx) (hdfr : T.dfr = false)
    (htie : ∀ l lp, T.tie = some (l, lp) → ¬ M l ∧ w.heap[l]? = some (recOf lp S.cx.1)) : fn.body ≠ none ∧
      Calls P f args'.toArray w fun e w' => ∃ v' g', e = .returned v' ∧ g.le g' ∧ vrel g' r.1 v' ∧ RW M (h0.now T r.2.cx.1) g' be bx r.2 w' ∧ (T.tie = none → r.2.cx = S.cx) ∧ r.2.cx.2 = S.cx.2 := by
  unfold evFn at h
  split at h
  · cases h
  · rename_i code hb
    refine ⟨by rw [hb]; simp, ?_⟩
    have h := normL_some h
    simp only [gB_some, decide_eq_true_eq] at h
    obtain ⟨hlen, h⟩ := h
    have hal := lrel_length hargs
    let M' : Nat → Prop := fun b => w.heap.size ≤ b ∨ ∃ id o sz, g.phi id = some (some (b, o, sz))
    let h0' : Base := ⟨w.heap, w.os, w.output, g.Z⟩
    have hM' : ∀ b, h0'.size ≤ b → M' b := fun b hb => .inl hb
    have MM : ∀ b, M' b → M b := by
      intro b hm
      rcases hm with hm | ⟨id, o, sz, hm⟩
      · exact hM b (Nat.le_trans R.size hm)
      · exact R.hM _ _ _ _ hm
    have R1 : RW M' h0' g (fun _ => none) (List.replicate fn.ntmps none) S w :=
      { R with
        box := fun s cs e => by rw [getD_replicate'] at e; cases e
        boxOf := fun s b e => by cases e
        bdist := fun s s' b e => by cases e
        hdist := fun id s b o sz e => by simp
        bZ := fun s b x e => by cases e
        hM := fun id b o sz e => .inr ⟨id, o, sz, e⟩
        bM := fun s b e => by cases e
        frame := fun b _ => rfl
        zM := fun b x _ => rfl
        size := Nat.le_refl _
        os := rfl
        outp := rfl }
    have B0 : Bel M' h0' T S.cx.1 M' h0' := ⟨hM', fun _ h => h, fun _ _ _ => rfl, fun _ _ _ => rfl, Nat.le_refl _, rfl, rfl, fun l lp e => ⟨fun h => (htie l lp e).1 (MM l h), (htie l lp e).2⟩⟩
    have St0 : StR fn.ntmps M' h0' T g ⟨args.map Ent.v ++ List.replicate (fn.ntmps - args.length) (Ent.v (.tup [])), List.replicate fn.ntmps none, S⟩
        { tmps := args'.toArray ++ Array.replicate (fn.ntmps - args'.toArray.size) undef, defers := [] } w := by
      refine ⟨M', h0', g, fun _ => none, B0, .refl g, ⟨by simp; omega, fun t e ht => ?_⟩, ⟨by unfold DefR; rw [if_neg (by rw [hdfr]; simp)]; exact ⟨by simp, by simp, by simp⟩, by simp; omega⟩, ⟨fun _ => by rw [hT], fun _ => by rw [hT]⟩, R1⟩
      simp only [Array.getD_eq_getD_getElem?]
      rcases Nat.lt_or_ge t args.length with hl | hl
      · rw [List.getElem?_append_left (by simpa using hl), List.getElem?_map] at ht
        cases ha : args[t]? with
        | none => rw [ha] at ht; cases ht
        | some a =>
          rw [ha] at ht
          cases ht
          obtain ⟨v, hv, hr⟩ := lrel_get t a hargs ha
          rw [Array.getElem?_append_left (by simp; omega)]
          simp only [List.getElem?_toArray, hv, Option.getD_some]
          exact hr
      · rw [List.getElem?_append_right (by simpa using hl)] at ht
        have := List.mem_of_getElem? ht
        simp only [List.mem_replicate] at this
        obtain ⟨_, rfl⟩ := this
        have hlt := (List.getElem?_eq_some_iff.1 ht).1
        simp only [List.length_map, List.length_replicate] at hlt
        rw [Array.getElem?_append_right (by simp; omega)]
        simp only [List.size_toArray]
        rw [Array.getElem?_replicate, if_pos (by omega)]
        simp only [Option.getD_some, entrel, vrel]
        exact ⟨[], rfl, by simp [lrel]⟩
    have c0 := hC0 fn.ntmps M' h0'
    refine callsIn_wide.1 (callsIn_of_wp_marks (n := k) hf hb trivial (ev_sound c0 code _ _ r _ _ w _ h St0 fun e st' a' w' hk R' => ?_))
    have fin : finish X P fn fa.frz S st' = some r → bodyPostM Fence.wide k P fn (fun e w' => ∃ v' g', e = .returned v' ∧ g.le g' ∧ vrel g' r.1 v' ∧ RW M (h0.now T r.2.cx.1) g' be bx r.2 w' ∧ (T.tie = none → r.2.cx = S.cx) ∧ r.2.cx.2 = S.cx.2) .ret a' w' := by
      intro hk
      obtain ⟨M1, h1, g1, be1, B1, le1, he1, hd1, hcx1, RR1⟩ := R'
      have hmk : Mrk T.marks M' M1 h1 a'.defers := by
        have := hd1.1
        unfold DefR at this
        rw [if_neg (by rw [hdfr]; simp)] at this
        exact this
      refine leaves_marks hmk RR1 fun h1' w2 e1 e2 e3 e4 e5 RR2 => ?_
      unfold finish at hk
      obtain ⟨xs, vs, hk, hvs, hrun⟩ := resL_sound RR2 he1 hk
      refine ⟨(if h : vs.toArray.size = 1 then vs.toArray[0] else .tuple vs.toArray), ?_, ?_⟩
      · rw [results_eq, Sem.run_bind]
        have : (fn.results.mapM (resVal a'.tmps)).run P w2 = .ok vs.toArray w2 := by
          rw [Array.mapM_eq_mapM_toList, Sem.run_map, hrun]
          rfl
        rw [this]
        simp
      · have hv1 := oneOf_rel hvs
        -- what lies outside is as it was, but for the loop's record
        have out : ∀ b, ¬ M' b → w2.heap[b]? = (h0'.now T st'.S.cx.1).arr[b]? := by
          intro b hn
          rw [RR2.frame b fun hm => hn (B1.sub b hm), e1 b hn]
          unfold Base.now
          split
          · rename_i ht
            exact B1.arr b hn fun l lp e => by rw [ht] at e; cases e
          · rename_i l lp ht
            simp only
            by_cases hbl : b = l
            · subst hbl
              rw [(B1.tie _ _ ht).2]
              have := (htie _ _ ht).2
              have hlt : b < w.heap.size := (Array.getElem?_eq_some_iff.1 this).1
              have hlt' : b < h0'.arr.size := hlt
              simp [hlt']
            · rw [Array.getElem?_setIfInBounds_ne (Ne.symm hbl)]
              exact B1.arr b hn fun l' lp' e => by rw [ht] at e; cases e; exact hbl
        have zout : ∀ (g2 : Gam) (S2 : Heap), RW M1 h1' g2 be1 st'.bx S2 w2 → ∀ b x, ¬ M' b → g2.Z b x = g.Z b x := by
          intro g2 S2 R2 b x hn
          rw [R2.zM b x fun hm => hn (B1.sub b hm), e2, B1.Z b x hn]
        -- back to the caller's state
        have back : ∀ (g2 : Gam) (S2 : Heap), g.le g2 → RW M1 h1' g2 be1 st'.bx S2 w2 → RW M (h0.now T st'.S.cx.1) g2 be bx S2 w2 := by
          intro g2 S2 le2 R2
          have nM : ∀ s b, be s = some b → ¬ M' b := by
            intro s b hs hm
            rcases hm with hm | ⟨id, o, sz, hm⟩
            · obtain ⟨cs, hc⟩ := R.boxOf _ _ hs
              obtain ⟨b', sz, h1, h2⟩ := R.box _ _ hc
              rw [hs] at h1; cases h1
              have := h2.lt
              omega
            · exact R.hdist _ _ _ _ _ hm hs
          have nl : ∀ b l lp, T.tie = some (l, lp) → M b → b ≠ l := fun b l lp ht hm e => (htie l lp ht).1 (e ▸ hm)
          have keep : ∀ b, ¬ M' b → (∀ l lp, T.tie = some (l, lp) → b ≠ l) → w2.heap[b]? = w.heap[b]? := by
            intro b hn hl
            rw [out b hn]
            unfold Base.now
            split
            · rfl
            · rename_i l lp ht
              simp only
              rw [Array.getElem?_setIfInBounds_ne (Ne.symm (hl l lp ht))]
          exact { R2 with
            box := fun s cs e => by
              obtain ⟨b, sz, h1, h2⟩ := R.box _ _ e
              exact ⟨b, sz, h1, h2.mono le2 (keep b (nM s b h1) fun l lp ht => nl b l lp ht (R.bM _ _ h1))⟩
            boxOf := fun s b e => R.boxOf s b e
            bdist := fun s s' b e e' => R.bdist s s' b e e'
            hdist := fun id s b o sz e hs => nM s b hs (B1.sub b (R2.hM _ _ _ _ e))
            bZ := fun s b x e => by rw [zout g2 S2 R2 b x (nM s b e)]; exact R.bZ s b x e
            hM := fun id b o sz e => MM b (B1.sub b (R2.hM _ _ _ _ e))
            bM := fun s b e => R.bM s b e
            frame := fun b hn => by
              rw [out b fun hm => hn (MM b hm)]
              unfold Base.now
              split
              · exact R.frame b hn
              · rename_i l lp ht
                simp only
                by_cases hbl : b = l
                · subst hbl
                  have h3 := (htie _ _ ht).2
                  have hlt : b < w.heap.size := (Array.getElem?_eq_some_iff.1 h3).1
                  have hlt' : b < h0'.arr.size := hlt
                  have h4 := R.frame b hn
                  rw [h3] at h4
                  have hlt2 : b < h0.arr.size := (Array.getElem?_eq_some_iff.1 h4.symm).1
                  simp [hlt', hlt2]
                · rw [Array.getElem?_setIfInBounds_ne (Ne.symm hbl), Array.getElem?_setIfInBounds_ne (Ne.symm hbl)]
                  exact R.frame b hn
            zM := fun b x hn => by rw [zout g2 S2 R2 b x fun hm => hn (MM b hm), Base.now_Z]; exact R.zM b x hn
            size := by rw [Base.now_size]; exact Nat.le_trans R.size (Nat.le_trans B1.size (by rw [← e3]; exact R2.size))
            os := by rw [Base.now_os]; exact R2.os.trans (e4.trans (B1.os.trans R.os))
            outp := by rw [Base.now_outp]; exact R2.outp.trans (e5.trans (B1.outp.trans R.outp)) }
        have done : ∀ (a : AV) (S2 : Heap) (g2 : Gam), S2.cx = st'.S.cx → g.le g2 → vrel g2 a (if h : vs.toArray.size = 1 then vs.toArray[0] else .tuple vs.toArray) → RW M1 h1' g2 be1 st'.bx S2 w2 → some (X.tr S a S2) = some r →
            ∃ v' g', (Ending.returned (if h : vs.toArray.size = 1 then vs.toArray[0] else .tuple vs.toArray)) = .returned v' ∧ g.le g' ∧ vrel g' r.1 v' ∧ RW M (h0.now T r.2.cx.1) g' be bx r.2 w2 ∧ (T.tie = none → r.2.cx = S.cx) ∧ r.2.cx.2 = S.cx.2 := by
          intro a S2 g2 hcx le2 hv2 R2 hr
          cases hr
          obtain ⟨g3, le3, hv3, R3, hc3⟩ := trim_rel c0.ctl R le2 (back g2 S2 le2 R2) hv2
          have h2 := hcx1.2 hdfr
          rw [hT] at h2
          refine ⟨_, g3, rfl, le3, hv3, by rw [hc3, hcx]; exact R3, fun ht => ?_, by rw [hc3, hcx]; exact h2⟩
          rw [hc3, hcx]
          have h1 := hcx1.1 ht
          rw [hT] at h1
          exact Prod.ext h1 h2
        split at hk
        · simp only [bO_some] at hk
          obtain ⟨⟨q, S2⟩, hfz, hk⟩ := hk
          obtain ⟨g2, le2, hv2, R2⟩ := fz_rel 40 _ _ _ _ _ _ RR2 hv1 hfz
          exact done q S2 g2 (fz_cx _ _ _ _ _ hfz) (le1.trans le2) hv2 R2 hk
        · exact done _ _ g1 rfl le1 hv1 RR2 hk
    cases e with
    | normal => exact fin hk
    | ret => exact fin hk
    | exit i => cases hk
    | goto l => cases hk

end
end Go.Ab

/- Loops over functions, jumps to labels: what the abstract machine comes to, the walk comes to; functions that hold them. -/
namespace Go.Ab

/-- Calls of functions, and of nothing else. -/
structure NOk (P : Program) (G : Nat → Option (List AV)) (C : CallF) : Prop where
  ok : CallOk P G C
  none : ∀ f way args S, yldId ≤ f → C f way args S = none

/-- A control, with what it says of loops and jumps. -/
structure XOk (X : Ctl) (P : Program) (G : Nat → Option (List AV)) : Prop where
  ctl : CtlOk X
  rf : ∀ k C n M h0 T g0, P.follows .mixedOrders = true → GOk G g0 → NOk P G C → T.tie = none → T.dfr = false → T.marks = true → RfOk X Fence.wide k P G C n M h0 T g0
  jf : ∀ F k C n M h0 T g0, Open F → P.follows .mixedOrders = true → GOk G g0 → NOk P G C → T.dfr = false → JfOk X F k P G C n M h0 T g0

section
variable {P : Program} {G : Nat → Option (List AV)} {C : CallF} {n : Nat} {M : Nat → Prop} {h0 : Base} {T : Tie} {g0 g : Gam} {be : Nat → Option Nat} {bx : Bx} {S : Heap} {w : World} {β : Type} {r : β}

theorem NOk.hY (h : NOk P G C) {F : Fence} : YOk F P C M h0 T g0 := fun way args S r e => by rw [h.none _ _ _ _ (Nat.le_refl _)] at e; cases e
theorem NOk.hD (h : NOk P G C) {F : Fence} : DOk F C T := fun f as S r e => by rw [h.none _ _ _ _ (by unfold yldId dfrId; omega)] at e; cases e

theorem evFn_sound {X : Ctl} (hX : XOk X P G) (hmix : P.follows .mixedOrders = true) (hC : NOk P G C) {f : Nat} {fn : Func} {fa : FAn} {args : List AV} {r : AV × Heap} (hf : P.funcs[f]? = some fn)
    (h : evFn X P G C fn fa args S = some r) : fn.body ≠ none ∧ ∀ (M : Nat → Prop) (h0 : Base) (g : Gam) (be : Nat → Option Nat) (bx : Bx) (w : World) (args' : List Value),
      (∀ b, h0.size ≤ b → M b) → GOk G g → RW M h0 g be bx S w → lrel g args args' →
      Calls P f args'.toArray w fun e w' => ∃ v' g', e = .returned v' ∧ g.le g' ∧ vrel g' r.1 v' ∧ RW M h0 g' be bx r.2 w' ∧ r.2.cx = S.cx := by
  have hb : fn.body ≠ none := by
    unfold evFn at h
    split at h
    · cases h
    · rename_i hb; rw [hb]; simp
  refine ⟨hb, fun M h0 g be bx w args' hM hG R hargs => ?_⟩
  have := (evFn_gen (k := 0) (T := { tie := none, dfr := false, marks := true, cx := S.cx }) (fun n M' h0' => { ctl := hX.ctl, fence := rfl, hG := hG, hC := hC.ok, hY := hC.hY, hD := hC.hD, rf := hX.rf _ _ _ _ _ _ _ hmix hG hC rfl rfl rfl, jf := hX.jf _ _ _ _ _ _ _ _ rfl hmix hG hC rfl, mix := hmix })
    hf h hM R hargs rfl rfl (fun l lp e => by cases e)).2
  refine Calls.mono this fun e w' he => ?_
  obtain ⟨v', g', h1, h2, h3, h4, h5, h6⟩ := he
  exact ⟨v', g', h1, h2, h3, h4, h5 rfl⟩

-- jumps to labels
/-- What follows a label, once, up to the way out. -/
def jfOf (X : Ctl) : Program → (Nat → Option (List AV)) → CallF → Nat → Code → Nat → AnX → List (AExit × Live) → St → Option (Nat × LSt) := fun P G C n c l js exits st =>
  match findLabel c l with
  | some rest => ev X P G C n rest js (fun e st' => match e with | .goto _ => none | e => exIdx e st' 0 exits) st
  | none => none
/-- No loops over functions, no jumps. -/
def plainC (X : Ctl) : Ctl := { loop := X.loop, same := X.same, tr := X.tr }
theorem plain_ok {X : Ctl} (h : CtlOk X) : CtlOk (plainC X) := ⟨h.loop, h.same, h.tr⟩
theorem plain_rf {X : Ctl} {F : Fence} {k : Nat} : RfOk (plainC X) F k P G C n M h0 T g0 := fun _ _ _ _ _ _ _ _ _ _ h => by cases h
theorem plain_jf {X : Ctl} {F : Fence} {k : Nat} : JfOk (plainC X) F k P G C n M h0 T g0 := fun _ _ _ _ _ _ h => by cases h

theorem jfOf_ok {X : Ctl} {F : Fence} {k : Nat} (c0 : Cond X F k P G C n M h0 T g0) {Y : Ctl} (hY : Y.jf = jfOf X) : JfOk Y F k P G C n M h0 T g0 := by
  intro c l js exits st q h
  rw [hY] at h
  unfold jfOf at h
  split at h
  · rename_i rest hf
    refine ⟨rest, hf, fun a w Q R hq => ?_⟩
    refine ev_sound c0 rest js _ q st a w Q h R fun e st' a' w' hk R' => ?_
    have hk2 : (∀ l, e ≠ .goto l) ∧ exIdx e st' 0 exits = some q := by
      cases e with
      | goto l => cases hk
      | normal => exact ⟨fun _ => by simp, hk⟩
      | exit _ => exact ⟨fun _ => by simp, hk⟩
      | ret => exact ⟨fun _ => by simp, hk⟩
    obtain ⟨i, vs, S⟩ := q
    obtain ⟨_, outs, h1, h2, h3⟩ := exIdx_some hk2.2
    exact hq e outs st' a' w' (by simpa using h1) h2 h3 hk2.1 R'
  · cases h

-- loops over functions
def noRef : Ent → Ent
  | .v a => .v a
  | .ref _ _ => .v .bot
def setPs : List Tmp → List AV → List Ent → List Ent
  | p :: ps, a :: as', env => setPs ps as' (env.set p (.v a))
  | _, _, env => env
/-- One round: the loop's variables are set, its body is gone through; the way out is kept. -/
def ready {β : Type} (S : Heap) (o : Option β) : Option β := match S.cx.1 with | some _ => none | none => o
def left (S : Heap) (e : AExit) : Heap := { S with cx := (some e, S.cx.2) }
def roundOf (X : Ctl) (P : Program) (G : Nat → Option (List AV)) (C : CallF) (n : Nat) (ps : List Tmp) (assign body : Code) (ra rb : AnX) (env : List Ent) (args : List AV) (S : Heap) : Option (AV × Heap) :=
  takeN ps.length args fun args => ready S <| ev X P G C n assign ra (fun e st => match e with
      | .normal => ev X P G C n body rb (fun e st => match e with
          | .normal => some (.bool true, st.S)
          | e => some (.bool false, left st.S e)) st
      | _ => none) ⟨setPs ps args (env.map noRef), List.replicate n none, S⟩
theorem takeN_some : ∀ {n : Nat} {l : List AV} {K : List AV → Option β} {r : β}, takeN n l K = some r → l.length = n ∧ K l = some r
  | 0, l, K, r, h => by
    unfold takeN asNil at h
    split at h
    · exact ⟨rfl, h⟩
    · cases h
  | n + 1, l, K, r, h => by
    unfold takeN at h
    simp only [asCons_some] at h
    obtain ⟨a, t, rfl, h⟩ := h
    obtain ⟨h1, h2⟩ := takeN_some (K := fun r' => K (a :: r')) h
    exact ⟨by simp [h1], h2⟩
theorem ready_some {S : Heap} {o : Option β} {r : β} (h : ready S o = some r) : S.cx.1 = none ∧ o = some r := by
  unfold ready at h
  split at h
  · cases h
  · rename_i hc; exact ⟨hc, h⟩
theorem asNil_some {l : List AV} {o : Option β} {r : β} (h : asNil l o = some r) : l = [] ∧ o = some r := by
  unfold asNil at h
  split at h
  · exact ⟨rfl, h⟩
  · cases h
theorem asFn_some {fid : Nat} {a : AV} {f : List AV → List AV → Option β} {r : β} (h : asFn fid a f = some r) : ∃ first cap, a = .fn fid first cap ∧ f first cap = some r := by
  unfold asFn at h
  split at h
  · split at h
    · rename_i he; subst he; exact ⟨_, _, rfl, h⟩
    · cases h
  · cases h
def withY (C : CallF) (y : Nat) (Y : List AV → Heap → Option (AV × Heap)) : CallF := fun f way args S => if f = yldId then (if way = y then Y args S else none) else C f way args S
/-- What the function that was ranged over has left: the pending jump, and what was there beside. -/
def endIt (cx : Cx) (r : AV × Heap) : AExit × Heap := match r.2.cx.1 with
  | none => (.normal, { r.2 with cx := cx })
  | some e => (e, { r.2 with cx := cx })
def begIt (S : Heap) : Heap := { S with next := S.next + 1, cx := (none, S.cx.2) }
def rfOf (X : Ctl) : Program → (Nat → Option (List AV)) → CallF → Nat → Operand → Array Tmp → Code → Code → AnX → St → Option (AExit × Heap) := fun P G C n g ps assign body an st =>
  bO (opv G st.env g) fun f => asFn an.fid f fun first cap => asNil first (takeN an.ncap cap fun cap => if yldId ≤ an.fid then none else (match P.funcs[an.fid]? with
    | some fn => if fn.name == "runtime.NumGoroutine" then none else
      bO (evFn (plainC X) P G (withY C st.S.next (roundOf (plainC X) P G C n ps.toList assign body an.ra an.rb st.env)) fn ⟨an.it, false, false⟩ (.yld st.S.next :: cap) (begIt st.S)) fun r => some (endIt st.S.cx r)
    | none => none))

theorem toCode_wp {F : Fence} {k : Nat} {Q : Exit → Act → World → Prop} {a : Act} {w : World} {e : AExit} (h : Q (toExit e) a w) : (toCode e).wpIn F k P Q a w := by
  cases e with
  | normal => exact wpIn_skip h
  | exit id => exact wpIn_exit h
  | goto l => exact wpIn_goto h
  | ret => exact wpIn_ret h

theorem setPs_rel : ∀ {ps : List Tmp} {args : List AV} {vs : List Value} {env : List Ent} {tmps : Array Value}, erel g be env tmps → lrel g args vs → args.length = ps.length →
    erel g be (setPs ps args env) ((ps.zip vs).foldl (fun t p => t.setIfInBounds p.1 p.2) tmps)
  | [], args, vs, env, tmps, he, ha, hl => by simp only [List.zip_nil_left, List.foldl_nil, setPs]; exact he
  | p :: ps, [], vs, env, tmps, he, ha, hl => by simp at hl
  | p :: ps, a :: args, vs, env, tmps, he, ha, hl => by
    simp only [lrel] at ha
    obtain ⟨v, q, rfl, h1, h2⟩ := ha
    simp only [List.zip_cons_cons, List.foldl_cons, setPs]
    refine setPs_rel ?_ h2 (by simpa using hl)
    exact erel_put (a := { tmps := tmps, defers := [] }) (e := .v a) he h1 (some p)

theorem foldl_size : ∀ (l : List (Tmp × Value)) (t : Array Value), (l.foldl (fun t p => t.setIfInBounds p.1 p.2) t).size = t.size
  | [], _ => rfl
  | p :: l, t => by simp only [List.foldl_cons]; rw [foldl_size l]; simp
/-- What a call may reach: new blocks, and those of the heap. -/
def InReach (g : Gam) (w : World) (b : Nat) : Prop := w.heap.size ≤ b ∨ ∃ id o sz, g.phi id = some (some (b, o, sz))
theorem InReach.sub (R : RW M h0 g be bx S w) (hM : ∀ b, h0.size ≤ b → M b) {b : Nat} (h : InReach g w b) : M b := by
  rcases h with hm | ⟨id, o, sz, hm⟩
  · exact hM b (Nat.le_trans R.size hm)
  · exact R.hM _ _ _ _ hm
theorem start_frame (R : RW M h0 g be bx S w) (n : Nat) : RW (InReach g w) ⟨w.heap, w.os, w.output, g.Z⟩ g (fun _ => none) (List.replicate n none) S w :=
  { R with
    box := fun s cs e => by rw [getD_replicate'] at e; cases e
    boxOf := fun s b e => by cases e
    bdist := fun s s' b e => by cases e
    hdist := fun id s b o sz e => by simp
    bZ := fun s b x e => by cases e
    hM := fun id b o sz e => .inr ⟨id, o, sz, e⟩
    bM := fun s b e => by cases e
    frame := fun b _ => rfl
    zM := fun b x _ => rfl
    size := Nat.le_refl _
    os := rfl
    outp := rfl }
theorem back_frame (R : RW M h0 g be bx S w) (hM : ∀ b, h0.size ≤ b → M b) {l : Nat} (hl : ¬ M l) {M1 : Nat → Prop} {h1 h2 : Base} {g2 : Gam} {be1 : Nat → Option Nat} {bx1 : Bx} {S2 : Heap} {w2 : World} (le2 : g.le g2)
    (R2 : RW M1 h1 g2 be1 bx1 S2 w2) (sub : ∀ b, M1 b → InReach g w b) (out : ∀ b, ¬ InReach g w b → b ≠ l → w2.heap[b]? = w.heap[b]?) (zout : ∀ b x, ¬ InReach g w b → h1.Z b x = g.Z b x) (hs : w.heap.size ≤ h1.size) (hos : h1.os = w.os) (hout : h1.output = w.output)
    (fr : ∀ b, ¬ M b → w2.heap[b]? = h2.arr[b]?) (hZ : h2.Z = h0.Z) (h2s : h2.size = h0.size) (h2o : h2.os = h0.os) (h2u : h2.output = h0.output) : RW M h2 g2 be bx S2 w2 := by
  have nM : ∀ s b, be s = some b → ¬ InReach g w b := by
    intro s b hs hm
    rcases hm with hm | ⟨id, o, sz, hm⟩
    · obtain ⟨cs, hc⟩ := R.boxOf _ _ hs
      obtain ⟨b', sz, h1, h2⟩ := R.box _ _ hc
      rw [hs] at h1; cases h1
      have := h2.lt
      omega
    · exact R.hdist _ _ _ _ _ hm hs
  exact { R2 with
    box := fun s cs e => by
      obtain ⟨b, sz, h1, h2⟩ := R.box _ _ e
      exact ⟨b, sz, h1, h2.mono le2 (out b (nM s b h1) fun e => hl (e ▸ R.bM _ _ h1))⟩
    boxOf := fun s b e => R.boxOf s b e
    bdist := fun s s' b e e' => R.bdist s s' b e e'
    hdist := fun id s b o sz e hs => nM s b hs (sub b (R2.hM _ _ _ _ e))
    bZ := fun s b x e => by rw [R2.zM b x fun hm => nM s b e (sub b hm), zout b x (nM s b e)]; exact R.bZ s b x e
    hM := fun id b o sz e => InReach.sub R hM (sub b (R2.hM _ _ _ _ e))
    bM := fun s b e => R.bM s b e
    frame := fr
    zM := fun b x hn => by rw [R2.zM b x fun hm => hn (InReach.sub R hM (sub b hm)), zout b x fun hm => hn (InReach.sub R hM hm), hZ]; exact R.zM b x hn
    size := by rw [h2s]; exact Nat.le_trans R.size (Nat.le_trans hs R2.size)
    os := by rw [h2o]; exact R2.os.trans (hos.trans R.os)
    outp := by rw [h2u]; exact R2.outp.trans (hout.trans R.outp) }

theorem noRef_rel {be2 : Nat → Option Nat} {g2 : Gam} {env : List Ent} {tmps : Array Value} (h : erel g be env tmps) (le : g.le g2) : erel g2 be2 (env.map noRef) tmps := by
  refine ⟨by simp [h.1], fun t e ht => ?_⟩
  rw [List.getElem?_map] at ht
  cases hx : env[t]? with
  | none => rw [hx] at ht; cases ht
  | some x =>
    rw [hx] at ht
    cases ht
    have := h.2 t x hx
    cases x with
    | v a => exact vrel_mono le a _ this
    | ref s o => simp only [noRef, entrel, vrel]

theorem mrk_set {mk : Bool} {M M1 : Nat → Prop} {h1 : Base} {ds : List Deferred} (m : Mrk mk M M1 h1 ds) {l : Nat} {lp : Loop} (hl : h1.arr[l]? = some (.loop lp)) (o : Obj) : Mrk mk M M1 { h1 with arr := h1.arr.setIfInBounds l o } ds :=
  ⟨m.nd, m.ok, fun d hd => by
    obtain ⟨b, e1, e0, e2, e3⟩ := m.all d hd
    refine ⟨b, e1, e0, e2, ?_⟩
    have : l ≠ b := fun e => by subst e; rw [hl] at e3; cases e3
    simp only
    rw [Array.getElem?_setIfInBounds_ne this]; exact e3⟩

theorem round_ok {X : Ctl} (hX : CtlOk X) (hmix : P.follows .mixedOrders = true) (hG : GOk G g0) (hC : NOk P G C) {l y : Nat} {lp : Loop} {env0 : List Ent} {be0 : Nat → Option Nat} {ra rb : AnX} (ht : T.tie = some (l, lp)) (hyl : g0.yl y = some l)
    (he0 : erel g0 be0 env0 lp.tmps) (hn : lp.tmps.size = n) : YOk Fence.wide P (withY C y (roundOf (plainC X) P G C n lp.params.toList lp.assign lp.body ra rb env0)) M h0 T g0 := by
  intro way args S r h
  unfold withY at h
  rw [if_pos rfl] at h
  have hway : way = y := by
    by_cases e : way = y
    · exact e
    · rw [if_neg e] at h; cases h
  subst hway
  rw [if_pos rfl] at h
  refine ⟨l, lp, ht, hyl, fun M1 h1 g be bx w args' k B le R hargs => ?_⟩
  unfold roundOf at h
  obtain ⟨hlen, h⟩ := takeN_some h
  obtain ⟨hcx, h⟩ := ready_some h
  have hal := lrel_length hargs
  obtain ⟨hnl, hrec⟩ := B.tie _ _ ht
  rw [hcx] at hrec
  have hnl1 : ¬ M1 l := fun hm => hnl (B.sub l hm)
  have hw : w.heap[l]? = some (.loop { lp with state := .ready, pending := none }) := by rw [R.frame l hnl1]; exact hrec
  have hlt : l < w.heap.size := (Array.getElem?_eq_some_iff.1 hw).1
  have hnr : ¬ InReach g w l := fun hm => hnl1 (InReach.sub R B.top hm)
  refine ⟨(lp.params.zip args'.toArray).foldl (fun tmps (t, a) => tmps.setIfInBounds t a) lp.tmps, run_yield (r := { lp with state := .ready, pending := none }) hw (by simpa using (hal.trans hlen)), roundIn_of_wpIn trivial ?_⟩
  let ha : Base := ⟨w.heap, w.os, w.output, g.Z⟩
  let Ta : Tie := { tie := none, dfr := false, marks := false, cx := S.cx }
  have cond : ∀ hb : Base, Cond (plainC X) (Fence.wide.inRound l) k P G C n (InReach g w) hb Ta g := fun hb =>
    { ctl := plain_ok hX, fence := rfl, hG := hG.mono le, hC := hC.ok, hY := hC.hY, hD := hC.hD, rf := plain_rf, jf := plain_jf, mix := hmix }
  have Sa : StR n (InReach g w) ha Ta g ⟨setPs lp.params.toList args (env0.map noRef), List.replicate n none, S⟩
      { tmps := (lp.params.zip args'.toArray).foldl (fun tmps (t, a) => tmps.setIfInBounds t a) lp.tmps, defers := [] } w := by
    refine ⟨InReach g w, ha, g, fun _ => none, ⟨fun b hb => .inl hb, fun _ h => h, fun _ _ _ => rfl, fun _ _ => by intros; rfl, Nat.le_refl _, rfl, rfl, fun l lp e => by cases e⟩, .refl g, ?_, ⟨by unfold DefR; rw [if_neg (by simp [Ta])]; exact ⟨by simp, by simp, by simp⟩, ?_⟩,
      ⟨fun _ => rfl, fun _ => rfl⟩, start_frame R n⟩
    · have := setPs_rel (ps := lp.params.toList) (noRef_rel (be2 := fun _ => none) he0 le) hargs hlen
      rw [← Array.foldl_toList]
      simpa using this
    · rw [← Array.foldl_toList]; rw [foldl_size]; exact hn
  refine ev_sound (cond ha) lp.assign ra _ r _ _ w _ h Sa fun e st1 a1 w1 hk R1 => ?_
  cases e with
  | exit i => cases hk
  | goto i => cases hk
  | ret => cases hk
  | normal =>
    simp only [toExit, Exit.then]
    obtain ⟨M2, h2, g2, be2, B2, le2, he2, hd2, hcx2, RR2⟩ := R1
    have hn2 : ¬ M2 l := fun hm => hnr (B2.sub l hm)
    have ha2 : h2.arr[l]? = some (.loop { lp with state := .ready, pending := none }) := by
      rw [B2.arr l hnr fun l lp e => by cases e]; exact hw
    have hw1 : w1.heap[l]? = some (.loop { lp with state := .ready, pending := none }) := by rw [RR2.frame l hn2]; exact ha2
    have hl2 : l < h2.arr.size := (Array.getElem?_eq_some_iff.1 ha2).1
    let busy : Obj := .loop { lp with state := .busy, pending := none }
    refine ⟨w1.putObj l busy, run_beginRound hw1 rfl, ?_⟩
    let hb : Base := { ha with arr := ha.arr.setIfInBounds l busy }
    have Sb : StR n (InReach g w) hb Ta g st1 a1 (w1.putObj l busy) := by
      refine ⟨M2, { h2 with arr := h2.arr.setIfInBounds l busy }, g2, be2, ⟨fun b h => B2.top b (by simpa [Base.size] using h), B2.sub, fun b hnb _ => ?_, B2.Z, by simpa [hb, Base.size] using B2.size, B2.os, B2.outp, fun l lp e => by cases e⟩, le2, he2, ⟨?_, hd2.2⟩, hcx2,
        RR2.outside hn2 hw1 (fun _ _ _ => by simp) rfl ⟨rfl, rfl⟩⟩
      · by_cases hbl : b = l
        · subst hbl
          have hlt' : b < ha.arr.size := hlt
          simp [hb, hl2, hlt']
        · simp only [hb]
          rw [Array.getElem?_setIfInBounds_ne (Ne.symm hbl), Array.getElem?_setIfInBounds_ne (Ne.symm hbl)]
          exact B2.arr b hnb fun l lp e => by cases e
      · have := hd2.1
        unfold DefR at this ⊢
        rw [if_neg (by simp [Ta])] at this ⊢
        exact mrk_set this ha2 busy
    refine ev_sound (cond hb) lp.body rb _ r st1 a1 _ _ hk Sb fun e st2 a2 w3 hk2 R3 => ?_
    obtain ⟨M3, h3, g3, be3, B3, le3, he3, hd3, hcx3, RR3⟩ := R3
    have hn3 : ¬ M3 l := fun hm => hnr (B3.sub l hm)
    have ha3 : h3.arr[l]? = some busy := by
      rw [B3.arr l hnr fun l lp e => by cases e]
      have hlt' : l < ha.arr.size := hlt
      simp [hb, hlt']
    have hw3 : w3.heap[l]? = some busy := by rw [RR3.frame l hn3]; exact ha3
    have hc2 : st2.S.cx = S.cx := Prod.ext (hcx3.1 rfl) (hcx3.2 rfl)
    have hl1 : l < h1.arr.size := (Array.getElem?_eq_some_iff.1 hrec).1
    have fin : ∀ (p : Option AExit) (S3 : Heap), S3.next = st2.S.next → S3.blk = st2.S.blk → S3.cx = (p, st2.S.cx.2) → r = (.bool p.isNone, S3) → ∃ v w', (Instr.endRound l (p.map toCode)).run P w3 = .ok v w' ∧
        ∃ v' g' h1', Ending.returned v = .returned v' ∧ g.le g' ∧ vrel g' r.1 v' ∧ Bel M h0 T r.2.cx.1 M1 h1' ∧ (∀ b, b ≠ l → h1'.arr[b]? = h1.arr[b]?) ∧ RW M1 h1' g' be bx r.2 w' ∧ r.2.cx.2 = S.cx.2 := by
      intro p S3 e1 e2 e3 hr
      subst hr
      have hend := run_endRound (P := P) (p.map toCode) hw3
      have hpn : (p.map toCode).isNone = p.isNone := by cases p <;> rfl
      rw [hpn] at hend
      have hobj : (Obj.loop { ({ lp with state := .busy, pending := none } : Loop) with state := if p.isNone = true then .ready else .done, pending := p.map toCode }) = recOf lp p := rfl
      rw [hobj] at hend
      refine ⟨_, _, hend, _, g3, { h1 with arr := h1.arr.setIfInBounds l (recOf lp p) }, rfl, le3, by simp only [vrel], ?_, fun b hb => ?_, ?_, ?_⟩
      · simp only [e3]
        refine ⟨fun b h => B.top b (by simpa [Base.size] using h), B.sub, fun b hnb hbl => ?_, B.Z, by simpa [Base.size] using B.size, B.os, B.outp, fun l' lp' e => ?_⟩
        · simp only
          rw [Array.getElem?_setIfInBounds_ne (Ne.symm (hbl l lp ht))]
          exact B.arr b hnb hbl
        · rw [ht] at e
          cases e
          exact ⟨hnl, by simp [hl1]⟩
      · simp only
        rw [Array.getElem?_setIfInBounds_ne (Ne.symm hb)]
      · have RR4 := RR3.outside (o' := recOf lp p) hn3 hw3 (fun _ _ _ => by simp [busy]) (w' := w3.putObj l (recOf lp p)) rfl ⟨rfl, rfl⟩
        have RR5 : RW M3 { h3 with arr := h3.arr.setIfInBounds l (recOf lp p) } g3 be3 st2.bx S3 (w3.putObj l (recOf lp p)) :=
          { RR4 with
            live := fun id b o sz e => by rw [e2]; exact RR4.live id b o sz e
            dead := fun id e => by rw [e2]; exact RR4.dead id e
            fresh := fun id e => RR4.fresh id (by rw [← e1]; exact e)
            yfresh := fun id e => RR4.yfresh id (by rw [← e1]; exact e) }
        have out : ∀ b, ¬ InReach g w b → b ≠ l → (w3.putObj l (recOf lp p)).heap[b]? = w.heap[b]? := by
          intro b hnb hbl
          rw [World.putObj_heap_other hbl, RR3.frame b fun hm => hnb (B3.sub b hm), B3.arr b hnb fun l lp e => by cases e]
          simp only [hb]
          rw [Array.getElem?_setIfInBounds_ne (Ne.symm hbl)]
        refine back_frame R B.top hnl1 le3 RR5 B3.sub out (fun b x hnb => B3.Z b x hnb) (by have := B3.size; simpa [hb, ha, Base.size] using this) B3.os B3.outp (fun b hnb => ?_) rfl (by simp [Base.size]) rfl rfl
        by_cases hbl : b = l
        · subst hbl
          have hlt3 : b < w3.heap.size := (Array.getElem?_eq_some_iff.1 hw3).1
          rw [World.putObj_heap_same hlt3]
          simp [hl1]
        · rw [out b (fun hm => hnb (InReach.sub R B.top hm)) hbl]
          simp only
          rw [Array.getElem?_setIfInBounds_ne (Ne.symm hbl)]
          exact R.frame b hnb
      · simp only [e3, hc2]
    have hc1 : st2.S.cx.1 = none := by rw [hc2]; exact hcx
    cases e with
    | normal =>
      cases hk2
      exact fin none st2.S rfl rfl (by rw [← hc1]) rfl
    | exit i => cases hk2; exact fin (some (.exit i)) { st2.S with cx := (some (.exit i), st2.S.cx.2) } rfl rfl rfl rfl
    | goto i => cases hk2; exact fin (some (.goto i)) { st2.S with cx := (some (.goto i), st2.S.cx.2) } rfl rfl rfl rfl
    | ret => cases hk2; exact fin (some .ret) { st2.S with cx := (some .ret, st2.S.cx.2) } rfl rfl rfl rfl

theorem rfOf_ok {X : Ctl} (hX : CtlOk X) {k : Nat} (hmix : P.follows .mixedOrders = true) (hG : GOk G g0) (hC : NOk P G C) (ht : T.tie = none) (hdf : T.dfr = false) (hmk0 : T.marks = true) {Y : Ctl} (hY : Y.rf = rfOf X) : RfOk Y Fence.wide k P G C n M h0 T g0 := by
  intro go ps assign body an st q a w Q h R hq
  rw [hY] at h
  unfold rfOf at h
  simp only [bO_some] at h
  obtain ⟨f, hf, h⟩ := h
  obtain ⟨first, cap, hfe, h3⟩ := asFn_some h
  subst hfe
  obtain ⟨hf0, h4⟩ := asNil_some h3
  subst hf0
  replace h := (takeN_some h4).2
  clear h3 h4
  generalize an.fid = fid at hf h
  split at h
  · cases h
  split at h
  case h_2 => cases h
  rename_i fn hfn
  split at h
  · cases h
  rename_i hname
  simp only [bO_some] at h
  obtain ⟨r, hr, h⟩ := h
  cases h
  obtain ⟨M1, h1, g, be, B, le, he, hd, hcx, RR⟩ := R
  have hfv := opv_rel (hG.mono le) he hf
  simp only [vrel] at hfv
  obtain ⟨fs, cp, hfv, hfs, hcp⟩ := hfv
  have hmk : Mrk T.marks M M1 h1 a.defers := by
    have := hd.1
    unfold DefR at this
    rw [if_neg (by rw [hdf]; simp)] at this
    exact this
  refine wpIn_rangeFunc fun fnid _ => ?_
  let D : Nat := w.heap.size
  let l : Nat := w.heap.size + 1
  let lp : Loop := { state := .ready, pending := none, fn := fnid, tmps := a.tmps, params := ps, assign := assign, body := body, defers := D }
  let w1 : World := (w.alloc (.deferred (some []))).alloc (.loop lp)
  have hs1 : w1.heap.size = w.heap.size + 2 := by simp [w1, World.size_alloc]
  have hold : ∀ b, b < w.heap.size → w1.heap[b]? = w.heap[b]? := fun b hb => (heap_alloc_old _ _ b (by rw [World.size_alloc]; omega)).trans (heap_alloc_old _ _ b hb)
  have hl1 : w1.heap[l]? = some (.loop lp) := by
    have := World.alloc_heap_new (w.alloc (.deferred (some []))) (.loop lp)
    rwa [World.size_alloc] at this
  have hD1 : w1.heap[D]? = some (.deferred (some [])) := (heap_alloc_old _ _ D (by rw [World.size_alloc]; omega)).trans (World.alloc_heap_new w _)
  -- the caller's state at the call
  let g1 : Gam := { g with yl := fun y => if y = st.S.next then some l else g.yl y }
  have leg : g.le g1 := ⟨fun i x h => .inl h, fun _ _ _ h => h, fun y l' h => by
    have : y ≠ st.S.next := fun e => by subst e; rw [RR.yfresh _ (Nat.le_refl _)] at h; cases h
    simp only [g1, if_neg this]; exact h⟩
  let S1 : Heap := begIt st.S
  let M2 : Nat → Prop := fun b => M1 b ∧ b ≠ D ∧ b ≠ l
  let h2 : Base := ⟨w1.heap, w1.os, w1.output, g.Z⟩
  have hM2 : ∀ b, h2.size ≤ b → M2 b := fun b hb => by
    have hb : w.heap.size + 2 ≤ b := by rw [← hs1]; exact hb
    exact ⟨B.top b (Nat.le_trans RR.size (by omega)), by simp only [D]; omega, by simp only [l]; omega⟩
  have R2 : RW M2 h2 g1 be st.bx S1 w1 := by
    have Rw : RW M1 h1 g be st.bx st.S w1 := RR.world B.top ⟨by rw [hs1]; omega, rfl, rfl⟩ hold
    exact { Rw with
      live := fun id b o sz e => by
        obtain ⟨cs, k1, k2⟩ := Rw.live id b o sz e
        exact ⟨cs, k1, k2.mono leg rfl⟩
      fresh := fun id e => Rw.fresh id (by have e : st.S.next + 1 ≤ id := e; omega)
      yfresh := fun y e => by
        have e : st.S.next + 1 ≤ y := e
        simp only [g1]
        rw [if_neg (by omega)]
        exact Rw.yfresh y (by omega)
      box := fun s cs e => by
        obtain ⟨b, sz, k1, k2⟩ := Rw.box s cs e
        exact ⟨b, sz, k1, k2.mono leg rfl⟩
      hM := fun id b o sz e => by
        obtain ⟨cs, _, k2⟩ := RR.live id b o sz e
        have := k2.lt
        exact ⟨Rw.hM id b o sz e, by simp only [D]; omega, by simp only [l]; omega⟩
      bM := fun s b e => by
        obtain ⟨cs, hc⟩ := RR.boxOf _ _ e
        obtain ⟨b', sz, k1, k2⟩ := RR.box _ _ hc
        rw [e] at k1; cases k1
        have := k2.lt
        exact ⟨Rw.bM s b e, by simp only [D]; omega, by simp only [l]; omega⟩
      frame := fun b _ => rfl
      zM := fun b x _ => rfl
      size := Nat.le_refl _
      os := rfl
      outp := rfl }
  have hargs : lrel g1 (.yld st.S.next :: cap) (fs ++ [Value.func (.yield l) #[] #[]] ++ cp) := by
    simp only [lrel] at hfs
    subst hfs
    simp only [lrel, vrel]
    exact ⟨_, cp, rfl, ⟨l, by simp [g1], rfl⟩, lrel_mono leg _ _ hcp⟩
  let T1 : Tie := { tie := some (l, lp), dfr := false, marks := false, cx := S1.cx }
  have hG1 : GOk G g1 := (hG.mono le).mono leg
  have hcond : ∀ n' M' h0', Cond (plainC X) Fence.wide (k - 1) P G (withY C st.S.next (roundOf (plainC X) P G C n ps.toList assign body an.ra an.rb st.env)) n' M' h0' T1 g1 := fun n' M' h0' =>
    { ctl := plain_ok hX, fence := rfl, hG := hG1
      hC := fun f way as' S r hlt h => by
        unfold withY at h
        rw [if_neg (by omega)] at h
        exact hC.ok _ _ _ _ _ hlt h
      hY := round_ok (T := T1) hX hmix hG1 hC (l := l) (y := st.S.next) (lp := lp) (be0 := be) rfl (by simp [g1]) (erel_mono leg (fun _ _ h => h) he) hd.2
      hD := fun f as' S r h => by
        unfold withY at h
        rw [if_neg (by unfold yldId dfrId; omega), hC.none _ _ _ _ (by unfold yldId dfrId; omega)] at h
        cases h
      rf := plain_rf, jf := plain_jf, mix := hmix }
  obtain ⟨hbody, hcall⟩ := evFn_gen (T := T1) hcond hfn hr hM2 R2 hargs rfl rfl (fun l' lp' e => by
    cases e
    exact ⟨fun h => h.2.2 rfl, hl1⟩)
  refine ⟨l, [{ target := .collected D, args := #[] }], w1, { target := .fn (.func fid) cp.toArray, args := (fs ++ [Value.func (.yield l) #[] #[]]).toArray }, w1, fid,
    (fs ++ [Value.func (.yield l) #[] #[]] ++ cp).toArray, w1, run_enterLoop_outer _ _ _ _ _, ?_, fun _ _ => trivial, ?_, fun h => absurd h (by simp [Fence.wide]), ?_⟩
  · have h1 : fs.toArray ++ #[Value.func (.yield l) #[] #[]] = (fs ++ [Value.func (.yield l) #[] #[]]).toArray := by apply Array.ext'; simp
    simp only [resolve, hfv, Deferred.ofValue]
    simp [Act.eval, h1]
  · have h1 : (fs ++ [Value.func (.yield l) #[] #[]]).toArray ++ cp.toArray = (fs ++ [Value.func (.yield l) #[] #[]] ++ cp).toArray := by apply Array.ext'; simp
    have hname' : fn.name ≠ "runtime.NumGoroutine" := by simpa using hname
    simp [invoke, callFunc, hfn, hname', hbody]
  · refine (callsIn_wide.2 hcall).mono fun e w3 hp => ?_
    obtain ⟨v', g', rfl, le', _, R3, _, hcx3⟩ := hp
    have hnl : ¬ M2 l := fun h => h.2.2 rfl
    have hl3 : w3.heap[l]? = some (recOf lp r.2.cx.1) := by
      rw [R3.frame l hnl]
      have : l < h2.arr.size := by have : w1.heap.size = w.heap.size + 2 := hs1; simp only [h2, l]; omega
      simp only [Base.now, T1]
      simp [this]
    have hnb : ({ lp with state := if r.2.cx.1.isNone then .ready else .done, pending := r.2.cx.1.map toCode } : Loop).state ≠ .busy := by
      simp only
      split <;> simp
    refine ⟨_, _, run_endLoop hl3 hnb, ?_⟩
    have R4 := R3.outside (o' := .loop { lp with state := .exhausted, pending := r.2.cx.1.map toCode }) hnl hl3 (fun _ _ _ => by simp [recOf]) (w' := w3.putObj l (.loop { lp with state := .exhausted, pending := r.2.cx.1.map toCode })) rfl ⟨rfl, rfl⟩
    -- the state behind the loop
    have St : StR n M h0 T g0 { st with S := { r.2 with cx := st.S.cx } } { a with defers := [{ target := .collected D, args := #[] }] ++ a.defers } (w3.putObj l (.loop { lp with state := .exhausted, pending := r.2.cx.1.map toCode })) := by
      have hx : ∀ (o o' : Obj) (b : Nat), b ≠ l → ((h2.arr.setIfInBounds l o).setIfInBounds l o')[b]? = w1.heap[b]? := fun o o' b hb => by
        rw [Array.getElem?_setIfInBounds_ne (Ne.symm hb), Array.getElem?_setIfInBounds_ne (Ne.symm hb)]
      have hDl : D ≠ l := by simp only [D, l]; omega
      refine ⟨M2, _, g', be, ⟨?_, fun b h => B.sub b h.1, fun b hnb hbt => ?_, fun b x hnb => ?_, ?_, ?_, ?_, fun l' lp' e => by rw [ht] at e; cases e⟩, (le.trans leg).trans le', erel_mono (leg.trans le') (fun _ _ h => h) he, ⟨?_, hd.2⟩, hcx,
        { R4 with
          live := fun id b o sz e => R4.live id b o sz e
          dead := fun id e => R4.dead id e
          fresh := fun id e => R4.fresh id e
          yfresh := fun id e => R4.yfresh id e }⟩
      · intro b hb
        refine hM2 b ?_
        simpa [Base.size, Base.now, T1] using hb
      · have hblt : b < w.heap.size := by
          rcases Nat.lt_or_ge b w.heap.size with h | h
          · exact h
          · exact absurd (B.sub b (B.top b (Nat.le_trans RR.size h))) hnb
        simp only [Base.now, T1]
        rw [hx _ _ b (by simp only [l]; omega), hold b hblt, RR.frame b fun h => hnb (B.sub b h)]
        exact B.arr b hnb hbt
      · simp only [Base.now, T1, h2]
        rw [RR.zM b x fun h => hnb (B.sub b h)]
        exact B.Z b x hnb
      · have : w1.heap.size = w.heap.size + 2 := hs1
        have h3 := Nat.le_trans B.size RR.size
        simp only [Base.size, Base.now, T1, h2, Array.size_setIfInBounds]
        simp only [Base.size] at h3
        omega
      · simp only [Base.now, T1, h2]
        exact RR.os.trans B.os
      · simp only [Base.now, T1, h2]
        exact RR.outp.trans B.outp
      · unfold DefR
        rw [if_neg (by rw [hdf]; simp)]
        refine ⟨?_, fun _ => hmk0, fun d hd' => ?_⟩
        · simp only [List.singleton_append, List.nodup_cons]
          refine ⟨fun hm => ?_, hmk.nd⟩
          obtain ⟨b, e1, e2, e3, e4⟩ := hmk.all _ hm
          have hbD : D = b := by injection e1 with e1 _; injection e1
          have hlt : b < h1.arr.size := (Array.getElem?_eq_some_iff.1 e4).1
          have := RR.size
          simp only [Base.size, D] at this hbD
          omega
        · simp only [List.singleton_append, List.mem_cons] at hd'
          rcases hd' with rfl | hd'
          · refine ⟨D, rfl, B.sub D (B.top D (Nat.le_trans RR.size (Nat.le_refl _))), fun h => h.2.1 rfl, ?_⟩
            simp only [Base.now, T1]
            rw [hx _ _ D hDl]; exact hD1
          · obtain ⟨b, e1, e2, e3, e4⟩ := hmk.all _ hd'
            have hlt : b < h1.arr.size := (Array.getElem?_eq_some_iff.1 e4).1
            have hsz := RR.size
            simp only [Base.size] at hsz
            refine ⟨b, e1, e2, fun h => e3 h.1, ?_⟩
            simp only [Base.now, T1]
            rw [hx _ _ b (by simp only [l]; omega), hold b (by omega), RR.frame b e3]
            exact e4
    have hend : endIt st.S.cx r = ((match r.2.cx.1 with | none => .normal | some e => e), { r.2 with cx := st.S.cx }) := by unfold endIt; split <;> rfl
    rw [hend] at hq
    cases hp : r.2.cx.1 with
    | none =>
      have h3 := hq _ _ St
      rw [hp] at h3
      exact h3
    | some e =>
      have h3 := hq _ _ St
      rw [hp] at h3
      exact toCode_wp h3

/-- Loops over functions, and jumps to labels. -/
def rngC (X : Ctl) : Ctl := { loop := X.loop, same := X.same, tr := X.tr, rf := rfOf X, jf := jfOf (plainC X) }
theorem rngC_ok {X : Ctl} (h : CtlOk X) : XOk (rngC X) P G where
  ctl := ⟨h.loop, h.same, h.tr⟩
  rf := fun _ _ _ _ _ _ _ hmix hG hC ht hd hm => rfOf_ok h hmix hG hC ht hd hm rfl
  jf := fun _ _ _ _ _ _ _ _ hF hmix hG hC _ => jfOf_ok { ctl := plain_ok h, fence := hF, hG := hG, hC := hC.ok, hY := hC.hY, hD := hC.hD, rf := plain_rf, jf := plain_jf, mix := hmix } rfl
end
end Go.Ab

/- A function that defers one call: what the abstract machine says of a call, the model does. -/
namespace Go.Ab

def pushD (S : Heap) (f : Nat) (xs : List AV) : Heap := { S with cx := (S.cx.1, (f, xs) :: S.cx.2) }
def withD (C : CallF) : CallF := fun f way args S => if f = dfrId then some (.tup [], pushD S way args) else C f way args S
/-- The deferred call, if there is one. -/
def oneD {β : Type} (ds : List (Nat × List AV)) (fid : Nat) (K0 : Option β) (K : List AV → Option β) : Option β := match ds with
  | [] => K0
  | [(f, xs)] => if f = fid then K xs else none
  | _ => none
def openD (S : Heap) : Heap := { S with cx := (S.cx.1, []) }
def tidy (S S' : Heap) : Heap := { S' with cx := S.cx }
def finishR (X : Ctl) (P : Program) (fn : Func) (frz : Bool) (S0 : Heap) (st : St) : Option (AV × Heap) :=
  resL P st fn.results.toList fun vs => if frz then bO (fz 40 (oneOf vs) st.S) fun q => some (X.tr S0 q.1 (tidy S0 q.2)) else some (X.tr S0 (oneOf vs) (tidy S0 st.S))
def finishD (X : Ctl) (P : Program) (G : Nat → Option (List AV)) (C : CallF) (fn : Func) (frz : Bool) (fid ncap : Nat) (d : AnX) (S0 : Heap) (st : St) : Option (AV × Heap) :=
  oneD st.S.cx.2 fid (finishR X P fn frz S0 st) fun xs => takeN ncap xs fun xs => match P.funcs[fid]? with
    | some fd => if fd.name == "runtime.NumGoroutine" then none else bO (evFn (plainC X) P G C fd ⟨d, false, false⟩ xs st.S) fun r => finishR X P fn frz S0 { st with S := r.2 }
    | none => none
def evFnD (X : Ctl) (P : Program) (G : Nat → Option (List AV)) (C : CallF) (fn : Func) (fid ncap : Nat) (d a : AnX) (frz : Bool) (args : List AV) (S : Heap) : Option (AV × Heap) :=
  match fn.body with
  | none => none
  | some code => normL P fn.params.toList args fun args' => gB (decide (args'.length ≤ fn.ntmps)) <|
      ev (plainC X) P G (withD C) fn.ntmps code a (fun e st => match e with
        | .normal => finishD X P G C fn frz fid ncap d S st
        | .ret => finishD X P G C fn frz fid ncap d S st
        | _ => none)
      ⟨args'.map Ent.v ++ List.replicate (fn.ntmps - args'.length) (Ent.v (.tup [])), List.replicate fn.ntmps none, openD S⟩
/-- A function, one that defers a call or not. -/
def evFnA (X : Ctl) (P : Program) (G : Nat → Option (List AV)) (C : CallF) (fn : Func) (fa : FAn) (args : List AV) (S : Heap) : Option (AV × Heap) := match fa.body with
  | .dfr fid ncap d a => evFnD X P G C fn fid ncap d a fa.frz args S
  | _ => evFn X P G C fn fa args S

section
variable {P : Program} {G : Nat → Option (List AV)} {C : CallF} {n : Nat} {M : Nat → Prop} {h0 : Base} {T : Tie} {g0 g : Gam} {be : Nat → Option Nat} {bx : Bx} {S : Heap} {w : World} {β : Type} {r : β}

theorem entry_rel {ntmps : Nat} {args : List AV} {args' : List Value} (hargs : lrel g args args') (hlen : args.length ≤ ntmps) :
    erel g (fun _ => none) (args.map Ent.v ++ List.replicate (ntmps - args.length) (Ent.v (.tup []))) (args'.toArray ++ Array.replicate (ntmps - args'.toArray.size) undef) := by
  have hal := lrel_length hargs
  refine ⟨by simp; omega, fun t e ht => ?_⟩
  simp only [Array.getD_eq_getD_getElem?]
  rcases Nat.lt_or_ge t args.length with hl | hl
  · rw [List.getElem?_append_left (by simpa using hl), List.getElem?_map] at ht
    cases ha : args[t]? with
    | none => rw [ha] at ht; cases ht
    | some a =>
      rw [ha] at ht
      cases ht
      obtain ⟨v, hv, hr⟩ := lrel_get t a hargs ha
      rw [Array.getElem?_append_left (by simp; omega)]
      simp only [List.getElem?_toArray, hv, Option.getD_some]
      exact hr
  · rw [List.getElem?_append_right (by simpa using hl)] at ht
    have := List.mem_of_getElem? ht
    simp only [List.mem_replicate] at this
    obtain ⟨_, rfl⟩ := this
    have hlt := (List.getElem?_eq_some_iff.1 ht).1
    simp only [List.length_map, List.length_replicate] at hlt
    rw [Array.getElem?_append_right (by simp; omega)]
    simp only [List.size_toArray]
    rw [Array.getElem?_replicate, if_pos (by omega)]
    simp only [Option.getD_some, entrel, vrel]
    exact ⟨[], rfl, by simp [lrel]⟩

theorem start_bel (hT : T.tie = none) {p : Option AExit} : Bel (InReach g w) ⟨w.heap, w.os, w.output, g.Z⟩ T p (InReach g w) ⟨w.heap, w.os, w.output, g.Z⟩ :=
  ⟨fun b hb => .inl hb, fun _ h => h, fun _ _ _ => rfl, fun _ _ => by intros; rfl, Nat.le_refl _, rfl, rfl, fun l lp e => by rw [hT] at e; cases e⟩

/-- Back in the caller's state, nothing left. -/
theorem back_calm (R : RW M h0 g be bx S w) (hM : ∀ b, h0.size ≤ b → M b) (hT : T.tie = none) {p : Option AExit} {M1 : Nat → Prop} {h1 : Base} {g2 : Gam} {be1 : Nat → Option Nat} {bx1 : Bx} {S2 : Heap} {w2 : World} (le2 : g.le g2)
    (B : Bel (InReach g w) ⟨w.heap, w.os, w.output, g.Z⟩ T p M1 h1) (R2 : RW M1 h1 g2 be1 bx1 S2 w2) : RW M h0 g2 be bx S2 w2 := by
  have out : ∀ b, ¬ InReach g w b → w2.heap[b]? = w.heap[b]? := fun b hn => by
    rw [R2.frame b fun hm => hn (B.sub b hm)]
    exact B.arr b hn fun l lp e => by rw [hT] at e; cases e
  have nM : ∀ s b, be s = some b → ¬ InReach g w b := by
    intro s b hs hm
    rcases hm with hm | ⟨id, o, sz, hm⟩
    · obtain ⟨cs, hc⟩ := R.boxOf _ _ hs
      obtain ⟨b', sz, h1, h2⟩ := R.box _ _ hc
      rw [hs] at h1; cases h1
      have := h2.lt
      omega
    · exact R.hdist _ _ _ _ _ hm hs
  exact { R2 with
    box := fun s cs e => by
      obtain ⟨b, sz, h1, h2⟩ := R.box _ _ e
      exact ⟨b, sz, h1, h2.mono le2 (out b (nM s b h1))⟩
    boxOf := fun s b e => R.boxOf s b e
    bdist := fun s s' b e e' => R.bdist s s' b e e'
    hdist := fun id s b o sz e hs => nM s b hs (B.sub b (R2.hM _ _ _ _ e))
    bZ := fun s b x e => by rw [R2.zM b x fun hm => nM s b e (B.sub b hm), B.Z b x (nM s b e)]; exact R.bZ s b x e
    hM := fun id b o sz e => InReach.sub R hM (B.sub b (R2.hM _ _ _ _ e))
    bM := fun s b e => R.bM s b e
    frame := fun b hn => by rw [out b fun hm => hn (InReach.sub R hM hm)]; exact R.frame b hn
    zM := fun b x hn => by rw [R2.zM b x fun hm => hn (InReach.sub R hM (B.sub b hm)), B.Z b x fun hm => hn (InReach.sub R hM hm)]; exact R.zM b x hn
    size := Nat.le_trans R.size (Nat.le_trans B.size R2.size)
    os := R2.os.trans (B.os.trans R.os)
    outp := R2.outp.trans (B.outp.trans R.outp) }

theorem RW.cx {S' : Heap} (R : RW M h0 g be bx S w) (h1 : S'.next = S.next) (h2 : S'.blk = S.blk) : RW M h0 g be bx S' w :=
  { R with
    live := fun id b o sz e => by rw [h2]; exact R.live id b o sz e
    dead := fun id e => by rw [h2]; exact R.dead id e
    fresh := fun id e => R.fresh id (by rw [← h1]; exact e)
    yfresh := fun id e => R.yfresh id (by rw [← h1]; exact e) }

/-- The deferred function. -/
theorem evFn_dfr {X : Ctl} (hX : CtlOk X) {k : Nat} (hmix : P.follows .mixedOrders = true) (hG : GOk G g) (hC : NOk P G C) {f : Nat} {fn : Func} {d : AnX} {args : List AV} {r : AV × Heap} (hf : P.funcs[f]? = some fn)
    (h : evFn (plainC X) P G C fn ⟨d, false, false⟩ args S = some r) {args' : List Value} (hM : ∀ b, h0.size ≤ b → M b) (R : RW M h0 g be bx S w) (hargs : lrel g args args') {u : FrameMode} : fn.body ≠ none ∧
      CallsDIn Fence.wide k P f args'.toArray u w fun e u' w' => u' = u ∧ ∃ v' g', e = .returned v' ∧ g.le g' ∧ RW M h0 g' be bx r.2 w' ∧ r.2.cx = S.cx := by
  unfold evFn at h
  split at h
  · cases h
  · rename_i code hb
    refine ⟨by rw [hb]; simp, ?_⟩
    have h := normL_some h
    simp only [gB_some, decide_eq_true_eq] at h
    obtain ⟨hlen, h⟩ := h
    have hal := lrel_length hargs
    let T : Tie := { tie := none, dfr := false, marks := false, cx := S.cx }
    have c0 : Cond (plainC X) Fence.wide k P G C fn.ntmps (InReach g w) ⟨w.heap, w.os, w.output, g.Z⟩ T g :=
      { ctl := plain_ok hX, fence := rfl, hG := hG, hC := hC.ok, hY := hC.hY, hD := hC.hD, rf := plain_rf, jf := plain_jf, mix := hmix }
    have St0 : StR fn.ntmps (InReach g w) ⟨w.heap, w.os, w.output, g.Z⟩ T g ⟨args.map Ent.v ++ List.replicate (fn.ntmps - args.length) (Ent.v (.tup [])), List.replicate fn.ntmps none, S⟩
        { tmps := args'.toArray ++ Array.replicate (fn.ntmps - args'.toArray.size) undef, defers := [] } w :=
      ⟨_, _, g, fun _ => none, start_bel rfl, .refl g, entry_rel hargs hlen, ⟨by unfold DefR; rw [if_neg (by simp [T])]; exact ⟨by simp, by simp, by simp⟩, by simp; omega⟩, ⟨fun _ => rfl, fun _ => rfl⟩, start_frame R _⟩
    refine callsDIn_of_wp hf hb trivial (ev_sound c0 code d _ r _ _ w _ h St0 fun e st' a' w' hk R' => ?_)
    have fin : finish (plainC X) P fn false S st' = some r → bodyPost P fn (fun e w' => ∃ v' g', e = .returned v' ∧ g.le g' ∧ RW M h0 g' be bx r.2 w' ∧ r.2.cx = S.cx) .ret a' w' := by
      intro hk
      obtain ⟨M1, h1, g1, be1, B1, le1, he1, hd1, hcx1, RR1⟩ := R'
      have hnil : a'.defers = [] := by
        have h2 := hd1.1
        unfold DefR at h2
        rw [if_neg (by simp [T])] at h2
        cases hh : a'.defers with
        | nil => rfl
        | cons x l => have h3 := h2.ok (by rw [hh]; simp); cases h3
      unfold finish at hk
      obtain ⟨xs, vs, hk, hvs, hrun⟩ := resL_sound RR1 he1 hk
      refine ⟨hnil, (if h : vs.toArray.size = 1 then vs.toArray[0] else .tuple vs.toArray), ?_, ?_⟩
      · rw [results_eq, Sem.run_bind]
        have : (fn.results.mapM (resVal a'.tmps)).run P w' = .ok vs.toArray w' := by
          rw [Array.mapM_eq_mapM_toList, Sem.run_map, hrun]
          rfl
        rw [this]
        simp
      · have hv1 := oneOf_rel hvs
        have hcx : st'.S.cx = S.cx := Prod.ext (hcx1.1 rfl) (hcx1.2 rfl)
        simp only [Bool.false_eq_true, if_false] at hk
        cases hk
        obtain ⟨g3, le3, _, R3, hc3⟩ := trim_rel (plain_ok hX) R le1 (back_calm R hM rfl le1 B1 RR1) hv1
        exact ⟨_, g3, rfl, le3, R3, hc3.trans hcx⟩
    cases e with
    | normal => exact fin hk
    | ret => exact fin hk
    | exit i => cases hk
    | goto l => cases hk

theorem evFnD_sound {X : Ctl} (hX : CtlOk X) (hmix : P.follows .mixedOrders = true) (hC : NOk P G C) {f : Nat} {fn : Func} {fid ncap : Nat} {d a : AnX} {frz : Bool} {args : List AV} {r : AV × Heap} (hf : P.funcs[f]? = some fn)
    (h : evFnD X P G C fn fid ncap d a frz args S = some r) : fn.body ≠ none ∧ ∀ (M : Nat → Prop) (h0 : Base) (g : Gam) (be : Nat → Option Nat) (bx : Bx) (w : World) (args' : List Value),
      (∀ b, h0.size ≤ b → M b) → GOk G g → RW M h0 g be bx S w → lrel g args args' →
      Calls P f args'.toArray w fun e w' => ∃ v' g', e = .returned v' ∧ g.le g' ∧ vrel g' r.1 v' ∧ RW M h0 g' be bx r.2 w' ∧ r.2.cx = S.cx := by
  unfold evFnD at h
  split at h
  · cases h
  · rename_i code hb
    refine ⟨by rw [hb]; simp, fun M h0 g be bx w args' hM hG R hargs => ?_⟩
    have h := normL_some h
    simp only [gB_some, decide_eq_true_eq] at h
    obtain ⟨hlen, h⟩ := h
    have hal := lrel_length hargs
    let T : Tie := { tie := none, dfr := true, marks := false, cx := (openD S).cx }
    have c0 : Cond (plainC X) Fence.wide 1 P G (withD C) fn.ntmps (InReach g w) ⟨w.heap, w.os, w.output, g.Z⟩ T g :=
      { ctl := plain_ok hX, fence := rfl, hG := hG
        hC := fun f way xs S r hlt h => by
          unfold withD at h
          rw [if_neg (by unfold yldId at hlt; unfold dfrId; omega)] at h
          exact hC.ok _ _ _ _ _ hlt h
        hY := fun way xs S r h => by
          unfold withD at h
          rw [if_neg (by unfold yldId dfrId; omega), hC.none _ _ _ _ (Nat.le_refl _)] at h
          cases h
        hD := fun f xs S r h => by
          unfold withD at h
          rw [if_pos rfl] at h
          cases h
          exact ⟨rfl, rfl, rfl⟩
        rf := plain_rf, jf := plain_jf, mix := hmix }
    have Ro : RW M h0 g be bx (openD S) w := R.cx rfl rfl
    have St0 : StR fn.ntmps (InReach g w) ⟨w.heap, w.os, w.output, g.Z⟩ T g ⟨args.map Ent.v ++ List.replicate (fn.ntmps - args.length) (Ent.v (.tup [])), List.replicate fn.ntmps none, openD S⟩
        { tmps := args'.toArray ++ Array.replicate (fn.ntmps - args'.toArray.size) undef, defers := [] } w :=
      ⟨_, _, g, fun _ => none, start_bel rfl, .refl g, entry_rel hargs hlen, ⟨by unfold DefR; rw [if_pos (by simp [T])]; rfl, by simp; omega⟩, ⟨fun _ => rfl, fun h => by cases h⟩, start_frame Ro _⟩
    refine callsIn_wide.1 (callsIn_of_wp_marks (n := 1) hf hb trivial (ev_sound c0 code a _ r _ _ w _ h St0 fun e st' a' w' hk R' => ?_))
    have fin : finishD X P G C fn frz fid ncap d S st' = some r → bodyPostM Fence.wide 1 P fn (fun e w' => ∃ v' g', e = .returned v' ∧ g.le g' ∧ vrel g' r.1 v' ∧ RW M h0 g' be bx r.2 w' ∧ r.2.cx = S.cx) .ret a' w' := by
      intro hk
      obtain ⟨M1, h1, g1, be1, B1, le1, he1, hd1, hcx1, RR1⟩ := R'
      have hds : drel g1 st'.S.cx.2 a'.defers := by
        have h2 := hd1.1
        unfold DefR at h2
        rw [if_pos (by simp [T])] at h2
        exact h2
      -- the results, and what is left
      have last : ∀ (g2 : Gam) (S2 : Heap) (w2 : World), g1.le g2 → RW M1 h1 g2 be1 st'.bx S2 w2 → finishR X P fn frz S { st' with S := S2 } = some r →
          ∃ v, (results fn a'.tmps).run P w2 = .ok v w2 ∧ ∃ v' g', Ending.returned v = .returned v' ∧ g.le g' ∧ vrel g' r.1 v' ∧ RW M h0 g' be bx r.2 w2 ∧ r.2.cx = S.cx := by
        intro g2 S2 w2 le2 RR2 hk
        unfold finishR at hk
        obtain ⟨xs, vs, hk, hvs, hrun⟩ := resL_sound (st := { st' with S := S2 }) RR2 (erel_mono le2 (fun _ _ h => h) he1) hk
        refine ⟨(if h : vs.toArray.size = 1 then vs.toArray[0] else .tuple vs.toArray), ?_, ?_⟩
        · rw [results_eq, Sem.run_bind]
          have : (fn.results.mapM (resVal a'.tmps)).run P w2 = .ok vs.toArray w2 := by
            rw [Array.mapM_eq_mapM_toList, Sem.run_map, hrun]
            rfl
          rw [this]
          simp
        · have hv1 := oneOf_rel hvs
          have fin2 : ∀ (a : AV) (S3 : Heap) (g3 : Gam), g.le g3 → vrel g3 a (if h : vs.toArray.size = 1 then vs.toArray[0] else .tuple vs.toArray) → RW M1 h1 g3 be1 st'.bx S3 w2 → some (X.tr S a (tidy S S3)) = some r →
              ∃ v' g', Ending.returned (if h : vs.toArray.size = 1 then vs.toArray[0] else .tuple vs.toArray) = .returned v' ∧ g.le g' ∧ vrel g' r.1 v' ∧ RW M h0 g' be bx r.2 w2 ∧ r.2.cx = S.cx := by
            intro a S3 g3 le3 hv3 R3 hr
            cases hr
            obtain ⟨g4, le4, hv4, R4, hc4⟩ := trim_rel hX R le3 (S' := tidy S S3) ((back_calm R hM rfl le3 B1 R3).cx rfl rfl) hv3
            exact ⟨_, g4, rfl, le4, hv4, R4, hc4⟩
          split at hk
          · simp only [bO_some] at hk
            obtain ⟨⟨q, S3⟩, hfz, hk⟩ := hk
            obtain ⟨g3, le3, hv3, R3⟩ := fz_rel 40 _ _ _ _ _ _ RR2 hv1 hfz
            exact fin2 q S3 g3 ((le1.trans le2).trans le3) hv3 R3 hk
          · exact fin2 _ _ g2 (le1.trans le2) hv1 RR2 hk
      unfold finishD oneD at hk
      split at hk
      · rename_i hnil
        rw [hnil] at hds
        have hdn : a'.defers = [] := hds
        change LeavesInM _ _ _ _ _ _ _ _ _
        rw [hdn]
        exact last g1 st'.S w' (.refl g1) RR1 hk
      · rename_i f0 xs hone
        split at hk
        · rename_i hfid
          subst hfid
          have hk := (takeN_some hk).2
          split at hk
          · rename_i fd hfd
            split at hk
            · cases hk
            · rename_i hname
              simp only [bO_some] at hk
              obtain ⟨q, hq, hk⟩ := hk
              rw [hone] at hds
              obtain ⟨dd, rest, hdd, ⟨cp, as', hd2, hrel⟩, hrest⟩ := hds
              have hrest : rest = [] := hrest
              subst hrest
              obtain ⟨hbd, hcall⟩ := evFn_dfr (k := 0) hX hmix ((hG.mono le1)) hC hfd hq B1.top RR1 hrel (u := .returning)
              change LeavesInM _ _ _ _ _ _ _ _ _
              rw [hdd]
              have hname' : fd.name ≠ "runtime.NumGoroutine" := by simpa using hname
              refine ⟨by simp, .inr ⟨fun h => absurd h (by simp [Fence.wide]), .func f0, cp.toArray, f0, (as' ++ cp).toArray, by rw [hd2], ?_, fun _ _ => trivial, ?_⟩⟩
              · rw [hd2]
                simp [invoke, callFunc, hfd, hname', hbd]
              · obtain ⟨hFf, hc⟩ := hcall
                refine ⟨hFf, fun c cs hu hr => ?_⟩
                obtain ⟨e, u', w2, fr, ⟨hu', v', g', he', le', R2, hcx2⟩, hs⟩ := hc c cs hu hr
                subst he'
                subst hu'
                exact ⟨_, _, w2, fr, last g' q.2 w2 le' R2 hk, hs⟩
          · cases hk
        · cases hk
      · cases hk
    cases e with
    | normal => exact fin hk
    | ret => exact fin hk
    | exit i => cases hk
    | goto l => cases hk

theorem evFnA_sound {X : Ctl} (hX : XOk X P G) (hmix : P.follows .mixedOrders = true) (hC : NOk P G C) {f : Nat} {fn : Func} {fa : FAn} {args : List AV} {r : AV × Heap} (hf : P.funcs[f]? = some fn)
    (h : evFnA X P G C fn fa args S = some r) : fn.body ≠ none ∧ ∀ (M : Nat → Prop) (h0 : Base) (g : Gam) (be : Nat → Option Nat) (bx : Bx) (w : World) (args' : List Value),
      (∀ b, h0.size ≤ b → M b) → GOk G g → RW M h0 g be bx S w → lrel g args args' →
      Calls P f args'.toArray w fun e w' => ∃ v' g', e = .returned v' ∧ g.le g' ∧ vrel g' r.1 v' ∧ RW M h0 g' be bx r.2 w' ∧ r.2.cx = S.cx := by
  unfold evFnA at h
  split at h
  · exact evFnD_sound hX.ctl hmix hC hf h
  · exact evFn_sound hX hmix hC hf h
end
end Go.Ab

/- Calls within calls; calls with a heap of their own; the two controls. -/
namespace Go.Ab

-- the control by choice
open Classical in
noncomputable def loopW (step : LSt → Option (LSt ⊕ (Nat × LSt))) (s : LSt) : Option (Nat × LSt) :=
  if h : ∃ x, LoopRel step s x then some (Classical.choose h) else none
theorem loopW_some {step : LSt → Option (LSt ⊕ (Nat × LSt))} {s : LSt} {x : Nat × LSt} (h : loopW step s = some x) : LoopRel step s x := by
  unfold loopW at h
  split at h
  · rename_i hh
    cases h
    exact Classical.choose_spec hh
  · cases h
theorem loopRel_det {step : LSt → Option (LSt ⊕ (Nat × LSt))} {s : LSt} {x y : Nat × LSt} (h : LoopRel step s x) (k : LoopRel step s y) : x = y := by
  induction h with
  | done h =>
    cases k with
    | done k => rw [h] at k; cases k; rfl
    | cont k _ => rw [h] at k; cases k
  | cont h _ ih =>
    cases k with
    | done k => rw [h] at k; cases k
    | cont k r => rw [h] at k; cases k; exact ih r
theorem loopW_eq {step : LSt → Option (LSt ⊕ (Nat × LSt))} {s : LSt} {x : Nat × LSt} (h : LoopRel step s x) : loopW step s = some x := by
  unfold loopW
  rw [dif_pos ⟨x, h⟩]
  exact congrArg some (loopRel_det (Classical.choose_spec (p := fun x => LoopRel step s x) ⟨x, h⟩) h)
theorem loopW_done {step : LSt → Option (LSt ⊕ (Nat × LSt))} {s : LSt} {x : Nat × LSt} (h : step s = some (.inr x)) : loopW step s = some x := loopW_eq (.done h)
theorem loopW_cont {step : LSt → Option (LSt ⊕ (Nat × LSt))} {s s' : LSt} (h : step s = some (.inl s')) : loopW step s = loopW step s' := by
  by_cases hh : ∃ x, LoopRel step s' x
  · obtain ⟨x, hx⟩ := hh
    rw [loopW_eq hx, loopW_eq (.cont h hx)]
  · have h2 : ¬ ∃ x, LoopRel step s x := by
      rintro ⟨x, hx⟩
      cases hx with
      | done k => rw [h] at k; cases k
      | cont k r => rw [h] at k; cases k; exact hh ⟨x, r⟩
    unfold loopW
    rw [dif_neg hh, dif_neg h2]
open Classical in
noncomputable def trim (S : Heap) (v : AV) (S' : Heap) : AV × Heap :=
  if noId v = true ∧ S'.cx = S.cx ∧ ∀ i, i < S.next → S'.blk i = S.blk i then (v, S) else (v, S')
open Classical in
noncomputable def ctlW : Ctl := { loop := loopW, same := fun ps => decide (∀ p ∈ ps, p.ok), tr := trim }
theorem ctlW_ok : CtlOk ctlW where
  loop := fun _ _ _ h => loopW_some h
  same := fun ps h => by simpa [ctlW] using h
  tr := fun S v S' => by
    simp only [ctlW, trim]
    split
    · rename_i h; exact .inr ⟨rfl, h⟩
    · exact .inl rfl

-- the control that counts
def loopF : Nat → (LSt → Option (LSt ⊕ (Nat × LSt))) → LSt → Option (Nat × LSt)
  | 0, _, _ => none
  | n + 1, step, s => match step s with
    | some (.inl s') => loopF n step s'
    | some (.inr x) => some x
    | none => none
theorem loopF_some : ∀ {n : Nat} {step : LSt → Option (LSt ⊕ (Nat × LSt))} {s : LSt} {x : Nat × LSt}, loopF n step s = some x → LoopRel step s x
  | 0, _, _, _, h => by cases h
  | n + 1, step, s, x, h => by
    unfold loopF at h
    split at h
    · rename_i hs; exact .cont hs (loopF_some h)
    · rename_i hs; cases h; exact .done hs
    · cases h
mutual
def AV.beq : AV → AV → Bool
  | .bool a, .bool b => a == b
  | .int k a, .int l b => decide (k = l) && decide (a = b)
  | .str a, .str b => decide (a = b)
  | .nilp, .nilp => true
  | .ptr i o, .ptr j p => i == j && o == p
  | .iptr a, .iptr b => beqL a b
  | .nils, .nils => true
  | .hs i o l e, .hs j p m f => i == j && o == p && l == m && e == f
  | .is l a, .is m b => l == m && beqL a b
  | .nilf, .nilf => true
  | .fn f a b, .fn g c d => f == g && beqL a c && beqL b d
  | .agg a, .agg b => beqL a b
  | .tup a, .tup b => beqL a b
  | .yld a, .yld b => a == b
  | .bot, .bot => true
  | _, _ => false
def beqL : List AV → List AV → Bool
  | [], [] => true
  | a :: l, b :: m => a.beq b && beqL l m
  | _, _ => false
end
mutual
theorem AV.beq_eq : ∀ (a b : AV), a.beq b = true → a = b
  | .bool a, b, h => by cases b <;> simp [AV.beq] at h ⊢; exact h
  | .int k a, b, h => by cases b <;> simp [AV.beq] at h ⊢; exact h
  | .str a, b, h => by cases b <;> simp [AV.beq] at h ⊢; exact h
  | .nilp, b, h => by cases b <;> simp [AV.beq] at h ⊢
  | .ptr i o, b, h => by cases b <;> simp [AV.beq] at h ⊢; exact h
  | .iptr a, b, h => by cases b <;> simp [AV.beq] at h ⊢; exact beqL_eq a _ h
  | .nils, b, h => by cases b <;> simp [AV.beq] at h ⊢
  | .hs i o l e, b, h => by cases b <;> simp [AV.beq] at h ⊢; exact ⟨h.1.1.1, h.1.1.2, h.1.2, h.2⟩
  | .is l a, b, h => by cases b <;> simp [AV.beq] at h ⊢; exact ⟨h.1, beqL_eq a _ h.2⟩
  | .nilf, b, h => by cases b <;> simp [AV.beq] at h ⊢
  | .fn f a c, b, h => by cases b <;> simp [AV.beq] at h ⊢; exact ⟨h.1.1, beqL_eq a _ h.1.2, beqL_eq c _ h.2⟩
  | .agg a, b, h => by cases b <;> simp [AV.beq] at h ⊢; exact beqL_eq a _ h
  | .tup a, b, h => by cases b <;> simp [AV.beq] at h ⊢; exact beqL_eq a _ h
  | .yld a, b, h => by cases b <;> simp [AV.beq] at h ⊢; exact h
  | .bot, b, h => by cases b <;> simp [AV.beq] at h ⊢
theorem beqL_eq : ∀ (a b : List AV), beqL a b = true → a = b
  | [], b, h => by cases b <;> simp [beqL] at h ⊢
  | a :: l, b, h => by
    cases b <;> simp [beqL] at h ⊢
    exact ⟨AV.beq_eq a _ h.1, beqL_eq l _ h.2⟩
end
def Chk.test : Chk → Bool
  | .see a S' S => (match seeV a S', seeV a S with | none, none => true | some x, some y => beqL x.1 y.1 && x.2 == y.2 | _, _ => false)
  | .b2s a S' S => (match aB2S a S', aB2S a S with | none, none => true | some x, some y => decide (x = y) | _, _ => false)
theorem Chk.test_ok {c : Chk} (h : c.test = true) : c.ok := by
  cases c with
  | see a S' S =>
    simp only [Chk.test] at h
    simp only [Chk.ok]
    split at h
    · rename_i h1 h2; rw [h1, h2]
    · rename_i x y h1 h2
      simp only [Bool.and_eq_true, beq_iff_eq] at h
      rw [h1, h2]
      obtain ⟨x1, x2⟩ := x
      obtain ⟨y1, y2⟩ := y
      simp only at h
      rw [beqL_eq _ _ h.1, h.2]
    · cases h
  | b2s a S' S =>
    simp only [Chk.test] at h
    simp only [Chk.ok]
    split at h
    · rename_i h1 h2; rw [h1, h2]
    · rename_i x y h1 h2
      rw [h1, h2, of_decide_eq_true h]
    · cases h
def ctlF (n : Nat) : Ctl := { loop := loopF n, same := fun ps => ps.all Chk.test, tr := fun _ v S' => (v, S') }
theorem ctlF_ok (n : Nat) : CtlOk (ctlF n) where
  loop := fun _ _ _ h => loopF_some h
  same := fun ps h p hp => Chk.test_ok (by simp only [ctlF, List.all_eq_true] at h; exact h p hp)
  tr := fun _ _ _ => .inl rfl

/-- The empty heap. -/
def S0 : Heap := ⟨0, fun _ => none, (none, [])⟩
/-- A call with a heap of its own. -/
def locC (C : CallF) : CallF := fun f way args S =>
  if noIdL args then (match C f way args S0 with
    | some r => if noId r.1 then some (r.1, S) else none
    | none => none) else none

section
variable {P : Program} {G : Nat → Option (List AV)}

theorem locC_ok {C : CallF} (hG0 : ∀ i cs, G i = some cs → noIdL cs = true) (hC : NOk P G C) : NOk P G (locC C) := by
  refine ⟨?_, fun f way args S h => by unfold locC; rw [hC.none _ _ _ _ h]; split <;> rfl⟩
  intro f way args S r hlt h
  unfold locC at h
  split at h
  · rename_i hargs
    split at h
    · rename_i q hq
      split at h
      · rename_i hv
        cases h
        refine ⟨(hC.ok _ _ _ _ _ hlt hq).1, fun M h0 g be bx w args' hM hG R hr => ?_⟩
        let g0 : Gam := { phi := fun _ => none, Z := g.Z, yl := fun _ => none }
        have R1 : RW (fun b => w.heap.size ≤ b) ⟨w.heap, w.os, w.output, g.Z⟩ g0 (fun _ => none) [] S0 w :=
          { zone := fun b o v h => R.zone b o v h
            live := fun id b o sz h => by cases h
            dead := fun id h => by cases h
            fresh := fun id h => rfl
            yfresh := fun id h => rfl
            box := fun s cs h => by cases h
            boxOf := fun s b h => by cases h
            dist := fun id id' b o sz o' sz' h => by cases h
            bdist := fun s s' b h => by cases h
            hdist := fun id s b o sz h => by cases h
            hZ := fun id b o sz x h => by cases h
            bZ := fun s b x h => by cases h
            hM := fun id b o sz h => by cases h
            bM := fun s b h => by cases h
            frame := fun b _ => rfl
            zM := fun b x _ => rfl
            size := Nat.le_refl _
            os := rfl
            outp := rfl }
        have hc := (hC.ok _ _ _ _ _ hlt hq).2 (fun b => w.heap.size ≤ b) ⟨w.heap, w.os, w.output, g.Z⟩ g0 (fun _ => none) [] w args' (fun b h => h) (fun i cs h => zrel_noId (g := g) (g' := g0) (fun _ _ _ h => h) cs _ (hG0 i cs h) (hG i cs h)) R1
          (lrel_noId (g := g) (g' := g0) (fun _ _ _ h => h) args args' hargs hr)
        refine Calls.mono hc fun e w' he => ?_
        obtain ⟨v', g', rfl, le, hv', R', _⟩ := he
        let g2 : Gam := { phi := g.phi, Z := g'.Z, yl := g.yl }
        have le2 : g.le g2 := ⟨fun i x h => .inl h, fun b o v h => le.Z b o v h, fun _ _ h => h⟩
        have old : ∀ b, b < w.heap.size → w'.heap[b]? = w.heap[b]? := fun b hb => R'.frame b (by omega)
        have oldZ : ∀ b x, b < w.heap.size → g'.Z b x = g.Z b x := fun b x hb => R'.zM b x (by omega)
        have nM : ∀ b, ¬ M b → b < w.heap.size := by
          intro b hb
          rcases Nat.lt_or_ge b w.heap.size with h | h
          · exact h
          · exact absurd (hM b (Nat.le_trans R.size h)) hb
        refine ⟨v', g2, rfl, le2, vrel_noId (g := g') (g' := g2) (fun _ _ _ h => h) _ _ hv hv', ?_, rfl⟩
        exact
          { zone := fun b o v h => R'.zone b o v h
            live := fun id b o sz h => by
              obtain ⟨cs, h1, h2⟩ := R.live id b o sz h
              exact ⟨cs, h1, h2.mono le2 (old b h2.lt)⟩
            dead := fun id h => R.dead id h
            fresh := fun id h => R.fresh id h
            yfresh := fun id h => R.yfresh id h
            box := fun s cs h => by
              obtain ⟨b, sz, h1, h2⟩ := R.box s cs h
              exact ⟨b, sz, h1, h2.mono le2 (old b h2.lt)⟩
            boxOf := fun s b h => R.boxOf s b h
            dist := fun id id' b o sz o' sz' h h' => R.dist id id' b o sz o' sz' h h'
            bdist := fun s s' b h h' => R.bdist s s' b h h'
            hdist := fun id s b o sz h => R.hdist id s b o sz h
            hZ := fun id b o sz x h => by
              obtain ⟨cs, h1, h2⟩ := R.live id b o sz h
              exact (oldZ b x h2.lt).trans (R.hZ id b o sz x h)
            bZ := fun s b x h => by
              obtain ⟨cs, hc⟩ := R.boxOf s b h
              obtain ⟨b', sz, h1, h2⟩ := R.box s cs hc
              rw [h] at h1; cases h1
              exact (oldZ b x h2.lt).trans (R.bZ s b x h)
            hM := fun id b o sz h => R.hM id b o sz h
            bM := fun s b h => R.bM s b h
            frame := fun b hn => (old b (nM b hn)).trans (R.frame b hn)
            zM := fun b x hn => (oldZ b x (nM b hn)).trans (R.zM b x hn)
            size := Nat.le_trans R.size R'.size
            os := R'.os.trans R.os
            outp := R'.outp.trans R.outp }
      · cases h
    · cases h
  · cases h

/-- One call, by what the calls within come to. -/
def oneC (X : Ctl) (P : Program) (G : Nat → Option (List AV)) (A : Nat → Nat → FAn) (C : CallF) : CallF := fun f way args S => if yldId ≤ f then none else match P.funcs[f]? with
  | some fn => if fn.name == "runtime.NumGoroutine" then none else evFnA X P G C fn (A f way) args S
  | none => none
theorem oneC_ok {X : Ctl} (hX : XOk X P G) (hmix : P.follows .mixedOrders = true) (A : Nat → Nat → FAn) {C : CallF} (hC : NOk P G C) : NOk P G (oneC X P G A C) := by
  refine ⟨fun f way args S r hlt h => ?_, fun f way args S h => by unfold oneC; rw [if_pos h]⟩
  unfold oneC at h
  rw [if_neg (by omega)] at h
  split at h
  · rename_i fn hf
    split at h
    · cases h
    · rename_i hn
      obtain ⟨hb, hs⟩ := evFnA_sound hX hmix hC hf h
      exact ⟨⟨fn, hf, by simpa using hn, hb⟩, hs⟩
  · cases h

/-- What a call comes to, with so many calls one within the other, upon what is known. -/
def callN (X : Ctl) (P : Program) (G : Nat → Option (List AV)) (A : Nat → Nat → FAn) (B : CallF) : Nat → CallF
  | 0 => B
  | k + 1 => fun f way args S => match B f way args S with
    | some r => some r
    | none => if (A f way).loc then locC (oneC X P G A (callN X P G A B k)) f way args S else oneC X P G A (callN X P G A B k) f way args S
theorem callN_ok {X : Ctl} (hX : XOk X P G) (hmix : P.follows .mixedOrders = true) (hG0 : ∀ i cs, G i = some cs → noIdL cs = true) (A : Nat → Nat → FAn) {B : CallF} (hB : NOk P G B) : ∀ k, NOk P G (callN X P G A B k)
  | 0 => hB
  | k + 1 => by
    have ih := callN_ok hX hmix hG0 A hB k
    have h1 := oneC_ok hX hmix A ih
    have h2 := locC_ok hG0 h1
    refine ⟨fun f way args S r hlt h => ?_, fun f way args S h => ?_⟩
    · simp only [callN] at h
      split at h
      · rename_i q hq; cases h; exact hB.ok _ _ _ _ _ hlt hq
      · split at h
        · exact h2.ok _ _ _ _ _ hlt h
        · exact h1.ok _ _ _ _ _ hlt h
    · simp only [callN, hB.none _ _ _ _ h]
      split
      · exact h2.none _ _ _ _ h
      · exact h1.none _ _ _ _ h
def noC : CallF := fun _ _ _ _ => none
theorem noC_ok : NOk P G noC := ⟨fun _ _ _ _ _ _ h => (by cases h), fun _ _ _ _ _ => rfl⟩
end
end Go.Ab

/- Calls by a table of what functions come to. -/
namespace Go.Ab
structure Row (X : Ctl) (P : Program) (G : Nat → Option (List AV)) where
  fid : Nat
  fn : Func
  an : FAn
  run : CallF → List AV → Heap → Option (AV × Heap)
  hf : P.funcs[fid]? = some fn
  hn : (fn.name == "runtime.NumGoroutine") = false
  ok : ∀ C args S r, run C args S = some r → evFnA X P G C fn an args S = some r
section
variable {X : Ctl} {P : Program} {G : Nat → Option (List AV)}
def findRow : List (Row X P G) → Nat → Option (Row X P G)
  | [], _ => none
  | e :: l, f => if e.fid = f then some e else findRow l f
theorem findRow_some : ∀ {l : List (Row X P G)} {f : Nat} {e : Row X P G}, findRow l f = some e → e.fid = f
  | [], _, _, h => by cases h
  | x :: l, f, e, h => by
    unfold findRow at h
    split at h
    · rename_i hx; cases h; exact hx
    · exact findRow_some h
def tabN (l : List (Row X P G)) : Nat → CallF
  | 0 => noC
  | k + 1 => fun f _ args S => if yldId ≤ f then none else match findRow l f with
    | some e => e.run (tabN l k) args S
    | none => none
theorem tabN_ok (hX : XOk X P G) (hmix : P.follows .mixedOrders = true) (l : List (Row X P G)) : ∀ k, NOk P G (tabN l k)
  | 0 => noC_ok
  | k + 1 => by
    refine ⟨fun f way args S r hlt h => ?_, fun f way args S h => by simp only [tabN]; rw [if_pos h]⟩
    simp only [tabN] at h
    rw [if_neg (by omega)] at h
    split at h
    · rename_i e he
      have hfid := findRow_some he
      subst hfid
      obtain ⟨hb, hs⟩ := evFnA_sound hX hmix (tabN_ok hX hmix l k) e.hf (e.ok _ _ _ _ h)
      exact ⟨⟨e.fn, e.hf, by simpa using e.hn, hb⟩, hs⟩
    · cases h
end
end Go.Ab

/- What a claim hands over, as values of the abstract machine: everything in memory that never changes. -/
namespace Go.Ab

/-- Memory as it stands at the start. -/
def gOf (w : World) : Gam := { phi := fun _ => none, Z := fun b o => w.cell? ⟨b, o, none⟩, yl := fun _ => none }

section
variable (P : Program)
/-- The cells of a value of a type. -/
def avOk (N : Nat) : Nat → TypeId → List AV → Prop
  | 0, _, _ => False
  | F + 1, t, as => match P.underlying t with
    | some .bool => ∃ b, as = [.bool b]
    | some (.int k) => ∃ n, as = [.int k n] ∧ (Lit.int k n).wf = true
    | some .string => ∃ s : ByteArray, as = [.str s] ∧ s.size ≤ N
    | some (.pointer e) => as = [.nilp] ∨ ∃ cs, as = [.iptr cs] ∧ cs.length = P.cellsOf e ∧ avOk N F e cs
    | some (.slice e) => as = [.nils] ∨ ∃ len cs, as = [.is len cs] ∧ len ≤ N ∧ cs.length = len * P.cellsOf e ∧ ∀ i, i < len → avOk N F e ((cs.drop (i * P.cellsOf e)).take (P.cellsOf e))
    | some (.struct fs) => as.length = P.cellsOf t ∧ ∀ f ∈ fs, avOk N F f.type ((as.drop f.offset).take (P.cellsOf f.type))
    | some (.array n e) => as.length = P.cellsOf t ∧ ∀ i, i < n → avOk N F e ((as.drop (i * P.cellsOf e)).take (P.cellsOf e))
    | _ => False
def contig : Nat → List Field → Nat → Bool
  | o, [], n => o == n
  | o, f :: fs, n => f.offset == o && contig (o + P.cellsOf f.type) fs n
/-- Types of plain data, fields side by side. -/
def flat : Nat → TypeId → Bool
  | 0, _ => false
  | F + 1, t => match P.underlying t with
    | some .bool => true
    | some (.int _) => true
    | some .string => true
    | some (.pointer e) => flat F e
    | some (.slice e) => flat F e
    | some (.struct fs) => contig P 0 fs.toList (P.cellsOf t) && fs.toList.all (fun f => flat F f.type)
    | some (.array n e) => flat F e && P.cellsOf t == n * P.cellsOf e
    | _ => false
end

section
variable {P : Program} {w : World} {H : Type} {enc : TypeId × Value → H} {base : Nat} {spare : Nat → Bool} {held : Bool}

theorem add_add (a : Addr) (i j : Nat) : (a.add i).add j = a.add (i + j) := by
  unfold Addr.add
  by_cases hi : i = 0 <;> by_cases hj : j = 0 <;> simp [hi, hj, Nat.add_assoc]
theorem zrel_cells {cs : List AV} {a : Addr} (h : ∀ (i : Nat) x, cs[i]? = some x → ∃ v, w.cell? (a.add i) = some v ∧ vrel (gOf w) x v) : zrel (gOf w) cs a := by
  cases cs with
  | nil => simp only [zrel]
  | cons c cs =>
    obtain ⟨v, hv, _⟩ := h 0 c (by simp)
    have hs : a.spot = none := by
      simp only [Addr.add, if_true] at hv
      unfold World.cell? at hv
      split at hv
      · split at hv
        · cases hv
        · rename_i hh; simpa using hh
      · cases hv
    obtain ⟨b, o, s⟩ := a
    simp only at hs; subst hs
    refine zrel_of fun i x hx => ?_
    obtain ⟨v, hv, hr⟩ := h i x hx
    refine ⟨v, ?_, hr⟩
    rw [← hv]
    simp only [gOf, Addr.add]
    split
    · rename_i h0; subst h0; rfl
    · rfl
theorem cells_get {a : Addr} {n : Nat} {cs : List Value} (h : w.cells? base a n = some cs) : cs.length = n ∧ ∀ (i : Nat) v, cs[i]? = some v → w.cell? (a.add i) = some v := by
  unfold World.cells? at h
  split at h
  · have key : ∀ (l : List Nat) (cs : List Value), l.mapM (fun i => w.cell? (a.add i)) = some cs → cs.length = l.length ∧ ∀ (i : Nat) v, cs[i]? = some v → ∃ j, l[i]? = some j ∧ w.cell? (a.add j) = some v := by
      intro l
      induction l with
      | nil => intro cs h; simp at h; subst h; simp
      | cons x l ih =>
        intro cs h
        rw [List.mapM_cons] at h
        cases hx : w.cell? (a.add x) with
        | none => simp [hx] at h
        | some v0 =>
          cases hl : l.mapM (fun i => w.cell? (a.add i)) with
          | none => simp [hx, hl] at h
          | some r =>
            simp [hx, hl] at h
            subst h
            obtain ⟨h1, h2⟩ := ih r hl
            refine ⟨by simp [h1], fun i v hv => ?_⟩
            cases i with
            | zero => simp at hv; subst hv; exact ⟨x, by simp, hx⟩
            | succ i =>
              obtain ⟨j, hj, hw⟩ := h2 i v (by simpa using hv)
              exact ⟨j, by simpa using hj, hw⟩
    obtain ⟨h1, h2⟩ := key _ _ h
    refine ⟨by simpa using h1, fun i v hv => ?_⟩
    obtain ⟨j, hj, hw⟩ := h2 i v hv
    have hlt := (List.getElem?_eq_some_iff.1 hj).1
    simp at hlt
    rw [List.getElem?_range hlt] at hj
    cases hj
    exact hw
  · cases h

theorem slice_av {a : Addr} {n : Nat} {ok : List AV → Prop} : ∀ (len off : Nat), (∀ i, i < len → ∃ cells as, w.cells? base (a.add ((off + i) * n)) n = some cells ∧ lrel (gOf w) as cells ∧ ok as) →
    ∃ cs : List AV, cs.length = len * n ∧ (∀ (k : Nat) x, cs[k]? = some x → ∃ v, w.cell? (a.add (off * n + k)) = some v ∧ vrel (gOf w) x v) ∧ ∀ i, i < len → ok ((cs.drop (i * n)).take n)
  | 0, off, _ => ⟨[], by simp, by simp, by simp⟩
  | len + 1, off, h => by
    obtain ⟨cells, as, hc, hr, hok⟩ := h 0 (by omega)
    obtain ⟨cs, h1, h2, h3⟩ := slice_av len (off + 1) fun i hi => by
      have := h (i + 1) (by omega)
      rwa [show off + (i + 1) = off + 1 + i by omega] at this
    obtain ⟨hl, hg⟩ := cells_get hc
    have hal : as.length = n := by rw [← hl]; exact (lrel_length hr).symm
    refine ⟨as ++ cs, by simp [hal, h1, Nat.add_mul]; omega, fun k x hx => ?_, fun i hi => ?_⟩
    · rcases Nat.lt_or_ge k n with hk | hk
      · rw [List.getElem?_append_left (by omega)] at hx
        obtain ⟨v, hv, hvr⟩ := lrel_get k x hr hx
        refine ⟨v, ?_, hvr⟩
        have := hg k v hv
        rwa [add_add, Nat.add_zero] at this
      · rw [List.getElem?_append_right (by omega)] at hx
        obtain ⟨v, hv, hvr⟩ := h2 _ x hx
        refine ⟨v, ?_, hvr⟩
        rw [← hv]
        congr 2
        rw [Nat.add_mul, hal]; omega
    · cases i with
      | zero =>
        simp only [Nat.zero_mul, List.drop_zero]
        rw [List.take_append_of_le_length (by omega), List.take_of_length_le (by omega)]
        exact hok
      | succ i =>
        have : (as ++ cs).drop ((i + 1) * n) = cs.drop (i * n) := by
          rw [Nat.add_mul, Nat.one_mul, Nat.add_comm, ← List.drop_drop, ← hal, List.drop_left]
        rw [this]
        exact h3 i (by omega)

theorem fields_av {g : Gam} {cs : List Value} {ok : Field → List AV → Prop} : ∀ (fs : List Field) (o n : Nat), contig P o fs n = true → cs.length = n → o ≤ n →
    (∀ f ∈ fs, ∃ as, lrel g as ((cs.drop f.offset).take (P.cellsOf f.type)) ∧ ok f as) →
    ∃ as : List AV, lrel g as (cs.drop o) ∧ ∀ f ∈ fs, o ≤ f.offset ∧ ok f ((as.drop (f.offset - o)).take (P.cellsOf f.type))
  | [], o, n, hc, hl, ho, h => by
    simp only [contig, beq_iff_eq] at hc
    exact ⟨[], by simp only [lrel]; rw [List.drop_eq_nil_iff]; omega, by simp⟩
  | f :: fs, o, n, hc, hl, ho, h => by
    simp only [contig, Bool.and_eq_true, beq_iff_eq] at hc
    obtain ⟨hfo, hc⟩ := hc
    obtain ⟨a0, hr0, hok0⟩ := h f (by simp)
    have hle : ∀ (fs : List Field) (o : Nat), contig P o fs n = true → o ≤ n := by
      intro fs
      induction fs with
      | nil => intro o h; simp only [contig, beq_iff_eq] at h; omega
      | cons x fs ih => intro o h; simp only [contig, Bool.and_eq_true] at h; have := ih _ h.2; omega
    have hle' := hle _ _ hc
    obtain ⟨as, hr, hok⟩ := fields_av fs (o + P.cellsOf f.type) n hc hl hle' fun f' hf' => h f' (by simp [hf'])
    have hl0 : a0.length = P.cellsOf f.type := by
      have := lrel_length hr0
      rw [← this]
      simp; omega
    refine ⟨a0 ++ as, ?_, fun f' hf' => ?_⟩
    · have : cs.drop o = (cs.drop f.offset).take (P.cellsOf f.type) ++ cs.drop (o + P.cellsOf f.type) := by
        rw [hfo, ← List.drop_drop, List.take_append_drop]
      rw [this]
      exact lrel_append hr0 hr
    · rcases List.mem_cons.1 hf' with rfl | hf'
      · refine ⟨by omega, ?_⟩
        rw [hfo, Nat.sub_self, List.drop_zero, List.take_append_of_le_length (by omega), List.take_of_length_le (by omega)]
        exact hok0
      · obtain ⟨h1, h2⟩ := hok f' hf'
        refine ⟨by omega, ?_⟩
        have : (a0 ++ as).drop (f'.offset - o) = as.drop (f'.offset - (o + P.cellsOf f.type)) := by
          rw [show f'.offset - o = a0.length + (f'.offset - (o + P.cellsOf f.type)) by omega, ← List.drop_drop, List.drop_left]
        rw [this]; exact h2

theorem chunks_av {g : Gam} {cs : List Value} {n : Nat} {ok : List AV → Prop} : ∀ (m o : Nat), cs.length = (o + m) * n →
    (∀ i, i < m → ∃ as, lrel g as ((cs.drop ((o + i) * n)).take n) ∧ ok as) → ∃ as : List AV, lrel g as (cs.drop (o * n)) ∧ ∀ i, i < m → ok ((as.drop (i * n)).take n)
  | 0, o, hl, _ => ⟨[], by simp only [lrel]; rw [List.drop_eq_nil_iff]; simp at hl; omega, by simp⟩
  | m + 1, o, hl, h => by
    obtain ⟨a0, hr0, hok0⟩ := h 0 (by omega)
    obtain ⟨as, hr, hok⟩ := chunks_av m (o + 1) (by rw [hl]; congr 1; omega) fun i hi => by
      have := h (i + 1) (by omega)
      rwa [show o + (i + 1) = o + 1 + i by omega] at this
    rw [Nat.add_zero] at hr0
    have hbig : o * n + n ≤ cs.length := by rw [hl, ← Nat.succ_mul]; exact Nat.mul_le_mul_right _ (by omega)
    have hl0 : a0.length = n := by
      have := lrel_length hr0
      rw [← this]
      simp; omega
    refine ⟨a0 ++ as, ?_, fun i hi => ?_⟩
    · have : cs.drop (o * n) = (cs.drop (o * n)).take n ++ cs.drop ((o + 1) * n) := by
        rw [Nat.add_mul, Nat.one_mul, ← List.drop_drop, List.take_append_drop]
      rw [this]
      exact lrel_append hr0 hr
    · cases i with
      | zero =>
        simp only [Nat.zero_mul, List.drop_zero]
        rw [List.take_append_of_le_length (by omega), List.take_of_length_le (by omega)]
        exact hok0
      | succ i =>
        have : (a0 ++ as).drop ((i + 1) * n) = as.drop (i * n) := by
          rw [Nat.add_mul, Nat.one_mul, Nat.add_comm, ← List.drop_drop, ← hl0, List.drop_left]
        rw [this]
        exact hok i (by omega)

theorem trod_av {N : Nat} (hN : maxLen ≤ N) : ∀ (F : Nat) (fuel : Nat) (t : TypeId) (cs : List Value) (x : DataW H × List MemPlace), flat P F t = true → DataW.trod enc P w base spare held fuel t cs = some x →
    ∃ as, lrel (gOf w) as cs ∧ avOk P N F t as
  | 0, _, _, _, _, hf, _ => by simp [flat] at hf
  | F + 1, 0, _, _, _, _, h => by simp [DataW.trod] at h
  | F + 1, fuel + 1, t, cs, x, hf, h => by
    unfold flat at hf
    unfold avOk
    split at hf
    · rename_i hu
      have : ∃ b, cs = [.bool b] := by
        rcases cs with _ | ⟨v, _ | ⟨v2, r⟩⟩ <;> (try cases v) <;> simp [DataW.trod, hu] at h ⊢
      obtain ⟨b, rfl⟩ := this
      exact ⟨[.bool b], by simp only [lrel]; exact ⟨_, _, rfl, by simp only [vrel], rfl⟩, ⟨b, rfl⟩⟩
    · rename_i k hu
      have : ∃ n, cs = [.int k n] ∧ (Lit.int k n).wf = true := by
        rcases cs with _ | ⟨v, _ | ⟨v2, r⟩⟩ <;> (try cases v) <;> simp [DataW.trod, hu] at h ⊢
        obtain ⟨⟨rfl, hw⟩, _⟩ := h
        exact ⟨_, ⟨rfl, rfl⟩, hw⟩
      obtain ⟨n, rfl, hw⟩ := this
      exact ⟨[.int k n], by simp only [lrel]; exact ⟨_, _, rfl, by simp only [vrel], rfl⟩, ⟨n, rfl, hw⟩⟩
    · rename_i hu
      have : ∃ z, cs = [.string z] ∧ z.size ≤ maxLen := by
        rcases cs with _ | ⟨v, _ | ⟨v2, r⟩⟩ <;> (try cases v) <;> simp [DataW.trod, hu] at h ⊢
        exact h.1
      obtain ⟨z, rfl, hw⟩ := this
      exact ⟨[.str z], by simp only [lrel]; exact ⟨_, _, rfl, by simp only [vrel], rfl⟩, ⟨z, rfl, Nat.le_trans hw hN⟩⟩
    · rename_i e hu
      rcases DataW.trod_pointer hu h with ⟨rfl, _⟩ | ⟨a, cells, y, n, hn, rfl, _, hc, hy⟩
      · exact ⟨[.nilp], by simp only [lrel]; exact ⟨_, _, rfl, by simp only [vrel], rfl⟩, .inl rfl⟩
      · cases hn
        obtain ⟨as, hr, hok⟩ := trod_av hN F fuel e cells y hf hy
        obtain ⟨hl, hg⟩ := cells_get hc
        have hz : zrel (gOf w) as a := zrel_cells fun i z hz => by
          obtain ⟨v, hv, hvr⟩ := lrel_get i z hr hz
          exact ⟨v, hg i v hv, hvr⟩
        exact ⟨[.iptr as], by simp only [lrel]; exact ⟨_, _, rfl, by simp only [vrel]; exact ⟨a, rfl, hz⟩, rfl⟩, .inr ⟨as, rfl, by rw [← hl]; exact (lrel_length hr).symm, hok⟩⟩
    · rename_i e hu
      rcases DataW.trod_slice hu h with ⟨rfl, _⟩ | ⟨a, len, cap, elems, rest, n, hn, rfl, _, _, hlc, hcm, hel, hget, _⟩
      · exact ⟨[.nils], by simp only [lrel]; exact ⟨_, _, rfl, by simp only [vrel], rfl⟩, .inl rfl⟩
      · cases hn
        obtain ⟨as, h1, h2, h3⟩ := slice_av (w := w) (base := base) (a := a) (n := P.cellsOf e) (ok := avOk P N F e) len 0 fun i hi => by
          have := hget i hi
          have hlt : i < elems.length := by omega
          rw [List.getElem?_eq_getElem hlt, Option.bind_eq_some_iff] at this
          obtain ⟨cells, hc, hy⟩ := this
          obtain ⟨as, hr, hok⟩ := trod_av hN F fuel e cells _ hf hy
          exact ⟨cells, as, by rw [Nat.zero_add]; exact hc, hr, hok⟩
        have hz : zrel (gOf w) as a := zrel_cells fun i z hz => by
          obtain ⟨v, hv, hvr⟩ := h2 i z hz
          exact ⟨v, by simpa using hv, hvr⟩
        exact ⟨[.is len as], by simp only [lrel]; exact ⟨_, _, rfl, by simp only [vrel]; exact ⟨a, cap, rfl, hlc, hz⟩, rfl⟩, .inr ⟨len, as, rfl, by omega, h1, h3⟩⟩
    · rename_i fs hu
      simp only [Bool.and_eq_true, List.all_eq_true] at hf
      obtain ⟨xs, n, hn, _, hlen, hxs, hget⟩ := DataW.trod_struct hu h
      cases hn
      obtain ⟨as, hr, hok⟩ := fields_av (g := gOf w) (cs := cs) (ok := fun f as => avOk P N F f.type as) fs.toList 0 _ hf.1 hlen (Nat.zero_le _) fun f hfm => by
        obtain ⟨i, hi⟩ := List.mem_iff_getElem?.1 hfm
        have hi' : fs[i]? = some f := by simpa using hi
        have hlt : i < xs.length := by rw [hxs]; exact (Array.getElem?_eq_some_iff.1 hi').1
        have := hget i f hi'
        rw [List.getElem?_eq_getElem hlt] at this
        exact trod_av hN F fuel f.type _ _ (hf.2 f hfm) this
      refine ⟨as, by simpa using hr, ⟨by rw [← hlen]; have := lrel_length hr; simp at this; exact this.symm, fun f hfm => ?_⟩⟩
      have := (hok f (by simpa using hfm)).2
      simpa using this
    · rename_i n e hu
      simp only [Bool.and_eq_true, beq_iff_eq] at hf
      obtain ⟨xs, m, hm, _, hlen, hxs, hget⟩ := DataW.trod_array hu h
      cases hm
      obtain ⟨as, hr, hok⟩ := chunks_av (g := gOf w) (cs := cs) (n := P.cellsOf e) (ok := avOk P N F e) n 0 (by rw [hlen, hf.2, Nat.zero_add]) fun i hi => by
        have := hget i hi
        have hlt : i < xs.length := by omega
        rw [List.getElem?_eq_getElem hlt] at this
        rw [Nat.zero_add]
        exact trod_av hN F fuel e _ _ hf.1 this
      exact ⟨as, by simpa using hr, ⟨by rw [← hlen]; have := lrel_length hr; simp at this; exact this.symm, hok⟩⟩
    · cases hf

/-- One argument. -/
def argOk (P : Program) (N F : Nat) (t : TypeId) (a : AV) : Prop := match P.underlying t with
  | some (.struct _) => ∃ cs, a = .agg cs ∧ avOk P N F t cs
  | some (.array _ _) => ∃ cs, a = .agg cs ∧ avOk P N F t cs
  | _ => avOk P N F t [a]
def argsOk (P : Program) (N F : Nat) : List TypeId → List AV → Prop
  | [], as => as = []
  | t :: ts, as => ∃ a r, as = a :: r ∧ argOk P N F t a ∧ argsOk P N F ts r

theorem arg_av {N : Nat} (hN : maxLen ≤ N) {F : Nat} {t : TypeId} {v : Value} {d : DataW H} {ps : List MemPlace} {rch : Reach} {b : Nat} (hf : flat P F t = true) (hv : Value.okWide P w rch b t v)
    (h : DataW.Trod enc P w base spare held t v d ps) : ∃ a, vrel (gOf w) a v ∧ argOk P N F t a := by
  obtain ⟨fuel, h⟩ := h
  obtain ⟨as, hr, hok⟩ := trod_av hN F fuel t _ _ hf h
  unfold Value.okWide at hv
  unfold argOk
  have scal : Cell.okWide P w rch b t v → ∃ a, vrel (gOf w) a v ∧ avOk P N F t [a] := by
    intro hc
    have hone : v.cells.toList = [v] := by
      cases v <;> first | rfl | (rename_i cs; exfalso; unfold Cell.okWide at hc; split at hc <;> first | (simp_all; done) | (unfold Cell.ok at hc; split at hc <;> simp_all))
    rw [hone] at hr
    cases as with
    | nil => simp only [lrel] at hr; cases hr
    | cons a r =>
      simp only [lrel] at hr
      obtain ⟨v', r', he, h1, h2⟩ := hr
      simp only [List.cons.injEq] at he
      obtain ⟨rfl, rfl⟩ := he
      cases r with
      | nil => exact ⟨a, h1, hok⟩
      | cons _ _ => simp only [lrel] at h2; obtain ⟨_, _, h2, _⟩ := h2; cases h2
  split at hv
  · rename_i hu
    obtain ⟨cs, rfl, _, _⟩ := hv
    exact ⟨.agg as, by simp only [vrel]; exact ⟨cs.toList, by simp, by simpa [Value.cells] using hr⟩, by rw [hu]; exact ⟨as, rfl, hok⟩⟩
  · rename_i hu
    obtain ⟨cs, rfl, _, _⟩ := hv
    exact ⟨.agg as, by simp only [vrel]; exact ⟨cs.toList, by simp, by simpa [Value.cells] using hr⟩, by rw [hu]; exact ⟨as, rfl, hok⟩⟩
  · rename_i h1 h2
    split
    · rename_i fs hu; exact absurd hu (h1 fs)
    · rename_i n e hu; exact absurd hu (h2 n e)
    · exact scal hv
theorem args_av {N : Nat} (hN : maxLen ≤ N) {F : Nat} {rch : Reach} {b : Nat} : ∀ {ts : List TypeId} {vs : List Value} {ds : List (DataW H)} {ps : List MemPlace}, (∀ t ∈ ts, flat P F t = true) →
    (∀ (j : Nat) t v, ts[j]? = some t → vs[j]? = some v → Value.okWide P w rch b t v) → DataW.TrodAll enc P w base spare held ts vs ds ps → ∃ as, lrel (gOf w) as vs ∧ argsOk P N F ts as
  | [], vs, ds, ps, _, _, h => by
    obtain ⟨rfl, _, _⟩ := ChangeShapes.trodAll_nil h
    exact ⟨[], by simp only [lrel], rfl⟩
  | t :: ts, vs, ds, ps, hf, hv, h => by
    obtain ⟨v, vs1, d, ds1, p, q, rfl, rfl, rfl, h1, h2⟩ := ChangeShapes.trodAll_cons h
    obtain ⟨a, hr, hok⟩ := arg_av hN (hf t (by simp)) (hv 0 t v rfl rfl) h1
    obtain ⟨as, hrs, hoks⟩ := args_av hN (fun t ht => hf t (by simp [ht])) (fun j t v h1 h2 => hv (j + 1) t v (by simpa using h1) (by simpa using h2)) h2
    exact ⟨a :: as, by simp only [lrel]; exact ⟨v, vs1, rfl, hr, hrs⟩, a, as, rfl, hok, hoks⟩
end
end Go.Ab

/- From what the abstract machine says of a law's function to the claim's own words. -/
namespace Go.Ab
section
variable {P : Program} {H : Type} {enc : TypeId × Value → H}

theorem trodAll_stays {w w' : World} {sp : Nat → Bool} (hl : laidOutB P = true) (hm : mapsRowed P = true) (hsz : ∀ t e, t < P.types.size → P.underlying t = some (.slice e) → 0 < P.cellsOf e) :
    ∀ {ts : List TypeId} {vs : List Value} {ds : List (DataW H)} {ps : List MemPlace}, (∀ t ∈ ts, t < P.types.size) → DataW.TrodAll enc P w 0 (fun _ => true) true ts vs ds ps → (∀ p ∈ ps, w.sameAt w' p) →
      (∀ p ∈ ps, sp p.block = true) → DataW.TrodAll enc P w' 0 sp true ts vs ds ps
  | [], vs, ds, ps, _, h, _, _ => by
    obtain ⟨rfl, rfl, rfl⟩ := ChangeShapes.trodAll_nil h
    exact ChangeShapes.trodAll_mk0
  | t :: ts, vs, ds, ps, ht, h, hs, hp => by
    obtain ⟨v, vs1, d, ds1, p, q, rfl, rfl, rfl, ⟨fuel, h1⟩, h2⟩ := ChangeShapes.trodAll_cons h
    refine ⟨p, q, ⟨fuel, DataW.trod_stays (T := (· < P.types.size)) (kids_rows hl hm) (fun h1 h2 => hsz _ _ h1 h2) (fun h => by cases h) (ht t (by simp)) h1 (fun x hx => hs x (by simp [hx])) fun x hx => hp x (by simp [hx])⟩, ?_, rfl⟩
    exact trodAll_stays hl hm hsz (fun t h => ht t (by simp [h])) h2 (fun x hx => hs x (by simp [hx])) fun x hx => hp x (by simp [hx])

theorem trodAll_length' {w : World} {base : Nat} {spare : Nat → Bool} {held : Bool} : ∀ {ts : List TypeId} {vs : List Value} {ds : List (DataW H)} {ps : List MemPlace}, DataW.TrodAll enc P w base spare held ts vs ds ps → ds.length = ts.length
  | [], _, _, _, h => by obtain ⟨rfl, rfl, rfl⟩ := ChangeShapes.trodAll_nil h; rfl
  | _ :: _, _, _, _, h => by
    obtain ⟨v, vs1, d, ds1, p, q, rfl, rfl, rfl, h1, h2⟩ := ChangeShapes.trodAll_cons h
    simp [trodAll_length' h2]
theorem trodBool' {w : World} {base : Nat} {spare : Nat → Bool} {held : Bool} {t : TypeId} (ht : P.underlying t = some .bool) (b : Bool) : DataW.TrodAll enc P w base spare held [t] [.bool b] [.lit (.bool b)] [] :=
  ⟨[], [], ⟨1, by simp [DataW.trod, ht, Value.cells]⟩, rfl, rfl⟩

theorem start_rel (W : World) : RW (fun b => W.heap.size ≤ b) ⟨W.heap, W.os, W.output, (gOf W).Z⟩ (gOf W) (fun _ => none) [] S0 W where
  zone := fun b o v h => h
  live := fun id b o sz h => by cases h
  dead := fun id h => by cases h
  fresh := fun id h => rfl
  yfresh := fun id h => rfl
  box := fun s cs h => by cases h
  boxOf := fun s b h => by cases h
  dist := fun id id' b o sz o' sz' h => by cases h
  bdist := fun s s' b h => by cases h
  hdist := fun id s b o sz h => by cases h
  hZ := fun id b o sz x h => by cases h
  bZ := fun s b x h => by cases h
  hM := fun id b o sz h => by cases h
  bM := fun s b h => by cases h
  frame := fun b _ => rfl
  zM := fun b x _ => rfl
  size := Nat.le_refl _
  os := rfl
  outp := rfl

theorem law_calls {C : CallF} (hC : NOk P (fun _ => none) C) {fid way : Nat} {W : World} {as : List AV} {args : Array Value} {S' : Heap} (hr : lrel (gOf W) as args.toList)
    (hlt : fid < yldId) (h : C fid way as S0 = some (.bool true, S')) :
    Calls P fid args W fun e W' => e = .returned (.bool true) ∧ (∀ b, b < W.heap.size → W'.heap[b]? = W.heap[b]?) ∧ W'.os = W.os ∧ W'.output = W.output := by
  have hc := (hC.ok fid way as S0 _ hlt h).2 (fun b => W.heap.size ≤ b) ⟨W.heap, W.os, W.output, (gOf W).Z⟩ (gOf W) (fun _ => none) [] W args.toList (fun b h => h) (fun i cs h => by cases h) (start_rel W) hr
  refine Calls.mono (by rw [Array.toArray_toList] at hc; exact hc) fun e W' he => ?_
  obtain ⟨v', g', rfl, _, hv, R, _⟩ := he
  simp only [vrel] at hv
  subst hv
  exact ⟨rfl, fun b hb => R.frame b (by omega), R.os, R.outp⟩

theorem law_post {f : Func} {s : ChangeSpec} {W W' : World} {args : Array Value} {ds gs : List (DataW H)} {before : List MemPlace} {tb : TypeId} (hl : laidOutB P = true) (hm : mapsRowed P = true)
    (hsz : ∀ t e, t < P.types.size → P.underlying t = some (.slice e) → 0 < P.cellsOf e) (hpar : ∀ t ∈ f.params.toList, t < P.types.size) (hvars : s.vars = [])
    (hspec : ∀ ds : List (DataW H), ds.length = f.params.size → s.fn H ds = { results := [.lit (.bool true)], args := ds }) (hres : f.resultTypes = #[tb]) (hb : P.underlying tb = some .bool)
    (hW : DataW.Whole enc P f.params.toList s.vars false W args.toList ds gs before) (hsame : ∀ b, b < W.heap.size → W'.heap[b]? = W.heap[b]?) (hos : W'.os = W.os) (hout : W'.output = W.output) :
    s.post enc P f false true false false W args (.bool true) W' := by
  have hlt := hW.lt
  have hW' := hW
  obtain ⟨p, q, hA, hV, rfl, _, _⟩ := hW
  rw [hvars] at hV
  have hgs : gs = [] ∧ q = [] := by
    cases gs with
    | nil => exact ⟨rfl, hV⟩
    | cons _ _ => exact hV.elim
  obtain ⟨rfl, rfl⟩ := hgs
  have hlen : ds.length = f.params.size := by
    have := trodAll_length' hA
    simpa using this
  have hs : ∀ x ∈ p, W.sameAt W' x := by
    intro x hx
    have hxl := hlt x (by simp [hx])
    cases x with
    | cell b off => simp only [World.sameAt, World.cell?, hsame b hxl]
    | map b => exact hsame b hxl
  refine ⟨ds, [], p ++ [], [], p, [], hW', ?_, ?_, ?_, ⟨hos, hout, fun i hi => ?_⟩, fun h => by cases h⟩
  · rw [List.append_nil, hspec ds hlen, hres]
    exact trodBool' hb true
  · rw [List.append_nil, hspec ds hlen]
    exact trodAll_stays hl hm hsz hpar hA hs fun x hx => by simpa using hlt x (by simp [hx])
  · rw [List.append_nil, hspec ds hlen, hvars]
    rfl
  · rw [hsame i hi]
    cases W.heap[i]? with
    | none => rfl
    | some o => cases o <;> first | exact ⟨rfl, rfl, rfl, fun _ _ => rfl⟩ | exact .inr ⟨rfl, rfl⟩ | rfl
end
end Go.Ab

/- Package-level variables that read as known data: what they hold, as values of the abstract machine. -/
namespace Go.Ab
mutual
/-- The cells of a datum. -/
def dav {H : Type} : DataW H → Option (List AV)
  | .lit (.bool b) => some [.bool b]
  | .lit (.int k n) => some [.int k n]
  | .agg ps => davL ps
  | .slice es _ => (match davL es with | some cs => some [.is es.length cs] | none => none)
  | _ => none
def davL {H : Type} : List (DataW H) → Option (List AV)
  | [] => some []
  | d :: l => match dav d, davL l with | some a, some b => some (a ++ b) | _, _ => none
end
section
variable {P : Program} {w : World} {H : Type} {enc : TypeId × Value → H} {base : Nat} {spare : Nat → Bool} {held : Bool}

theorem davL_cons {d : DataW H} {l : List (DataW H)} {as : List AV} (h : davL (d :: l) = some as) : ∃ a b, dav d = some a ∧ davL l = some b ∧ as = a ++ b := by
  unfold davL at h
  split at h
  · rename_i a b h1 h2; cases h; exact ⟨a, b, h1, h2, rfl⟩
  · cases h

theorem fields_dav {g : Gam} {cs : List Value} : ∀ (fs : List Field) (xs : List (DataW H × List MemPlace)) (o n : Nat) (as : List AV), contig P o fs n = true → cs.length = n → o ≤ n → xs.length = fs.length →
    (∀ (i : Nat) f x, fs[i]? = some f → xs[i]? = some x → ∀ a, dav x.1 = some a → lrel g a ((cs.drop f.offset).take (P.cellsOf f.type))) → davL (xs.map (·.1)) = some as → lrel g as (cs.drop o)
  | [], xs, o, n, as, hc, hl, ho, hx, h, hd => by
    have : xs = [] := List.eq_nil_of_length_eq_zero (by simpa using hx)
    subst this
    simp only [contig, beq_iff_eq] at hc
    simp only [List.map_nil, davL] at hd
    cases hd
    simp only [lrel]; rw [List.drop_eq_nil_iff]; omega
  | f :: fs, [], o, n, as, hc, hl, ho, hx, h, hd => by simp at hx
  | f :: fs, x :: xs, o, n, as, hc, hl, ho, hx, h, hd => by
    simp only [contig, Bool.and_eq_true, beq_iff_eq] at hc
    obtain ⟨hfo, hc⟩ := hc
    simp only [List.map_cons] at hd
    obtain ⟨a, b, h1, h2, rfl⟩ := davL_cons hd
    have hr0 := h 0 f x rfl rfl a h1
    have hle : ∀ (fs : List Field) (o : Nat), contig P o fs n = true → o ≤ n := by
      intro fs
      induction fs with
      | nil => intro o h; simp only [contig, beq_iff_eq] at h; omega
      | cons x fs ih => intro o h; simp only [contig, Bool.and_eq_true] at h; have := ih _ h.2; omega
    have hle' := hle _ _ hc
    have hr := fields_dav fs xs (o + P.cellsOf f.type) n b hc hl hle' (by simpa using hx) (fun i f' x' e1 e2 => h (i + 1) f' x' (by simpa using e1) (by simpa using e2)) h2
    have : cs.drop o = (cs.drop f.offset).take (P.cellsOf f.type) ++ cs.drop (o + P.cellsOf f.type) := by
      rw [hfo, ← List.drop_drop, List.take_append_drop]
    rw [this]
    exact lrel_append hr0 hr
theorem chunks_dav {g : Gam} {cs : List Value} {n : Nat} : ∀ (xs : List (DataW H × List MemPlace)) (o : Nat) (as : List AV), cs.length = (o + xs.length) * n →
    (∀ (i : Nat) x, xs[i]? = some x → ∀ a, dav x.1 = some a → lrel g a ((cs.drop ((o + i) * n)).take n)) → davL (xs.map (·.1)) = some as → lrel g as (cs.drop (o * n))
  | [], o, as, hl, h, hd => by
    simp only [List.map_nil, davL] at hd
    cases hd
    simp only [lrel]; rw [List.drop_eq_nil_iff]; simp at hl; omega
  | x :: xs, o, as, hl, h, hd => by
    simp only [List.map_cons] at hd
    obtain ⟨a, b, h1, h2, rfl⟩ := davL_cons hd
    have hr0 := h 0 x rfl a h1
    have hr := chunks_dav xs (o + 1) b (by rw [hl]; simp only [List.length_cons]; congr 1; omega) (fun i x' e => by
      have := h (i + 1) x' (by simpa using e)
      rwa [show o + (i + 1) = o + 1 + i by omega] at this) h2
    rw [Nat.add_zero] at hr0
    have : cs.drop (o * n) = (cs.drop (o * n)).take n ++ cs.drop ((o + 1) * n) := by
      rw [Nat.add_mul, Nat.one_mul, ← List.drop_drop, List.take_append_drop]
    rw [this]
    exact lrel_append hr0 hr
theorem slice_dav {a : Addr} {n : Nat} : ∀ (xs : List (DataW H × List MemPlace)) (off : Nat) (as : List AV),
    (∀ (i : Nat) x, xs[i]? = some x → ∃ cells, w.cells? base (a.add ((off + i) * n)) n = some cells ∧ ∀ b, dav x.1 = some b → lrel (gOf w) b cells) → davL (xs.map (·.1)) = some as →
    ∀ (k : Nat) x, as[k]? = some x → ∃ v, w.cell? (a.add (off * n + k)) = some v ∧ vrel (gOf w) x v
  | [], off, as, h, hd, k, x, hx => by
    simp only [List.map_nil, davL] at hd
    cases hd
    simp at hx
  | y :: xs, off, as, h, hd, k, x, hx => by
    simp only [List.map_cons] at hd
    obtain ⟨b, c, h1, h2, rfl⟩ := davL_cons hd
    obtain ⟨cells, hc, hr⟩ := h 0 y rfl
    have hr := hr b h1
    obtain ⟨hl, hg⟩ := cells_get hc
    have hbl : b.length = n := by rw [← hl]; exact (lrel_length hr).symm
    have ih := slice_dav xs (off + 1) c (fun i x' e => by
      have := h (i + 1) x' (by simpa using e)
      rwa [show off + (i + 1) = off + 1 + i by omega] at this) h2
    rcases Nat.lt_or_ge k n with hk | hk
    · rw [List.getElem?_append_left (by omega)] at hx
      obtain ⟨v, hv, hvr⟩ := lrel_get k x hr hx
      refine ⟨v, ?_, hvr⟩
      have := hg k v hv
      rwa [add_add, Nat.add_zero] at this
    · rw [List.getElem?_append_right (by omega)] at hx
      obtain ⟨v, hv, hvr⟩ := ih _ x hx
      refine ⟨v, ?_, hvr⟩
      rw [← hv]
      congr 2
      rw [Nat.add_mul, hbl]; omega

theorem trod_dav : ∀ (F : Nat) (fuel : Nat) (t : TypeId) (cs : List Value) (x : DataW H × List MemPlace) (as : List AV), flat P F t = true → DataW.trod enc P w base spare held fuel t cs = some x → dav x.1 = some as →
    lrel (gOf w) as cs
  | 0, _, _, _, _, _, hf, _, _ => by simp [flat] at hf
  | F + 1, 0, _, _, _, _, _, h, _ => by simp [DataW.trod] at h
  | F + 1, fuel + 1, t, cs, x, as, hf, h, hd => by
    unfold flat at hf
    split at hf
    · rename_i hu
      have : ∃ b, cs = [.bool b] ∧ x.1 = .lit (.bool b) := by
        rcases cs with _ | ⟨v, _ | ⟨v2, r⟩⟩ <;> (try cases v) <;> simp [DataW.trod, hu] at h ⊢
        rw [← h]
      obtain ⟨b, rfl, hx⟩ := this
      rw [hx] at hd
      simp only [dav] at hd
      cases hd
      simp only [lrel]; exact ⟨_, _, rfl, by simp only [vrel], rfl⟩
    · rename_i k hu
      have : ∃ n, cs = [.int k n] ∧ x.1 = .lit (.int k n) := by
        rcases cs with _ | ⟨v, _ | ⟨v2, r⟩⟩ <;> (try cases v) <;> simp [DataW.trod, hu] at h ⊢
        obtain ⟨⟨rfl, hw⟩, h⟩ := h
        exact ⟨_, ⟨rfl, rfl⟩, by rw [← h]⟩
      obtain ⟨n, rfl, hx⟩ := this
      rw [hx] at hd
      simp only [dav] at hd
      cases hd
      simp only [lrel]; exact ⟨_, _, rfl, by simp only [vrel], rfl⟩
    · rename_i hu
      exfalso
      rcases cs with _ | ⟨v, _ | ⟨v2, r⟩⟩ <;> (try cases v) <;> simp [DataW.trod, hu] at h
      rw [← h.2] at hd
      simp [dav] at hd
    · rename_i e hu
      exfalso
      rcases DataW.trod_pointer hu h with ⟨_, hx⟩ | ⟨a, cells, y, n, hn, _, hx, _, hy⟩
      · rw [hx] at hd; simp [dav] at hd
      · rw [hx] at hd; simp [dav] at hd
    · rename_i e hu
      rcases DataW.trod_slice hu h with ⟨rfl, hx⟩ | ⟨a, len, cap, elems, rest, n, hn, rfl, hx, _, hlc, hcm, hel, hget, _⟩
      · rw [hx] at hd; simp [dav] at hd
      · cases hn
        rw [hx] at hd
        simp only [dav] at hd
        split at hd
        · rename_i zs hzs
          cases hd
          have h2 := slice_dav (w := w) (base := base) (a := a) (n := P.cellsOf e) elems 0 zs (fun i x hi => by
            have hlt : i < len := by rw [← hel]; exact (List.getElem?_eq_some_iff.1 hi).1
            have := hget i hlt
            rw [hi, Option.bind_eq_some_iff] at this
            obtain ⟨cells, hc, hy⟩ := this
            exact ⟨cells, by rw [Nat.zero_add]; exact hc, fun b hb => trod_dav F fuel e cells _ b hf hy hb⟩) hzs
          have hz : zrel (gOf w) zs a := zrel_cells fun i z hz => by
            obtain ⟨v, hv, hvr⟩ := h2 i z hz
            exact ⟨v, by simpa using hv, hvr⟩
          simp only [lrel, List.length_map]; exact ⟨_, _, rfl, by simp only [vrel, hel]; exact ⟨a, cap, rfl, hlc, hz⟩, rfl⟩
        · cases hd
    · rename_i fs hu
      simp only [Bool.and_eq_true, List.all_eq_true] at hf
      obtain ⟨xs, n, hn, hx, hlen, hxs, hget⟩ := DataW.trod_struct hu h
      cases hn
      rw [hx] at hd
      simp only [dav] at hd
      have := fields_dav (g := gOf w) (cs := cs) fs.toList xs 0 _ as hf.1 hlen (Nat.zero_le _) (by simpa using hxs) (fun i f x e1 e2 a ha => by
        have hfm : f ∈ fs.toList := List.mem_of_getElem? e1
        have h3 := hget i f (by simpa using e1)
        rw [e2] at h3
        exact trod_dav F fuel f.type _ x a (hf.2 f hfm) h3 ha) hd
      simpa using this
    · rename_i n e hu
      simp only [Bool.and_eq_true, beq_iff_eq] at hf
      obtain ⟨xs, m, hm, hx, hlen, hxs, hget⟩ := DataW.trod_array hu h
      cases hm
      rw [hx] at hd
      simp only [dav] at hd
      have := chunks_dav (g := gOf w) (cs := cs) (n := P.cellsOf e) xs 0 as (by rw [hlen, hf.2, hxs, Nat.zero_add]) (fun i x e2 a ha => by
        have hlt : i < n := by rw [← hxs]; exact (List.getElem?_eq_some_iff.1 e2).1
        have h3 := hget i hlt
        rw [e2] at h3
        rw [Nat.zero_add]
        exact trod_dav F fuel e _ x a hf.1 h3 ha) hd
      simpa using this
    · cases hf
end

/-- One variable. -/
def oneG (i : Nat) (cs : List AV) : Nat → Option (List AV) := fun j => if j = i then some cs else none
def twoG (i : Nat) (cs : List AV) (k : Nat) (ds : List AV) : Nat → Option (List AV) := fun j => if j = i then some cs else if j = k then some ds else none
theorem laid_var {P : Program} {W : World} {nm : String} {D : DataW Unit} {r : List (String × DataW Unit)} {ps : List MemPlace} (h : DataW.LaidVars P W ((nm, D) :: r) ps) : (∃ q, DataW.LaidVars P W r q) ∧
    ∀ (gi : Nat) (t : TypeId) (F : Nat) (as : List AV), P.globalNamed nm = some gi → (P.globals[gi]?).map (·.type) = some t → flat P F t = true → dav D = some as → zrel (gOf W) as ⟨gi, 0, none⟩ := by
  obtain ⟨g0, t0, cs0, f0, p0, q0, hg0, ht0, hv0, hd0, hr, _⟩ := h
  refine ⟨⟨q0, hr⟩, fun gi t F as hg ht hf hd => ?_⟩
  obtain rfl := Option.some.inj (hg.symm.trans hg0)
  obtain rfl := Option.some.inj (ht.symm.trans ht0)
  have hr := trod_dav F f0 t cs0.toList _ as hf hd0 hd
  refine zrel_of fun j a ha => ?_
  obtain ⟨v, hv, hvr⟩ := lrel_get j a hr ha
  refine ⟨v, ?_, hvr⟩
  simp only [gOf, Nat.zero_add]
  rw [World.var?_cell hg0 hv0 j]
  simpa using hv
theorem laid_gok {P : Program} {W : World} {nm : String} {D : DataW Unit} {gi : Nat} {t : TypeId} {F : Nat} {as : List AV} (hp : D.handleName?.isNone = true) (h : laidMetH P [(nm, D)] W) (hg : P.globalNamed nm = some gi)
    (ht : (P.globals[gi]?).map (·.type) = some t) (hf : flat P F t = true) (hd : dav D = some as) : GOk (oneG gi as) (gOf W) := by
  rw [MakeChecks.laidMetH_plain _ _ _ (by simp [hp])] at h
  obtain ⟨ps, hv, _, _⟩ := h
  have hz := (laid_var hv).2 gi t F as hg ht hf hd
  intro i cs e
  unfold oneG at e
  split at e
  · rename_i hi; subst hi; cases e; exact hz
  · cases e
theorem laid_gok2 {P : Program} {W : World} {nm : String} {D : DataW Unit} {gi : Nat} {t : TypeId} {F : Nat} {as : List AV} {nm' : String} {D' : DataW Unit} {gi' : Nat} {t' : TypeId} {as' : List AV} (hp : D.handleName?.isNone = true) (hp' : D'.handleName?.isNone = true)
    (h : laidMetH P [(nm, D), (nm', D')] W) (hg : P.globalNamed nm = some gi) (ht : (P.globals[gi]?).map (·.type) = some t) (hf : flat P F t = true) (hd : dav D = some as)
    (hg' : P.globalNamed nm' = some gi') (ht' : (P.globals[gi']?).map (·.type) = some t') (hf' : flat P F t' = true) (hd' : dav D' = some as') : GOk (twoG gi as gi' as') (gOf W) := by
  rw [MakeChecks.laidMetH_plain _ _ _ (by simp [hp, hp'])] at h
  obtain ⟨ps, hv, _, _⟩ := h
  have h1 := laid_var hv
  obtain ⟨q, hq⟩ := h1.1
  have hz := h1.2 gi t F as hg ht hf hd
  have hz' := (laid_var hq).2 gi' t' F as' hg' ht' hf' hd'
  intro i cs e
  unfold twoG at e
  split at e
  · rename_i hi; subst hi; cases e; exact hz
  · split at e
    · rename_i hi; subst hi; cases e; exact hz'
    · cases e

theorem law_callsG {P : Program} {G : Nat → Option (List AV)} {C : CallF} (hC : NOk P G C) {fid way : Nat} {W : World} {xs : List AV} {args : Array Value} {S' : Heap} (hG : GOk G (gOf W)) (hr : lrel (gOf W) xs args.toList)
    (hlt : fid < yldId) (h : C fid way xs S0 = some (.bool true, S')) :
    Calls P fid args W fun e W' => e = .returned (.bool true) ∧ (∀ b, b < W.heap.size → W'.heap[b]? = W.heap[b]?) ∧ W'.os = W.os ∧ W'.output = W.output := by
  have hc := (hC.ok fid way xs S0 _ hlt h).2 (fun b => W.heap.size ≤ b) ⟨W.heap, W.os, W.output, (gOf W).Z⟩ (gOf W) (fun _ => none) [] W args.toList (fun b h => h) hG (start_rel W) hr
  refine Calls.mono (by rw [Array.toArray_toList] at hc; exact hc) fun e W' he => ?_
  obtain ⟨v', g', rfl, _, hv, R, _⟩ := he
  simp only [vrel] at hv
  subst hv
  exact ⟨rfl, fun b hb => R.frame b (by omega), R.os, R.outp⟩
end Go.Ab

/- Calls that are looked up in a list of what is known of them, and a table of functions above such a list. -/
namespace Go.Ab
section
variable {X : Ctl} {P : Program} {G : Nat → Option (List AV)}
def tabB (l : List (Row X P G)) (B : CallF) : Nat → CallF
  | 0 => B
  | k + 1 => fun f way args S => match B f way args S with
    | some r => some r
    | none => if yldId ≤ f then none else match findRow l f with
      | some e => e.run (tabB l B k) args S
      | none => none
theorem tabB_ok (hX : XOk X P G) (hmix : P.follows .mixedOrders = true) (l : List (Row X P G)) {B : CallF} (hB : NOk P G B) : ∀ k, NOk P G (tabB l B k)
  | 0 => hB
  | k + 1 => by
    refine ⟨fun f way args S r hlt h => ?_, fun f way args S h => by simp only [tabB]; rw [hB.none _ _ _ _ h]; simp only; rw [if_pos h]⟩
    simp only [tabB] at h
    split at h
    · rename_i q hq; cases h; exact hB.ok _ _ _ _ _ hlt hq
    · rw [if_neg (by omega)] at h
      split at h
      · rename_i e he
        have hfid := findRow_some he
        subst hfid
        obtain ⟨hb, hs⟩ := evFnA_sound hX hmix (tabB_ok hX hmix l hB k) e.hf (e.ok _ _ _ _ h)
        exact ⟨⟨e.fn, e.hf, by simpa using e.hn, hb⟩, hs⟩
      · cases h

/-- What is known of calls: by function, the arguments and the result. -/
abbrev Memo := List (Nat × List (List AV × AV))
def memoA : List (List AV × AV) → List AV → Option AV
  | [], _ => none
  | (as, v) :: l, args => match beqL as args with | true => some v | false => memoA l args
def memoF : Memo → Nat → List AV → Option AV
  | [], _, _ => none
  | (g, m) :: l, f, args => match Nat.beq g f with | true => memoA m args | false => memoF l f args
def memoC (M : Memo) : CallF := fun f way args S => match way with
  | 0 => (match memoF M f args with | some v => some (v, S) | none => none)
  | _ => none
def isV (r : Option (AV × Heap)) (v : AV) : Bool := match r with | some (w, _) => w.beq v | none => false
def chkM (C : CallF) (M : Memo) : Bool := M.all fun e => decide (e.1 < yldId) && e.2.all fun x => isV (locC C e.1 0 x.1 S0) x.2
theorem memoA_mem : ∀ {l : List (List AV × AV)} {args : List AV} {v : AV}, memoA l args = some v → (args, v) ∈ l
  | [], _, _, h => by cases h
  | (as, w) :: l, args, v, h => by
    unfold memoA at h
    split at h
    · rename_i hb; cases h; rw [beqL_eq _ _ hb]; simp
    · exact List.mem_cons_of_mem _ (memoA_mem h)
theorem memoF_mem : ∀ {M : Memo} {f : Nat} {args : List AV} {v : AV}, memoF M f args = some v → ∃ m, (f, m) ∈ M ∧ (args, v) ∈ m
  | [], _, _, _, h => by cases h
  | (g, m) :: l, f, args, v, h => by
    unfold memoF at h
    split at h
    · rename_i hb
      have hb := Nat.eq_of_beq_eq_true hb
      subst hb
      exact ⟨m, by simp, memoA_mem h⟩
    · obtain ⟨m', h1, h2⟩ := memoF_mem h
      exact ⟨m', List.mem_cons_of_mem _ h1, h2⟩
theorem locC_any {C : CallF} {f way : Nat} {args : List AV} {v : AV} (h : isV (locC C f way args S0) v = true) (S : Heap) : locC C f way args S = some (v, S) := by
  unfold isV locC at h
  unfold locC
  split at h
  · rename_i w T hT
    have := AV.beq_eq _ _ h
    subst this
    split at hT
    · rename_i ha
      rw [if_pos ha]
      split at hT
      · rename_i q hq
        split at hT
        · rename_i hn
          cases hT
          rw [if_pos hn]
        · cases hT
      · cases hT
    · cases hT
  · cases h
theorem memo_loc {C : CallF} {M : Memo} (h : chkM C M = true) {f : Nat} {args : List AV} {v : AV} (hm : memoF M f args = some v) (S : Heap) : f < yldId ∧ locC C f 0 args S = some (v, S) := by
  obtain ⟨m, h1, h2⟩ := memoF_mem hm
  have := List.all_eq_true.1 h _ h1
  simp only [Bool.and_eq_true, decide_eq_true_eq, List.all_eq_true] at this
  exact ⟨this.1, locC_any (this.2 _ h2) S⟩
theorem memoC_ok (hG0 : ∀ i cs, G i = some cs → noIdL cs = true) {C : CallF} (hC : NOk P G C) {M : Memo} (h : chkM C M = true) : NOk P G (memoC M) := by
  have h0 := locC_ok hG0 hC
  refine ⟨fun f way args S r hlt e => ?_, fun f way args S hf => ?_⟩
  · unfold memoC at e
    split at e
    · split at e
      · rename_i v hv
        cases e
        exact h0.ok _ _ _ _ _ hlt (memo_loc h hv S).2
      · cases e
    · cases e
  · unfold memoC
    split
    · split
      · rename_i v hv
        have := (memo_loc h hv S).1
        omega
      · rfl
    · rfl
/-- One list above another. -/
def orC (A B : CallF) : CallF := fun f way args S => match A f way args S with | some r => some r | none => B f way args S
theorem orC_ok {A B : CallF} (hA : NOk P G A) (hB : NOk P G B) : NOk P G (orC A B) := by
  refine ⟨fun f way args S r hlt e => ?_, fun f way args S hf => ?_⟩
  · unfold orC at e
    split at e
    · rename_i q hq; cases e; exact hA.ok _ _ _ _ _ hlt hq
    · exact hB.ok _ _ _ _ _ hlt e
  · unfold orC
    rw [hA.none _ _ _ _ hf]; exact hB.none _ _ _ _ hf
/-- Calls whose results have no addresses leave the heap as it was, if all that was there is as it was. -/
noncomputable def trimC (C : CallF) : CallF := fun f way args S => match C f way args S with
  | some r => some (ctlW.tr S r.1 r.2)
  | none => none
theorem trimC_ok {C : CallF} (hC : NOk P G C) : NOk P G (trimC C) := by
  refine ⟨fun f way args S r hlt e => ?_, fun f way args S hf => by unfold trimC; rw [hC.none _ _ _ _ hf]⟩
  unfold trimC at e
  split at e
  · rename_i q hq
    cases e
    obtain ⟨h1, h2⟩ := hC.ok _ _ _ _ _ hlt hq
    refine ⟨h1, fun M h0 g be bx w args' hM hG R hr => ?_⟩
    refine Calls.mono (h2 M h0 g be bx w args' hM hG R hr) fun ex w' he => ?_
    obtain ⟨v', g', rfl, le, hv, R', hcx⟩ := he
    obtain ⟨g2, le2, hv2, R2, hc2⟩ := trim_rel ctlW_ok R le R' hv
    exact ⟨v', g2, rfl, le2, hv2, R2, hc2.trans hcx⟩
  · cases e
theorem trimC_some {C : CallF} {f way : Nat} {args : List AV} {S S' : Heap} {v : AV} (h : C f way args S = some (v, S')) (hv : noId v = true) (hx : S'.cx = S.cx) (hb : ∀ i, i < S.next → S'.blk i = S.blk i) : trimC C f way args S = some (v, S) := by
  unfold trimC
  rw [h]
  simp only [ctlW, trim]
  rw [if_pos ⟨hv, hx, hb⟩]
end
end Go.Ab
