/- Rules of a walk: small regions that draw their order, each order walked. Nothing here names a program. -/
import Derived.Test.YtokkpocccgdilaaEv19
namespace Go.Proofs.Ytokkpocccgdilaa.Ev
set_option linter.unusedVariables false
set_option linter.unusedSimpArgs false
open Go.RowKit
section
variable {P : Program} {ops : Array Oper}

theorem upon_mono2 {o : Oper} {a : Act} {K K' : Act → World → Prop} {Q Q' : Exit → Act → World → Prop} (hk : ∀ a w, K a w → K' a w) (hq : ∀ e a w, e ≠ .normal → Q e a w → Q' e a w) {r : Result Next} (h : o.upon P a K Q r) : o.upon P a K' Q' r := by
  cases r with
  | ok n w' =>
    cases n <;> simp only [Oper.upon] at h ⊢ <;>
      first
        | exact hk _ _ h
        | exact Calls.mono h (fun e w'' he => by cases e <;> first | exact hk _ _ he | exact hq _ _ _ (by intro h; cases h) he | exact (he.elim fun a h => h.elim fun w h => ⟨a, w, hq _ _ _ (by intro h; cases h) h⟩))
        | exact Rows.mono h (fun _ _ he => hk _ _ he)
  | halt x w' => cases x <;> simp only [Oper.upon] at h ⊢ <;> exact hq _ _ _ (by intro h; cases h) h
theorem wpAny_monoQ {md : Region.Mode} {Q Q' : Exit → Act → World → Prop} (hq : ∀ e a w, Q e a w → Q' e a w) : ∀ (g : Nat) (listed : Array Bool) (a : Act) (w : World), wpAny P md ops Q g listed a w → wpAny P md ops Q' g listed a w
  | 0, listed, a, w, h => ⟨h.1, hq _ _ _ h.2⟩
  | g + 1, listed, a, w, h => by
    refine ⟨fun h0 => hq _ _ _ (h.1 h0), fun i hi => ?_⟩
    have hi' := h.2 i hi
    unfold wpOp at hi' ⊢
    split
    · rename_i ho; rw [ho] at hi'; exact wpAny_monoQ hq g _ _ _ hi'
    · rename_i o ho
      simp only [ho] at hi'
      split
      · rename_i hw
        rw [if_pos hw] at hi'
        exact hi'.imp (upon_monoQ (fun a w => wpAny_monoQ hq g _ a w) hq) (fun ⟨h1, a, w, h2⟩ => ⟨h1, a, w, hq _ _ _ h2⟩)
      · rename_i hw
        rw [if_neg hw] at hi'
        exact wpAny_monoQ hq g _ _ _ hi'

/-- Whatever order is drawn from here on. -/
def AAny (P : Program) (ops : Array Oper) (Q : Exit → St → Prop) (g : Nat) (listed : Array Bool) (st : St) : Prop :=
  ∀ base w0 M a, Sim base w0 st M a → wpAny P .any ops (Lift base w0 M Q) g listed a M.w
def only (K : St → Prop) : Exit → St → Prop
  | .normal, st => K st
  | _, _ => False
theorem only_normal {K : St → Prop} {st : St} (h : K st) : only K .normal st := h
theorem aany_nil {Q : Exit → St → Prop} {listed : Array Bool} {st : St} (hr : Region.ready .any ops listed = []) (h : Q .normal st) : AAny P ops Q 0 listed st :=
  fun base w0 M a hs => ⟨hr, M, st, rfl, hs, Ext.refl M, h⟩
theorem aany_step {Q : Exit → St → Prop} {g : Nat} {listed : Array Bool} {st : St} (is : List Nat) (hr : Region.ready .any ops listed = is) (hne : is.isEmpty = false) (h : ∀ i ∈ is, ∃ o, ops[i]? = some o ∧ o.guard = none ∧ AOps P ops (only (AAny P ops Q g (listed.setIfInBounds i true))) [o] st) : AAny P ops Q (g + 1) listed st := by
  intro base w0 M a hs
  refine ⟨fun h0 => ?_, fun i hi => ?_⟩
  · rw [hr] at h0; subst h0; cases hne
  · obtain ⟨o, ho, hg, hA⟩ := h i (by rw [← hr]; exact hi)
    have hl := hA base w0 M a hs
    have hw : Region.wanted o (yielded ops a.tmps) = true := by simp [Region.wanted, hg]
    unfold wpList at hl
    rw [if_pos hw] at hl
    unfold wpOp
    simp only [ho]
    rw [if_pos hw]
    rcases hl with hl | ⟨_, a', w', M', st', _, _, _, hf⟩
    · refine .inl (upon_mono2 (fun a' w' hk => ?_) (fun e a' w' hne hq => ?_) hl)
      · obtain ⟨M', st', e1, e2, e3, e4⟩ := hk
        subst e1
        exact wpAny_monoQ (fun e a w => Lift.ext e3) _ _ _ _ (e4 base w0 M' a' e2)
      · obtain ⟨M', st', e1, e2, e3, e4⟩ := hq
        cases e <;> first | exact absurd rfl hne | exact e4.elim
    · exact hf.elim
/-- A small region that draws its order: each order is walked. -/
theorem aw_drawE {id : Nat} {l : List Oper} {Q : Exit → St → Prop} {st : St} [m : Mixed P] (g : Nat) (hg : l.length = g) (h : AAny P l.toArray Q g (Array.replicate g false) st) : Awp P (.region id l.toArray true) Q st := by
  intro base w0 M a hs
  subst hg
  refine wp_region_any m.h ?_
  have := h base w0 M.drew a hs.drew
  refine wpAny_monoQ (fun e a w => Lift.ext (Ext.drew M)) _ _ _ _ ?_
  have e : l.toArray.size = l.length := by simp
  rw [e]
  exact this
end
end Go.Proofs.Ytokkpocccgdilaa.Ev
