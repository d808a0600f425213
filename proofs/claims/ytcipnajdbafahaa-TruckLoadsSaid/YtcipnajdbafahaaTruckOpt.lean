/- The search finds the first of the best loads: plain Lean. -/
import Derived.Test.YtcipnajdbafahaaTruckDfs
namespace Go.Proofs.Ytcipnajdbafahaa.Tk
set_option linter.unusedVariables false
set_option linter.unusedSimpArgs false

def before : List Int → List Int → Bool
  | [], [] => false
  | [], _ :: _ => true
  | _ :: _, [] => false
  | x :: a, y :: b => decide (x < y) || (decide (x = y) && before a b)

theorem before_irrefl : ∀ a, before a a = false
  | [] => rfl
  | x :: a => by simp [before, before_irrefl a]
theorem before_app : ∀ (p a b : List Int), before (p ++ a) (p ++ b) = before a b
  | [], _, _ => rfl
  | x :: p, a, b => by simp [before, before_app p a b]
theorem before_total : ∀ a b : List Int, before a b = false → before b a = false → a = b
  | [], [], _, _ => rfl
  | [], _ :: _, h, _ => by simp [before] at h
  | _ :: _, [], _, h => by simp [before] at h
  | x :: a, y :: b, h1, h2 => by
    simp only [before, Bool.or_eq_false_iff, decide_eq_false_iff_not, Bool.and_eq_false_iff] at h1 h2
    have e : x = y := by omega
    subst e
    have h3 : before a b = false := by rcases h1.2 with h | h; exact absurd rfl h; exact h
    have h4 : before b a = false := by rcases h2.2 with h | h; exact absurd rfl h; exact h
    rw [before_total a b h3 h4]

/-- ascending indices from k on, below n -/
def Asc (n : Nat) : Nat → List Int → Prop
  | _, [] => True
  | k, x :: r => ∃ m : Nat, x = (m : Int) ∧ k ≤ m ∧ m < n ∧ Asc n (m + 1) r
theorem Asc.mono {n : Nat} : ∀ {a : List Int} {k k' : Nat}, Asc n k a → k' ≤ k → Asc n k' a
  | [], _, _, _, _ => trivial
  | _ :: _, _, _, ⟨m, h1, h2, h3, h4⟩, h => ⟨m, h1, by omega, h3, h4⟩
theorem Asc.len {n : Nat} : ∀ {a : List Int} {k : Nat}, Asc n k a → k ≤ n → a.length + k ≤ n
  | [], _, _, h => by simpa using h
  | _ :: _, _, ⟨m, h1, h2, h3, h4⟩, h => by have := Asc.len h4 (by omega); simp; omega
def tot (l : List Par) : List Int → Par
  | [] => (0, 0, 0)
  | x :: r => addP (l.getD x.toNat (0, 0, 0)) (tot l r)
def Fits (l : List Par) (W V : Int) (a : List Int) : Prop := (tot l a).1 ≤ W ∧ (tot l a).2.1 ≤ V
def Good (l : List Par) : Prop := ∀ k, k < l.length → Small 1000000000000 (l.getD k (0, 0, 0))
theorem tot_nonneg {l : List Par} (hg : Good l) {n : Nat} (hn : n ≤ l.length) : ∀ {a : List Int} {k : Nat}, Asc n k a → 0 ≤ (tot l a).1 ∧ 0 ≤ (tot l a).2.1 ∧ 0 ≤ (tot l a).2.2
  | [], _, _ => by simp [tot]
  | x :: r, k, ⟨m, h1, h2, h3, h4⟩ => by
    have ih := tot_nonneg hg hn h4
    have hp := hg m (by omega)
    subst h1
    simp only [tot, addP, Int.toNat_natCast]
    obtain ⟨a1, a2, a3, a4, a5, a6⟩ := hp
    omega

/-- st' is the first of the best among st and the candidates -/
def Opt (st st' : St) (C : List Int → Int → Prop) : Prop :=
  st.2 ≤ st'.2 ∧ (∀ a g, C a g → g ≤ st'.2) ∧ (st' = st ∨ (C st'.1 st'.2 ∧ st.2 < st'.2 ∧ ∀ a, C a st'.2 → before a st'.1 = false))

theorem Opt.comp {s s1 s2 : St} {C1 C2 : List Int → Int → Prop} (h1 : Opt s s1 C1) (h2 : Opt s1 s2 C2) (h : ∀ a g b g', C1 a g → C2 b g' → before b a = false) : Opt s s2 (fun a g => C1 a g ∨ C2 a g) := by
  obtain ⟨a1, a2, a3⟩ := h1
  obtain ⟨b1, b2, b3⟩ := h2
  refine ⟨by omega, ?_, ?_⟩
  · rintro a g (hc | hc)
    · have := a2 a g hc; omega
    · exact b2 a g hc
  · rcases b3 with b3 | ⟨b3, b4, b5⟩
    · subst b3
      rcases a3 with a3 | ⟨a3, a4, a5⟩
      · exact Or.inl a3
      · refine Or.inr ⟨Or.inl a3, a4, ?_⟩
        rintro a (hc | hc)
        · exact a5 a hc
        · exact h _ _ _ _ a3 hc
    · refine Or.inr ⟨Or.inr b3, by omega, ?_⟩
      rintro a (hc | hc)
      · have := a2 a _ hc; omega
      · exact b5 a hc

theorem Opt.weak {s s' : St} {C D : List Int → Int → Prop} (h : Opt s s' C) (e : ∀ a g, C a g ↔ D a g) : Opt s s' D := by
  obtain ⟨a1, a2, a3⟩ := h
  refine ⟨a1, fun a g hd => a2 a g ((e a g).2 hd), ?_⟩
  rcases a3 with a3 | ⟨a3, a4, a5⟩
  · exact Or.inl a3
  · exact Or.inr ⟨(e _ _).1 a3, a4, fun a hd => a5 a ((e _ _).2 hd)⟩

theorem Opt.none {s : St} {C : List Int → Int → Prop} (h : ∀ a g, ¬ C a g) : Opt s s C := ⟨Int.le_refl _, fun a g hc => absurd hc (h a g), Or.inl rfl⟩

theorem opt_upd (load : List Int) (g : Int) (st : St) : Opt st (upd load g st) (fun a g' => a = load ∧ g' = g) := by
  unfold upd
  by_cases h : st.2 < g
  · rw [if_pos h]
    refine ⟨by show st.2 ≤ g; omega, fun a g' hc => by rw [hc.2]; exact Int.le_refl _, Or.inr ⟨⟨rfl, rfl⟩, h, ?_⟩⟩
    rintro a ⟨rfl, _⟩
    exact before_irrefl _
  · rw [if_neg h]
    exact ⟨Int.le_refl _, fun a g' hc => by rw [hc.2]; omega, Or.inl rfl⟩

/-- the loads that begin with load and go on with indices from k on -/
def Cand (l : List Par) (k : Nat) (load : List Int) (W V g : Int) (a : List Int) (g' : Int) : Prop :=
  ∃ b, b ≠ [] ∧ Asc l.length k b ∧ a = load ++ b ∧ Fits l W V b ∧ g' = g + (tot l b).2.2

theorem loop_opt {l : List Par} (hg : Good l) : ∀ (n k : Nat) (load : List Int) (W V g : Int) (st : St), l.length - k = n → Opt st (loop (l.drop k) k load W V g st) (Cand l k load W V g) := by
  intro n
  induction n using Nat.strongRecOn with
  | ind n ih =>
  intro k load W V g st hn
  by_cases hk : k < l.length
  · rw [loop_step l k hk]
    have hp : l.getD k (0, 0, 0) = l[k] := by simp [hk]
    have ih1 := fun st => ih (l.length - (k + 1)) (by omega) (k + 1) load W V g st rfl
    have hsm := hg k hk
    rw [hp] at hsm
    obtain ⟨p1, p2, p3, p4, p5, p6⟩ := hsm
    by_cases hf : W < l[k].1 ∨ V < l[k].2.1
    · rw [if_pos hf]
      refine (ih1 st).weak ?_
      intro a g'
      constructor
      · rintro ⟨b, h1, h2, h3, h4, h5⟩
        exact ⟨b, h1, h2.mono (by omega), h3, h4, h5⟩
      · rintro ⟨b, h1, h2, h3, h4, h5⟩
        cases b with
        | nil => exact absurd rfl h1
        | cons x r =>
          obtain ⟨m, e1, e2, e3, e4⟩ := h2
          by_cases hm : m = k
          · exfalso
            subst hm
            have hnn := tot_nonneg hg (Nat.le_refl _) e4
            unfold Fits at h4
            subst e1
            simp only [tot, addP, Int.toNat_natCast, hp] at h4
            omega
          · exact ⟨x :: r, h1, ⟨m, e1, by omega, e3, e4⟩, h3, h4, h5⟩
    · rw [if_neg hf]
      have ih2 := ih (l.length - (k + 1)) (by omega) (k + 1) (load ++ [(k : Int)]) (W - l[k].1) (V - l[k].2.1) (g + l[k].2.2) (upd (load ++ [(k : Int)]) (g + l[k].2.2) st) rfl
      have o1 := (opt_upd (load ++ [(k : Int)]) (g + l[k].2.2) st).comp ih2 (by
        rintro a g1 b g2 ⟨rfl, _⟩ ⟨b', h1, h2, rfl, _⟩
        cases b' with
        | nil => exact absurd rfl h1
        | cons x r =>
          have := before_app (load ++ [(k : Int)]) (x :: r) []
          rw [List.append_nil] at this
          rw [this]; rfl)
      have o2 := o1.comp (ih1 _) (by
        intro a g1 b g2 hc hd
        have ha : ∃ r, a = load ++ (k : Int) :: r := by
          rcases hc with ⟨rfl, _⟩ | ⟨b', _, _, rfl, _⟩
          · exact ⟨[], rfl⟩
          · exact ⟨b', by simp⟩
        obtain ⟨r, rfl⟩ := ha
        obtain ⟨b', h1, h2, rfl, _⟩ := hd
        rw [before_app]
        cases b' with
        | nil => exact absurd rfl h1
        | cons x q =>
          obtain ⟨m, e1, e2, _⟩ := h2
          subst e1
          simp only [before, Bool.or_eq_false_iff, decide_eq_false_iff_not, Bool.and_eq_false_iff]
          exact ⟨by omega, Or.inl (by omega)⟩)
      refine o2.weak ?_
      intro a g'
      constructor
      · rintro ((⟨rfl, rfl⟩ | ⟨b, h1, h2, rfl, h4, rfl⟩) | ⟨b, h1, h2, h3, h4, h5⟩)
        · refine ⟨[(k : Int)], by simp, ⟨k, rfl, Nat.le_refl _, hk, trivial⟩, rfl, ?_, ?_⟩
          · unfold Fits; simp only [tot, addP, Int.toNat_natCast, hp]; omega
          · simp only [tot, addP, Int.toNat_natCast, hp]; omega
        · refine ⟨(k : Int) :: b, by simp, ⟨k, rfl, Nat.le_refl _, hk, h2⟩, by simp, ?_, ?_⟩
          · unfold Fits at h4 ⊢; simp only [tot, addP, Int.toNat_natCast, hp]; omega
          · simp only [tot, addP, Int.toNat_natCast, hp]; omega
        · exact ⟨b, h1, h2.mono (by omega), h3, h4, h5⟩
      · rintro ⟨b, h1, h2, rfl, h4, rfl⟩
        cases b with
        | nil => exact absurd rfl h1
        | cons x r =>
          obtain ⟨m, e1, e2, e3, e4⟩ := h2
          by_cases hm : m = k
          · subst hm
            subst e1
            left
            unfold Fits at h4
            simp only [tot, addP, Int.toNat_natCast, hp] at h4
            cases r with
            | nil => left; exact ⟨rfl, by simp only [tot, addP, Int.toNat_natCast, hp]; omega⟩
            | cons y q =>
              right
              refine ⟨y :: q, by simp, e4, by simp, ?_, ?_⟩
              · unfold Fits; omega
              · simp only [tot, addP, Int.toNat_natCast, hp]; omega
          · right
            exact ⟨x :: r, by simp, ⟨m, e1, by omega, e3, e4⟩, rfl, h4, rfl⟩
  · rw [loop_end l k (by omega)]
    refine Opt.none ?_
    rintro a g' ⟨b, h1, h2, _⟩
    cases b with
    | nil => exact h1 rfl
    | cons x r =>
      obtain ⟨m, _, e2, e3, _⟩ := h2
      omega

/-- a is the first of the best loads -/
def IsBest (l : List Par) (W V : Int) (a : List Int) : Prop :=
  Asc l.length 0 a ∧ Fits l W V a ∧ ∀ b, Asc l.length 0 b → Fits l W V b → (tot l b).2.2 ≤ (tot l a).2.2 ∧ ((tot l b).2.2 = (tot l a).2.2 → before b a = false)

theorem IsBest.unique {l : List Par} {W V : Int} {a b : List Int} (ha : IsBest l W V a) (hb : IsBest l W V b) : a = b := by
  obtain ⟨a1, a2, a3⟩ := ha
  obtain ⟨b1, b2, b3⟩ := hb
  have h1 := a3 b b1 b2
  have h2 := b3 a a1 a2
  have e : (tot l b).2.2 = (tot l a).2.2 := by omega
  exact before_total a b (h2.2 e.symm) (h1.2 e)

theorem bestOf_isBest {l : List Par} (hg : Good l) {W V : Int} (hW : 0 ≤ W) (hV : 0 ≤ V) : IsBest l W V (bestOf l W V) := by
  have h := loop_opt hg l.length 0 [] W V 0 ([], 0) rfl
  have e : visit l 0 [] W V 0 ([], 0) = loop (l.drop 0) 0 [] W V 0 ([], 0) := by
    unfold visit upd; rw [if_neg (by simp)]
  unfold bestOf
  rw [e]
  generalize loop (l.drop 0) 0 [] W V 0 ([], 0) = st at h
  obtain ⟨h1, h2, h3⟩ := h
  have cand : ∀ b, b ≠ [] → Asc l.length 0 b → Fits l W V b → (tot l b).2.2 ≤ st.2 := by
    intro b hb ha hf
    have := h2 b (0 + (tot l b).2.2) ⟨b, hb, ha, rfl, hf, rfl⟩
    omega
  rcases h3 with h3 | ⟨⟨b, hb, ha, hab, hf, hw⟩, h4, h5⟩
  · subst h3
    refine ⟨trivial, ⟨by simp [tot]; exact hW, by simp [tot]; exact hV⟩, ?_⟩
    intro b ha hf
    cases b with
    | nil => exact ⟨Int.le_refl _, fun _ => rfl⟩
    | cons x r =>
      have := cand (x :: r) (by simp) ha hf
      refine ⟨by simpa [tot] using this, fun _ => rfl⟩
  · simp only [List.nil_append] at hab
    rw [hab]
    rw [hab] at h5
    simp only [Int.zero_add] at hw
    refine ⟨ha, hf, ?_⟩
    intro b' ha' hf'
    cases b' with
    | nil =>
      have h0 : 0 < (tot l b).2.2 := by rw [← hw]; exact h4
      refine ⟨by simp only [tot]; omega, fun he => ?_⟩
      simp only [tot] at he
      omega
    | cons x r =>
      have h6 := cand (x :: r) (by simp) ha' hf'
      refine ⟨by omega, fun he => ?_⟩
      exact h5 (x :: r) ⟨x :: r, by simp, ha', rfl, hf', by omega⟩

#print axioms bestOf_isBest
end Go.Proofs.Ytcipnajdbafahaa.Tk
