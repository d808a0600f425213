/- The reference's trips, in plain Lean: flags against lists of what is left. -/
import Derived.Test.YtcipnajdbafahaaTruckRef
namespace Go.Proofs.Ytcipnajdbafahaa.Tk
set_option linter.unusedVariables false
set_option linter.unusedSimpArgs false

theorem Asc.mem {n : Nat} : ∀ {a : List Int} {k : Nat}, Asc n k a → ∀ x ∈ a, ∃ m : Nat, x = (m : Int) ∧ k ≤ m ∧ m < n
  | [], _, _, x, hx => by simp at hx
  | y :: r, k, ⟨m, h1, h2, h3, h4⟩, x, hx => by
    rcases List.mem_cons.1 hx with rfl | hx
    · exact ⟨m, h1, h2, h3⟩
    · obtain ⟨p, e, g1, g2⟩ := Asc.mem h4 x hx
      exact ⟨p, e, by omega, g2⟩
theorem picks_skip (best : List Int) (b : Bool) (m : Nat) : ∀ (l : List Int) (k : Nat), m < k → picks ((m : Int) :: best) b k l = picks best b k l
  | [], _, _ => rfl
  | x :: l, k, h => by
    have e : ((m : Int) :: best).contains (k : Int) = best.contains (k : Int) := by
      have : ((k : Int) == (m : Int)) = false := by simp; omega
      simp only [List.contains_cons, this, Bool.false_or]
    simp only [picks]
    rw [e, picks_skip best b m l (k + 1) (by omega)]
theorem picks_map : ∀ (l : List Int) (k : Nat) (best : List Int), Asc (k + l.length) k best → picks best true k l = best.map (fun j => l.getD (j.toNat - k) 0)
  | [], k, best, h => by
    cases best with
    | nil => rfl
    | cons y r => obtain ⟨m, _, h1, h2, _⟩ := h; simp at h2; omega
  | x :: l, k, best, h => by
    cases best with
    | nil =>
      simp only [picks]
      have := picks_map l (k + 1) [] trivial
      rw [this]; rfl
    | cons y r =>
      obtain ⟨m, rfl, h1, h2, h3⟩ := h
      by_cases e : m = k
      · subst e
        have hc : ((m : Int) :: r).contains (m : Int) = true := by simp
        simp only [picks]
        rw [hc, if_pos rfl, picks_skip r true m l (m + 1) (by omega), picks_map l (m + 1) r (by rw [show m + 1 + l.length = m + (x :: l).length by simp; omega]; exact h3)]
        simp only [List.map_cons, Int.toNat_natCast, Nat.sub_self, List.getD_cons_zero]
        congr 1
        apply List.map_congr_left
        intro z hz
        obtain ⟨p, rfl, g1, g2⟩ := h3.mem z hz
        rw [Int.toNat_natCast, show p - m = (p - (m + 1)) + 1 by omega, List.getD_cons_succ]
      · have hc : ((m : Int) :: r).contains (k : Int) = false := by
          rw [← Bool.not_eq_true]
          intro hh
          have hh : (k : Int) ∈ (m : Int) :: r := by simpa using hh
          rcases List.mem_cons.1 hh with hh | hh
          · omega
          · obtain ⟨p, e2, g1, g2⟩ := h3.mem _ hh
            omega
        simp only [picks]
        rw [hc, if_neg (by simp), picks_map l (k + 1) ((m : Int) :: r) ⟨m, rfl, by omega, by simp at h2; omega, by rw [show k + 1 + l.length = k + (x :: l).length by simp; omega]; exact h3⟩]
        apply List.map_congr_left
        intro z hz
        have : ∃ p : Nat, z = (p : Int) ∧ k + 1 ≤ p := by
          rcases List.mem_cons.1 hz with rfl | hz
          · exact ⟨m, rfl, by omega⟩
          · obtain ⟨p, e2, g1, g2⟩ := h3.mem _ hz
            exact ⟨p, e2, by omega⟩
        obtain ⟨p, rfl, g⟩ := this
        rw [Int.toNat_natCast, show p - k = (p - (k + 1)) + 1 by omega, List.getD_cons_succ]

def mapIdx (left b : List Int) : List Int := b.map fun j => left.getD j.toNat 0
theorem picks_mapIdx {left best : List Int} (h : Asc left.length 0 best) : picks best true 0 left = mapIdx left best := by
  rw [picks_map left 0 best (by simpa using h)]; rfl
theorem tot_map (l : List Par) (left : List Int) : ∀ (b : List Int) (k : Nat), Asc left.length k b → tot (parOf l left) b = tot l (mapIdx left b)
  | [], _, _ => rfl
  | x :: r, k, ⟨m, e, h1, h2, h3⟩ => by
    subst e
    have ih := tot_map l left r _ h3
    simp only [mapIdx, List.map_cons, tot] at ih ⊢
    rw [ih]
    congr 1
    simp [parOf, h2]
theorem asc_mono {n : Nat} : ∀ {left : List Int} {k : Nat}, Asc n k left → ∀ i j, i < j → j < left.length → left.getD i 0 < left.getD j 0
  | [], _, _, i, j, _, h => by simp at h
  | x :: r, k, ⟨m, e, h1, h2, h3⟩, i, j, hij, hj => by
    cases j with
    | zero => omega
    | succ j =>
      simp only [List.length_cons] at hj
      rw [List.getD_cons_succ]
      cases i with
      | zero =>
        rw [List.getD_cons_zero]
        have hm : r.getD j 0 ∈ r := by
          have : r.getD j 0 = r[j]'(by omega) := by simp [show j < r.length by omega]
          rw [this]; exact List.getElem_mem _
        obtain ⟨p, e2, g1, _⟩ := h3.mem _ hm
        omega
      | succ i =>
        rw [List.getD_cons_succ]
        exact asc_mono h3 i j (by omega) (by omega)
theorem getD_mem {left : List Int} {i : Nat} (h : i < left.length) : left.getD i 0 ∈ left := by
  have : left.getD i 0 = left[i] := by simp [h]
  rw [this]; exact List.getElem_mem _
theorem asc_map {n : Nat} {left : List Int} (hl : Asc n 0 left) : ∀ (b : List Int) (k lo : Nat), Asc left.length k b → (∀ i, k ≤ i → i < left.length → (lo : Int) ≤ left.getD i 0) → Asc n lo (mapIdx left b)
  | [], _, _, _, _ => trivial
  | x :: r, k, lo, ⟨m, e, h1, h2, h3⟩, hlo => by
    subst e
    obtain ⟨p, ep, _, hp⟩ := hl.mem _ (getD_mem h2)
    have g := hlo m h1 h2
    refine ⟨p, by simpa using ep, by omega, hp, asc_map hl r (m + 1) (p + 1) h3 fun i hi hi2 => ?_⟩
    have := asc_mono hl m i (by omega) hi2
    omega
theorem asc_unmap {n : Nat} {left : List Int} (hl : Asc n 0 left) : ∀ (a : List Int) (i0 lo : Nat), Asc n lo a → (∀ x ∈ a, x ∈ left) → (∀ x ∈ a, ∀ i, i < left.length → left.getD i 0 = x → i0 ≤ i) → ∃ b, Asc left.length i0 b ∧ a = mapIdx left b
  | [], _, _, _, _, _ => ⟨[], trivial, rfl⟩
  | x :: r, i0, lo, ⟨m, e, h1, h2, h3⟩, hin, hi0 => by
    obtain ⟨i, hi, ei⟩ := List.getElem_of_mem (hin x List.mem_cons_self)
    have ei' : left.getD i 0 = x := by simp [hi, ei]
    obtain ⟨b, hb, eb⟩ := asc_unmap hl r (i + 1) (m + 1) h3 (fun y hy => hin y (List.mem_cons_of_mem _ hy)) (fun y hy j hj ej => by
      obtain ⟨p, ep, g1, _⟩ := h3.mem y hy
      rcases Nat.lt_or_ge i j with h | h
      · exact h
      · exfalso
        by_cases hij : j = i
        · subst hij; omega
        · have := asc_mono hl j i (by omega) hi
          omega)
    exact ⟨(i : Int) :: b, ⟨i, rfl, hi0 x List.mem_cons_self i hi ei', hi, hb⟩, by simp [mapIdx] at eb ⊢; exact ⟨by simpa using ei'.symm, eb⟩⟩
theorem before_map {n : Nat} {left : List Int} (hl : Asc n 0 left) : ∀ (a b : List Int) (k k' : Nat), Asc left.length k a → Asc left.length k' b → before (mapIdx left a) (mapIdx left b) = before a b
  | [], [], _, _, _, _ => rfl
  | [], _ :: _, _, _, _, _ => rfl
  | _ :: _, [], _, _, _, _ => rfl
  | x :: a, y :: b, k, k', ⟨m, e, h1, h2, h3⟩, ⟨m', e', h1', h2', h3'⟩ => by
    subst e e'
    have ih := before_map hl a b _ _ h3 h3'
    simp only [mapIdx, List.map_cons, before, Int.toNat_natCast] at ih ⊢
    rw [ih]
    rcases Nat.lt_trichotomy m m' with h | h | h
    · have := asc_mono hl m m' h h2'
      rw [decide_eq_true this, decide_eq_true (show (m : Int) < (m' : Int) by omega)]; rfl
    · subst h; simp
    · have := asc_mono hl m' m h h2
      rw [decide_eq_false (show ¬ left.getD m 0 < left.getD m' 0 by omega), decide_eq_false (show ¬ (m : Int) < (m' : Int) by omega), decide_eq_false (show ¬ left.getD m 0 = left.getD m' 0 by omega), decide_eq_false (show ¬ (m : Int) = (m' : Int) by omega)]

/-- the flags say what is left -/
def Flag (l : List Par) (fl : List Bool) (left : List Int) : Prop := fl.length = l.length ∧ ∀ i, i < l.length → (fl.getD i false = true ↔ (i : Int) ∈ left)
theorem trip_best {l : List Par} (hg : Good l) {W V : Int} (hW : 0 ≤ W) (hV : 0 ≤ V) {left : List Int} (ha : Asc l.length 0 left) {fl : List Bool} (hf : Flag l fl left) :
    IsBestL l fl W V (picks (bestOf (parOf l left) W V) true 0 left) := by
  have hgp : Good (parOf l left) := parOf_good hg fun x hx => by obtain ⟨m, e, _, h⟩ := ha.mem x hx; exact ⟨m, e, h⟩
  have hlen : (parOf l left).length = left.length := by simp [parOf]
  obtain ⟨b1, b2, b3⟩ := bestOf_isBest hgp hW hV
  generalize bestOf (parOf l left) W V = best at *
  rw [hlen] at b1 b3
  rw [picks_mapIdx b1]
  have hin : ∀ b, Asc left.length 0 b → ∀ x ∈ mapIdx left b, x ∈ left := by
    intro b hb x hx
    obtain ⟨j, hj, rfl⟩ := List.mem_map.1 hx
    obtain ⟨m, rfl, _, hm⟩ := hb.mem j hj
    exact getD_mem hm
  refine ⟨⟨asc_map ha best 0 0 b1 (fun i _ hi => ?_), ?_, ?_⟩, ?_⟩
  · obtain ⟨p, e, _, _⟩ := ha.mem _ (getD_mem hi); omega
  · intro x hx
    have hxl := hin best b1 x hx
    obtain ⟨p, rfl, _, hp⟩ := ha.mem x hxl
    exact (hf.2 p hp).2 hxl
  · unfold Fits at b2 ⊢
    rw [← tot_map l left best 0 b1]; exact b2
  · intro a ⟨a1, a2, a3⟩
    have hal : ∀ x ∈ a, x ∈ left := fun x hx => by
      obtain ⟨p, rfl, _, hp⟩ := a1.mem x hx
      exact (hf.2 p hp).1 (a2 _ hx)
    obtain ⟨b, hb, rfl⟩ := asc_unmap ha a 0 0 a1 hal (fun _ _ _ _ _ => Nat.zero_le _)
    unfold Fits at a3
    rw [← tot_map l left b 0 hb] at a3 ⊢
    rw [← tot_map l left best 0 b1, before_map ha b best 0 0 hb b1]
    exact b3 b hb a3
theorem trip_eq {l : List Par} (hg : Good l) {W V : Int} (hW : 0 ≤ W) (hV : 0 ≤ V) {left : List Int} (ha : Asc l.length 0 left) {fl : List Bool} (hf : Flag l fl left) :
    rbest l fl W V (2 ^ l.length) = picks (bestOf (parOf l left) W V) true 0 left :=
  (rbest_isBest hW hV).unique (trip_best hg hW hV ha hf)

def clr (fl : List Bool) (a : List Int) : List Bool := a.foldl (fun f x => f.set x.toNat false) fl
theorem clr_snoc (fl : List Bool) (a : List Int) (x : Int) : clr fl (a ++ [x]) = (clr fl a).set x.toNat false := by simp [clr]
theorem clr_len (a : List Int) : ∀ fl : List Bool, (clr fl a).length = fl.length := by
  induction a with
  | nil => intro fl; rfl
  | cons x a ih => intro fl; show (clr (fl.set x.toNat false) a).length = _; rw [ih]; simp
theorem clr_get {n : Nat} : ∀ (a : List Int) (k : Nat) (fl : List Bool), Asc n k a → n ≤ fl.length → ∀ i : Nat, (clr fl a).getD i false = true ↔ fl.getD i false = true ∧ (i : Int) ∉ a
  | [], _, fl, _, _, i => by simp [clr]
  | x :: a, k, fl, ⟨m, e, h1, h2, h3⟩, hn, i => by
    subst e
    show (clr (fl.set m false) a).getD i false = true ↔ _
    rw [clr_get a _ (fl.set m false) h3 (by simpa using hn) i]
    by_cases hi : i = m
    · subst hi
      have : (fl.set i false).getD i false = false := by simp [List.getD_eq_getElem?_getD, show i < fl.length by omega]
      rw [this]; simp
    · have : (fl.set m false).getD i false = fl.getD i false := by
        simp [List.getD_eq_getElem?_getD, show ¬ m = i by omega]
      rw [this]
      have : ¬ (i : Int) = (m : Int) := by omega
      simp [this]
theorem picks_mem_iff (best : List Int) (b : Bool) : ∀ (l : List Int) (k : Nat) (x : Int), x ∈ picks best b k l ↔ ∃ j, j < l.length ∧ l.getD j 0 = x ∧ best.contains ((k + j : Nat) : Int) = b
  | [], k, x => by simp [picks]
  | y :: l, k, x => by
    have ih := picks_mem_iff best b l (k + 1) x
    have hright : (∃ j, j < (y :: l).length ∧ (y :: l).getD j 0 = x ∧ best.contains ((k + j : Nat) : Int) = b) ↔ ((y = x ∧ best.contains (k : Int) = b) ∨ ∃ j, j < l.length ∧ l.getD j 0 = x ∧ best.contains ((k + 1 + j : Nat) : Int) = b) := by
      constructor
      · rintro ⟨j, h1, h2, h3⟩
        cases j with
        | zero => exact Or.inl ⟨by simpa using h2, by simpa using h3⟩
        | succ j => exact Or.inr ⟨j, by simpa using h1, by simpa using h2, by rw [show k + 1 + j = k + (j + 1) by omega]; exact h3⟩
      · rintro (⟨h1, h2⟩ | ⟨j, h1, h2, h3⟩)
        · exact ⟨0, by simp, by simpa using h1, by simpa using h2⟩
        · exact ⟨j + 1, by simpa using h1, by simpa using h2, by rw [show k + (j + 1) = k + 1 + j by omega]; exact h3⟩
    rw [hright, ← ih]
    simp only [picks]
    by_cases hc : best.contains (k : Int) = b
    · rw [if_pos hc]
      simp only [List.mem_cons, hc, and_true]
      constructor
      · rintro (h | h); exact Or.inl h.symm; exact Or.inr h
      · rintro (h | h); exact Or.inl h.symm; exact Or.inr h
    · rw [if_neg hc]
      constructor
      · exact Or.inr
      · rintro (h | h); exact absurd h.2 hc; exact h
theorem picks_asc {n : Nat} (best : List Int) (b : Bool) : ∀ (left : List Int) (j k : Nat), Asc n k left → Asc n k (picks best b j left)
  | [], _, _, _ => trivial
  | x :: r, j, k, ⟨m, e, h1, h2, h3⟩ => by
    simp only [picks]
    have ih := picks_asc best b r (j + 1) (m + 1) h3
    split
    · exact ⟨m, e, h1, h2, ih⟩
    · exact ih.mono (by omega)
theorem picks_rest {n : Nat} {left best : List Int} (ha : Asc n 0 left) (x : Int) : x ∈ picks best false 0 left ↔ x ∈ left ∧ x ∉ picks best true 0 left := by
  rw [picks_mem_iff, picks_mem_iff]
  constructor
  · rintro ⟨j, h1, rfl, h3⟩
    refine ⟨getD_mem h1, ?_⟩
    rintro ⟨i, g1, g2, g3⟩
    have : i = j := by
      rcases Nat.lt_trichotomy i j with h | h | h
      · have := asc_mono ha i j h h1; omega
      · exact h
      · have := asc_mono ha j i h g1; omega
    subst this
    rw [g3] at h3; simp at h3
  · rintro ⟨h1, h2⟩
    obtain ⟨j, hj, ej⟩ := List.getElem_of_mem h1
    refine ⟨j, hj, by simp [hj, ej], ?_⟩
    rw [← Bool.not_eq_true]
    intro hc
    exact h2 ⟨j, hj, by simp [hj, ej], hc⟩
theorem Flag.next {l : List Par} {fl : List Bool} {left best : List Int} (hf : Flag l fl left) (ha : Asc l.length 0 left) : Flag l (clr fl (picks best true 0 left)) (picks best false 0 left) := by
  refine ⟨by rw [clr_len]; exact hf.1, fun i hi => ?_⟩
  rw [clr_get _ 0 fl (picks_asc best true left 0 0 ha) (by rw [hf.1]; exact Nat.le_refl _) i, hf.2 i hi, picks_rest ha]
theorem upto_asc (n : Nat) : Asc n 0 (upto n) := by
  have : ∀ k, k ≤ n → Asc n 0 (upto k) := by
    intro k
    induction k with
    | zero => intro _; exact trivial
    | succ k ih =>
      intro hk
      rw [upto_snoc]
      have h2 : ∀ (a : List Int) (j : Nat), Asc n j a → (∀ x ∈ a, x < (k : Int)) → j ≤ k → Asc n j (a ++ [(k : Int)]) := by
        intro a
        induction a with
        | nil => intro j _ _ hj; exact ⟨k, rfl, hj, by omega, trivial⟩
        | cons x r ihr =>
          rintro j ⟨m, e, g1, g2, g3⟩ hx hj
          refine ⟨m, e, g1, g2, ihr (m + 1) g3 (fun y hy => hx y (List.mem_cons_of_mem _ hy)) ?_⟩
          have := hx x List.mem_cons_self
          omega
      exact h2 _ 0 (ih (by omega)) (fun x hx => by obtain ⟨m, rfl, hm⟩ := upto_mem k x hx; omega) (Nat.zero_le _)
  exact this n (Nat.le_refl _)
theorem Flag.start (l : List Par) : Flag l (List.replicate l.length true) (upto l.length) := by
  refine ⟨by simp, fun i hi => ?_⟩
  have h : (i : Int) ∈ upto l.length := List.mem_map.2 ⟨i, by simpa using hi, rfl⟩
  simp [hi, h]
theorem trips_nil (l : List Par) (W V : Int) (n : Nat) : tripsGo l W V n [] = [] := by
  cases n with
  | zero => rfl
  | succ n =>
    simp only [tripsGo]
    rw [if_pos]
    unfold bestOf parOf visit upd
    simp [loop]
end Go.Proofs.Ytcipnajdbafahaa.Tk
