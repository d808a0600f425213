/- The trips in plain Lean: each can be carried, they are apart, their worths do not increase, what is left has no worth. -/
import Derived.Test.YtcipnajdbafahaaTruckTripsR
namespace Go.Proofs.Ytcipnajdbafahaa.Tk
set_option linter.unusedVariables false
set_option linter.unusedSimpArgs false

/-- Behind i trips: what is left, its flags, and a bound on the worth of what can still be carried. -/
structure Rem (l : List Par) (W V : Int) (n : Nat) (left : List Int) (fl : List Bool) (i : Nat) (last : Int) : Prop where
  asc : Asc l.length 0 left
  flag : Flag l fl left
  fuel : left.length < n
  bound : i = 0 ∨ ∀ a, Okay l fl W V a → (tot l a).2.2 ≤ last

theorem Rem.start (l : List Par) (W V : Int) : Rem l W V (l.length + 1) (upto l.length) (List.replicate l.length true) 0 0 :=
  ⟨upto_asc _, Flag.start l, by rw [upto_len]; omega, Or.inl rfl⟩

theorem tripsGo_succ (l : List Par) (W V : Int) (n : Nat) (left : List Int) : tripsGo l W V (n + 1) left = if bestOf (parOf l left) W V = [] then [] else picks (bestOf (parOf l left) W V) true 0 left :: tripsGo l W V n (picks (bestOf (parOf l left) W V) false 0 left) := rfl

theorem Rem.next {l : List Par} {W V : Int} {n : Nat} {left : List Int} {fl : List Bool} {i : Nat} {last : Int} (hg : Good l) (hW : 0 ≤ W) (hV : 0 ≤ V) (h : Rem l W V n left fl i last) {x : List Int} {r : List (List Int)} (he : tripsGo l W V n left = x :: r) :
    Asc l.length 0 x ∧ x ≠ [] ∧ Fits l W V x ∧ Sub fl x ∧ (i = 0 ∨ (tot l x).2.2 ≤ last) ∧ ∃ rest, r = tripsGo l W V (n - 1) rest ∧ Rem l W V (n - 1) rest (clr fl x) (i + 1) (tot l x).2.2 := by
  obtain ⟨n', rfl⟩ : ∃ n', n = n' + 1 := ⟨n - 1, by have := h.fuel; omega⟩
  rw [tripsGo_succ] at he
  have hval : ∀ x ∈ left, ∃ m : Nat, x = (m : Int) ∧ m < l.length := fun x hx => by obtain ⟨m, e, _, h⟩ := h.asc.mem x hx; exact ⟨m, e, h⟩
  by_cases hb : bestOf (parOf l left) W V = []
  · rw [if_pos hb] at he; simp at he
  · rw [if_neg hb] at he
    have hbest := trip_best hg hW hV h.asc h.flag
    have hne := best_pos hg hW hV hval hb
    have hlt := rest_lt hg hW hV hval hb
    generalize bestOf (parOf l left) W V = best at *
    simp only [List.cons.injEq] at he
    obtain ⟨rfl, rfl⟩ := he
    have hfl := h.fuel
    have hxa := picks_asc best true left 0 0 h.asc
    refine ⟨hbest.1.1, hne, hbest.1.2.2, hbest.1.2.1, ?_, picks best false 0 left, rfl, picks_asc best false left 0 0 h.asc, h.flag.next h.asc, by omega, Or.inr ?_⟩
    · rcases h.bound with h0 | h0
      · exact Or.inl h0
      · exact Or.inr (h0 _ hbest.1)
    · intro a ⟨a1, a2, a3⟩
      refine (hbest.2 a ⟨a1, fun y hy => ?_, a3⟩).1
      obtain ⟨m, rfl, _, hm⟩ := a1.mem y hy
      have := a2 _ hy
      rw [Int.toNat_natCast] at this ⊢
      exact ((clr_get _ 0 fl hxa (by rw [h.flag.1]; exact Nat.le_refl _) m).1 this).1

theorem Rem.last {l : List Par} {W V : Int} {n : Nat} {left : List Int} {fl : List Bool} {i : Nat} {last : Int} (hg : Good l) (hW : 0 ≤ W) (hV : 0 ≤ V) (h : Rem l W V n left fl i last) (he : tripsGo l W V n left = []) :
    ∀ (m : Nat) (hm : m < l.length), fl.getD m false = true → l[m].1 ≤ W → l[m].2.1 ≤ V → l[m].2.2 ≤ 0 := by
  intro m hm hf h1 h2
  obtain ⟨n', rfl⟩ : ∃ n', n = n' + 1 := ⟨n - 1, by have := h.fuel; omega⟩
  rw [tripsGo_succ] at he
  by_cases hb : bestOf (parOf l left) W V = []
  · have hbest := trip_best hg hW hV h.asc h.flag
    rw [hb, picks_map left 0 [] trivial] at hbest
    have hget : l.getD m (0, 0, 0) = l[m] := by simp [hm]
    have ht : tot l [(m : Int)] = l[m] := by simp only [tot, Int.toNat_natCast]; rw [hget]; simp [addP]
    have := (hbest.2 [(m : Int)] ⟨⟨m, rfl, Nat.zero_le _, hm, trivial⟩, ?_, by unfold Fits; rw [ht]; exact ⟨h1, h2⟩⟩).1
    · rw [ht] at this; simpa [tot] using this
    · intro y hy
      simp at hy; subst hy
      simpa using hf
  · rw [if_neg hb] at he; simp at he

/-- the flags of what is used -/
def inv (fl : List Bool) : List Bool := fl.map (!·)
theorem inv_len (fl : List Bool) : (inv fl).length = fl.length := by simp [inv]
theorem inv_start (n : Nat) : inv (List.replicate n true) = List.replicate n false := by simp [inv]
theorem inv_clr (fl : List Bool) (m : Nat) : (inv fl).set m true = inv (fl.set m false) := by simp [inv, List.map_set]
theorem inv_get (fl : List Bool) (m : Nat) (h : m < fl.length) : (inv fl)[m]'(by rw [inv_len]; exact h) = !fl.getD m false := by
  simp [inv, h]
/-- a parcel of a trip was not used before, nor in this trip -/
theorem clr_fresh {n : Nat} {fl : List Bool} {x : List Int} (hx : Asc n 0 x) (hn : n ≤ fl.length) (hs : Sub fl x) (k : Nat) (hk : k < x.length) : (clr fl (x.take k)).getD x[k].toNat false = true := by
  have hmem : x[k] ∈ x := List.getElem_mem _
  obtain ⟨m, e, _, hm⟩ := hx.mem _ hmem
  have hta : Asc n 0 (x.take k) := by
    have : ∀ (a : List Int) (j k : Nat), Asc n j a → Asc n j (a.take k) := by
      intro a
      induction a with
      | nil => intro j k _; rw [List.take_nil]; exact trivial
      | cons y a ih =>
        intro j k h
        cases k with
        | zero => exact trivial
        | succ k =>
          obtain ⟨m, e, g1, g2, g3⟩ := h
          exact ⟨m, e, g1, g2, ih _ _ g3⟩
    exact this x 0 k hx
  rw [e, Int.toNat_natCast]
  refine (clr_get _ 0 fl hta hn m).2 ⟨?_, ?_⟩
  · have := hs _ hmem; rwa [e, Int.toNat_natCast] at this
  · intro hc
    obtain ⟨j, hj, ej⟩ := List.getElem_of_mem hc
    have hjk : j < k := by rw [List.length_take] at hj; omega
    rw [List.getElem_take] at ej
    have := asc_mono hx j k hjk hk
    rw [show x.getD j 0 = x[j] from by simp [show j < x.length by omega], show x.getD k 0 = x[k] from by simp [hk], ej, e] at this
    omega
end Go.Proofs.Ytcipnajdbafahaa.Tk
