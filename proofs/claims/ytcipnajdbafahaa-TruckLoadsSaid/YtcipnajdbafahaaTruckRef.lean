/- The reference's search over all subsets, in plain Lean. -/
import Derived.Test.YtcipnajdbafahaaTruckTripsP
namespace Go.Proofs.Ytcipnajdbafahaa.Tk
set_option linter.unusedVariables false
set_option linter.unusedSimpArgs false

theorem before_trans : ∀ a b c : List Int, before a b = true → before b c = true → before a c = true
  | [], [], _, h, _ => by simp [before] at h
  | [], _ :: _, [], _, h => by simp [before] at h
  | [], _ :: _, _ :: _, _, _ => rfl
  | _ :: _, [], _, h, _ => by simp [before] at h
  | _ :: _, _ :: _, [], _, h => by simp [before] at h
  | x :: a, y :: b, z :: c, h1, h2 => by
    simp only [before, Bool.or_eq_true, decide_eq_true_eq, Bool.and_eq_true] at h1 h2 ⊢
    rcases h1 with h1 | ⟨rfl, h1⟩ <;> rcases h2 with h2 | ⟨rfl, h2⟩
    · left; omega
    · left; exact h1
    · left; exact h2
    · right; exact ⟨rfl, before_trans a b c h1 h2⟩

def bit (b i : Nat) : Bool := b / 2 ^ i % 2 == 1
def idxs (b : Nat) : Nat → List Int
  | 0 => []
  | k + 1 => idxs b k ++ (if bit b k then [(k : Int)] else [])
def okIdx (left : List Bool) (b : Nat) : Nat → Bool
  | 0 => true
  | k + 1 => okIdx left b k && (!bit b k || left.getD k false)

theorem Asc.snoc {n : Nat} : ∀ {a : List Int} {k : Nat}, Asc n k a → k ≤ n → Asc (n + 1) k (a ++ [(n : Int)])
  | [], k, _, h => ⟨n, rfl, h, by omega, trivial⟩
  | _ :: r, k, ⟨m, h1, h2, h3, h4⟩, _ => ⟨m, h1, h2, by omega, Asc.snoc h4 (by omega)⟩
theorem Asc.up {n n' : Nat} (hn : n ≤ n') : ∀ {a : List Int} {k : Nat}, Asc n k a → Asc n' k a
  | [], _, _ => trivial
  | _ :: _, _, ⟨m, h1, h2, h3, h4⟩ => ⟨m, h1, h2, by omega, Asc.up hn h4⟩
theorem idxs_asc (b : Nat) : ∀ k, Asc k 0 (idxs b k)
  | 0 => trivial
  | k + 1 => by
    simp only [idxs]
    split
    · exact (idxs_asc b k).snoc (Nat.zero_le _)
    · rw [List.append_nil]; exact (idxs_asc b k).up (by omega)
theorem asc_split {n : Nat} : ∀ {a : List Int} {k : Nat}, Asc (n + 1) k a → Asc n k a ∨ ∃ a', a = a' ++ [(n : Int)] ∧ Asc n k a'
  | [], _, _ => Or.inl trivial
  | x :: r, k, ⟨m, h1, h2, h3, h4⟩ => by
    rcases asc_split h4 with h | ⟨a', rfl, h⟩
    · by_cases hm : m = n
      · subst hm
        have : r = [] := by
          cases r with
          | nil => rfl
          | cons y q => obtain ⟨m', _, e1, e2, _⟩ := h; omega
        subst this
        exact Or.inr ⟨[], by rw [h1]; rfl, trivial⟩
      · exact Or.inl ⟨m, h1, h2, by omega, h⟩
    · by_cases hm : m = n
      · subst hm
        exfalso
        have hlen := h4.len (by omega)
        simp at hlen
        omega
      · exact Or.inr ⟨x :: a', rfl, ⟨m, h1, h2, by omega, h⟩⟩
theorem bit_small {b n : Nat} (h : b < 2 ^ n) : bit b n = false := by
  unfold bit; rw [Nat.div_eq_of_lt h]; rfl
theorem bit_add {b n i : Nat} (hi : i < n) : bit (b + 2 ^ n) i = bit b i := by
  unfold bit
  have e : 2 ^ n = 2 ^ i * (2 * 2 ^ (n - i - 1)) := by
    rw [← Nat.mul_assoc, ← Nat.pow_succ, ← Nat.pow_add]; congr 1; omega
  rw [e, Nat.add_mul_div_left _ _ (Nat.two_pow_pos i)]
  congr 1
  omega
theorem bit_top {b n : Nat} (h : b < 2 ^ n) : bit (b + 2 ^ n) n = true := by
  unfold bit
  rw [Nat.add_div_right _ (Nat.two_pow_pos n), Nat.div_eq_of_lt h]; rfl
theorem idxs_add {b n : Nat} : ∀ k, k ≤ n → idxs (b + 2 ^ n) k = idxs b k
  | 0, _ => rfl
  | k + 1, h => by simp only [idxs]; rw [idxs_add k (by omega), bit_add (by omega)]
theorem idxs_all : ∀ (n : Nat) (a : List Int), Asc n 0 a → ∃ b, b < 2 ^ n ∧ idxs b n = a
  | 0, a, h => by
    cases a with
    | nil => exact ⟨0, by simp, rfl⟩
    | cons x r => obtain ⟨m, _, _, h3, _⟩ := h; omega
  | n + 1, a, h => by
    rcases asc_split h with h | ⟨a', rfl, h'⟩
    · obtain ⟨b, h1, h2⟩ := idxs_all n a h
      refine ⟨b, by rw [Nat.pow_succ]; omega, ?_⟩
      simp only [idxs]
      rw [h2, bit_small h1]; simp
    · obtain ⟨b, h1, h2⟩ := idxs_all n a' h'
      refine ⟨b + 2 ^ n, by rw [Nat.pow_succ]; omega, ?_⟩
      simp only [idxs]
      rw [idxs_add n (Nat.le_refl _), h2, bit_top h1]; simp

/-- all indices are of parcels that are left -/
def Sub (left : List Bool) (a : List Int) : Prop := ∀ x ∈ a, left.getD x.toNat false = true
theorem okIdx_sub (left : List Bool) (b : Nat) : ∀ k, okIdx left b k = true ↔ Sub left (idxs b k)
  | 0 => by simp [okIdx, Sub, idxs]
  | k + 1 => by
    have ih := okIdx_sub left b k
    simp only [okIdx, idxs, Bool.and_eq_true, ih]
    constructor
    · rintro ⟨h1, h2⟩ x hx
      rcases List.mem_append.1 hx with hx | hx
      · exact h1 x hx
      · split at hx
        · rename_i hb
          simp at hx
          subst hx
          simpa [hb] using h2
        · simp at hx
    · intro h
      refine ⟨fun x hx => h x (List.mem_append.2 (Or.inl hx)), ?_⟩
      by_cases hb : bit b k = true
      · have := h (k : Int) (List.mem_append.2 (Or.inr (by rw [if_pos hb]; simp)))
        simp [hb]; simpa using this
      · simp [hb]

def Okay (l : List Par) (left : List Bool) (W V : Int) (a : List Int) : Prop := Asc l.length 0 a ∧ Sub left a ∧ Fits l W V a
def IsBestL (l : List Par) (left : List Bool) (W V : Int) (a : List Int) : Prop :=
  Okay l left W V a ∧ ∀ b, Okay l left W V b → (tot l b).2.2 ≤ (tot l a).2.2 ∧ ((tot l b).2.2 = (tot l a).2.2 → before b a = false)
theorem IsBestL.unique {l : List Par} {left : List Bool} {W V : Int} {a b : List Int} (ha : IsBestL l left W V a) (hb : IsBestL l left W V b) : a = b := by
  have h1 := ha.2 b hb.1
  have h2 := hb.2 a ha.1
  have e : (tot l b).2.2 = (tot l a).2.2 := by omega
  exact before_total a b (h2.2 e.symm) (h1.2 e)

/-- the next list: it is taken if it can be carried and is better -/
def better (l : List Par) (x c : List Int) : Bool := decide ((tot l c).2.2 < (tot l x).2.2) || (decide ((tot l x).2.2 = (tot l c).2.2) && before x c)
def fitsB (l : List Par) (W V : Int) (x : List Int) : Bool := decide ((tot l x).1 ≤ W) && decide ((tot l x).2.1 ≤ V)
def rstep (l : List Par) (left : List Bool) (W V : Int) (c : List Int) (b : Nat) : List Int :=
  if okIdx left b l.length && fitsB l W V (idxs b l.length) && better l (idxs b l.length) c then idxs b l.length else c
def rbest (l : List Par) (left : List Bool) (W V : Int) : Nat → List Int
  | 0 => []
  | m + 1 => rstep l left W V (rbest l left W V m) m
theorem rbest_inv {l : List Par} {left : List Bool} {W V : Int} (hW : 0 ≤ W) (hV : 0 ≤ V) : ∀ m, Okay l left W V (rbest l left W V m) ∧ ((tot l (rbest l left W V m)).2.2 ≥ 0 ∧ ((tot l (rbest l left W V m)).2.2 = 0 → before [] (rbest l left W V m) = false)) ∧
    ∀ b, b < m → Okay l left W V (idxs b l.length) → (tot l (idxs b l.length)).2.2 ≤ (tot l (rbest l left W V m)).2.2 ∧ ((tot l (idxs b l.length)).2.2 = (tot l (rbest l left W V m)).2.2 → before (idxs b l.length) (rbest l left W V m) = false)
  | 0 => ⟨⟨trivial, fun x hx => by simp [rbest] at hx, by simp [rbest, tot]; exact hW, by simp [rbest, tot]; exact hV⟩, ⟨by simp [rbest, tot], fun _ => rfl⟩, fun b hb => absurd hb (by omega)⟩
  | m + 1 => by
    obtain ⟨h1, ⟨h2, h2'⟩, h3⟩ := rbest_inv (l := l) (left := left) hW hV m
    simp only [rbest, rstep]
    generalize rbest l left W V m = c at *
    have hok : Okay l left W V (idxs m l.length) ↔ okIdx left m l.length = true ∧ fitsB l W V (idxs m l.length) = true := by
      constructor
      · rintro ⟨_, g2, g3, g4⟩
        exact ⟨(okIdx_sub left m l.length).2 g2, by unfold fitsB; simp [g3, g4]⟩
      · rintro ⟨g1, g2⟩
        unfold fitsB at g2
        simp at g2
        exact ⟨idxs_asc m l.length, (okIdx_sub left m l.length).1 g1, g2.1, g2.2⟩
    by_cases hc : (okIdx left m l.length && fitsB l W V (idxs m l.length) && better l (idxs m l.length) c) = true
    · rw [if_pos hc]
      simp only [Bool.and_eq_true] at hc
      have hx := hok.2 hc.1
      have hb := hc.2
      have hself : ∀ b, b = m → Okay l left W V (idxs b l.length) → (tot l (idxs b l.length)).2.2 ≤ (tot l (idxs m l.length)).2.2 ∧ ((tot l (idxs b l.length)).2.2 = (tot l (idxs m l.length)).2.2 → before (idxs b l.length) (idxs m l.length) = false) := by
        rintro b rfl _
        exact ⟨Int.le_refl _, fun _ => before_irrefl _⟩
      clear hc hok
      generalize idxs m l.length = x at *
      unfold better at hb
      simp only [Bool.or_eq_true, decide_eq_true_eq, Bool.and_eq_true] at hb
      refine ⟨hx, ⟨by rcases hb with hb | hb <;> omega, ?_⟩, ?_⟩
      · intro h0
        rcases hb with hb | ⟨hb, hb2⟩
        · omega
        · have := h2' (by omega)
          rw [← Bool.not_eq_true]
          intro hbx
          rw [before_trans _ _ _ hbx hb2] at this
          simp at this
      · intro b hbm hob
        by_cases e : b = m
        · exact hself b e hob
        · have := h3 b (by omega) hob
          refine ⟨by rcases hb with hb | hb <;> omega, fun he => ?_⟩
          rcases hb with hb | ⟨hb, hb2⟩
          · omega
          · have h4 := this.2 (by omega)
            rw [← Bool.not_eq_true]
            intro hbx
            rw [before_trans _ _ _ hbx hb2] at h4
            simp at h4
    · rw [if_neg hc]
      refine ⟨h1, ⟨h2, h2'⟩, ?_⟩
      intro b hbm hob
      by_cases e : b = m
      · subst e
        have := hok.1 hob
        have hnb : better l (idxs b l.length) c = false := by
          simpa [this.1, this.2] using hc
        unfold better at hnb
        simp only [Bool.or_eq_false_iff, decide_eq_false_iff_not, Bool.and_eq_false_iff] at hnb
        refine ⟨by omega, fun he => ?_⟩
        rcases hnb.2 with h | h
        · exact absurd he h
        · exact h
      · exact h3 b (by omega) hob
theorem rbest_isBest {l : List Par} {left : List Bool} {W V : Int} (hW : 0 ≤ W) (hV : 0 ≤ V) : IsBestL l left W V (rbest l left W V (2 ^ l.length)) := by
  obtain ⟨h1, _, h3⟩ := rbest_inv (l := l) (left := left) hW hV (2 ^ l.length)
  refine ⟨h1, fun b hb => ?_⟩
  obtain ⟨n, hn, rfl⟩ := idxs_all l.length b hb.1
  exact h3 n hn hb
theorem isBest_all {l : List Par} {W V : Int} {a : List Int} (h : IsBest l W V a) : IsBestL l (List.replicate l.length true) W V a := by
  have hs : ∀ b, Asc l.length 0 b → Sub (List.replicate l.length true) b := by
    have : ∀ (b : List Int) (k : Nat), Asc l.length k b → Sub (List.replicate l.length true) b := by
      intro b
      induction b with
      | nil => intro k _ x hx; simp at hx
      | cons y r ih =>
        rintro k ⟨m, e, _, hm, hr⟩ x hx
        rcases List.mem_cons.1 hx with rfl | hx
        · subst e; simp [hm]
        · exact ih _ hr x hx
    exact fun b hb => this b 0 hb
  exact ⟨⟨h.1, hs _ h.1, h.2.1⟩, fun b hb => h.2.2 b hb.1 hb.2.2⟩
theorem rbest_eq {l : List Par} (hg : Good l) {W V : Int} (hW : 0 ≤ W) (hV : 0 ≤ V) : rbest l (List.replicate l.length true) W V (2 ^ l.length) = bestOf l W V :=
  (rbest_isBest hW hV).unique (isBest_all (bestOf_isBest hg hW hV))
theorem tot_snoc (l : List Par) : ∀ (a : List Int) (m : Nat) (h : m < l.length), tot l (a ++ [(m : Int)]) = addP (tot l a) l[m]
  | [], m, h => by simp [tot, addP, h]
  | x :: a, m, h => by
    simp only [List.cons_append, tot]
    rw [tot_snoc l a m h]
    simp only [addP]; refine Prod.ext ?_ (Prod.ext ?_ ?_) <;> simp <;> omega
theorem idxs_len (b : Nat) : ∀ k, (idxs b k).length ≤ k
  | 0 => by simp [idxs]
  | k + 1 => by
    have := idxs_len b k
    simp only [idxs]
    split <;> simp <;> omega
theorem idxs_yes {b k : Nat} (h : bit b k = true) : idxs b (k + 1) = idxs b k ++ [(k : Int)] := by simp only [idxs]; rw [if_pos h]
theorem idxs_no {b k : Nat} (h : bit b k = false) : idxs b (k + 1) = idxs b k := by simp only [idxs]; rw [h]; simp
theorem okIdx_no {left : List Bool} {b k : Nat} (h : bit b k = false) : okIdx left b (k + 1) = okIdx left b k := by simp [okIdx, h]
theorem okIdx_yes {left : List Bool} {b k : Nat} (h : bit b k = true) (hl : k < left.length) : okIdx left b (k + 1) = (okIdx left b k && left[k]) := by simp [okIdx, h, hl]
theorem okIdx_false {left : List Bool} {b : Nat} : ∀ {k n : Nat}, k ≤ n → okIdx left b k = false → okIdx left b n = false
  | k, 0, h, h1 => by obtain rfl : k = 0 := by omega
                      exact h1
  | k, n + 1, h, h1 => by
    by_cases e : k = n + 1
    · subst e; exact h1
    · simp [okIdx, okIdx_false (show k ≤ n by omega) h1]
end Go.Proofs.Ytcipnajdbafahaa.Tk
