/- The best pieces, in plain Lean: no program here. -/
import Derived.Test.YtjofnmklkndhoaaDoorCutH
namespace Go.Proofs.YtjofnmklkndhoaaDoor.Cu
set_option linter.unusedVariables false
set_option linter.unusedSimpArgs false
open Go.RowKit Go.Proofs.YtjofnmklkndhoaaDoor.Ev

/-- Size (negative: none), position, value. -/
abbrev Ch := Int × Int × Int
def dp (l : Line) (k : Int) : Int := pre l.dust k.toNat
def cp (l : Line) (k : Int) : Int := pre l.chip k.toNat
def OkP (l : Line) (i : Nat) (p : Int) : Prop := p + szOf l i ≤ l.len ∧ 0 ≤ gOf l i p
instance (l : Line) (i : Nat) (p : Int) : Decidable (OkP l i p) := by unfold OkP; infer_instance
/-- The value of a piece, of its cut and of what follows. -/
def candV (l : Line) (V : Int → Int) (i : Nat) (p : Int) : Int :=
  gOf l i p + (if 0 ≤ behindS l (p + szOf l i) then dp l (behindS l (p + szOf l i)) - dp l (p + szOf l i) + V (behindS l (p + szOf l i)) else 0)
def stS (l : Line) (V : Int → Int) (p : Int) : Nat → Ch
  | 0 => (-1, -1, 0)
  | k + 1 => if OkP l k p ∧ ((stS l V p k).1 < 0 ∨ (stS l V p k).2.2 < candV l V k p) then ((k : Int), p, candV l V k p) else stS l V p k
def grp (l : Line) (V : Int → Int) (paid p : Int) : Nat → Ch → Ch
  | 0, b => b
  | k + 1, b => if OkP l k p ∧ (grp l V paid p k b).2.2 < paid + candV l V k p then ((k : Int), p, paid + candV l V k p) else grp l V paid p k b
def atP (l : Line) (e : Int) (m : Nat) : Int := e + m * l.pitch + l.kerf
def paidP (l : Line) (e q : Int) : Int := cp l (q - l.kerf) - cp l e + dp l q - dp l (q - l.kerf)
def posS (l : Line) (V : Int → Int) (e : Int) : Nat → Ch
  | 0 => grp l V 0 e l.sizes.length (-1, -1, cp l l.len - cp l e)
  | m + 1 => if atP l e (m + 1) ≤ l.len then grp l V (paidP l e (atP l e (m + 1))) (atP l e (m + 1)) l.sizes.length (posS l V e m) else posS l V e m
def chooseS (l : Line) (V : Int → Int) (e : Int) : Ch := posS l V e l.len.toNat
def Tb (l : Line) : Nat → Int → Ch
  | 0, _ => (-1, -1, 0)
  | n + 1, e => chooseS l (fun e' => (Tb l n e').2.2) e
/-- The best continuation from an edge. -/
def TT (l : Line) (e : Int) : Ch := Tb l (l.len.toNat + 1) e
def TV (l : Line) (e : Int) : Int := (TT l e).2.2

theorem atP_succ (l : Line) (e : Int) (m : Nat) : atP l e (m + 1) = atP l e m + l.pitch := by
  unfold atP
  rw [show ((m + 1 : Nat) : Int) = (m : Int) + 1 by omega, Int.add_mul]; omega
theorem atP_ge {l : Line} (v : Valid l) (e : Int) : ∀ m : Nat, e + l.kerf + m ≤ atP l e m
  | 0 => by unfold atP; omega
  | m + 1 => by
    have := atP_ge v e m
    have := v.pitch
    rw [atP_succ]; omega
theorem stS_sgn (l : Line) (V : Int → Int) (p : Int) : ∀ k, stS l V p k = (-1, -1, 0) ∨ (0 ≤ (stS l V p k).1 ∧ (stS l V p k).1 < k ∧ (stS l V p k).2.1 = p ∧ OkP l (stS l V p k).1.toNat p ∧ (stS l V p k).2.2 = candV l V (stS l V p k).1.toNat p)
  | 0 => .inl rfl
  | k + 1 => by
    unfold stS
    split
    · rename_i h
      exact .inr ⟨by simp, by simp; omega, rfl, by simpa using h.1, by simp⟩
    · rcases stS_sgn l V p k with h | ⟨h1, h2, h3⟩
      · exact .inl h
      · exact .inr ⟨h1, by omega, h3⟩
theorem grp_st (l : Line) (V : Int → Int) (paid p : Int) (b : Ch) : ∀ k, grp l V paid p k b = if 0 ≤ (stS l V p k).1 ∧ b.2.2 < (stS l V p k).2.2 + paid then ((stS l V p k).1, p, (stS l V p k).2.2 + paid) else b
  | 0 => by simp [grp, stS]
  | k + 1 => by
    unfold grp stS
    rw [grp_st l V paid p b k]
    have hs := stS_sgn l V p k
    generalize stS l V p k = s at *
    generalize candV l V k p = c at *
    by_cases ho : OkP l k p
    · simp only [ho, true_and]
      by_cases h2 : s.1 < 0 ∨ s.2.2 < c
      · rw [if_pos h2]
        dsimp only
        by_cases h1 : 0 ≤ s.1 ∧ b.2.2 < s.2.2 + paid
        · rw [if_pos h1, if_pos (by show s.2.2 + paid < paid + c; omega), if_pos (by omega), Int.add_comm]
        · rw [if_neg h1]
          by_cases h3 : b.2.2 < paid + c
          · rw [if_pos h3, if_pos (by omega), Int.add_comm]
          · rw [if_neg h3, if_neg (by omega)]
      · rw [if_neg h2]
        by_cases h1 : 0 ≤ s.1 ∧ b.2.2 < s.2.2 + paid
        · rw [if_pos h1, if_neg (by show ¬ s.2.2 + paid < paid + c; omega)]
        · rw [if_neg h1, if_neg (by omega)]
    · simp only [ho, false_and, if_false]
theorem posS_succ (l : Line) (V : Int → Int) (e : Int) (m : Nat) : posS l V e (m + 1) = if atP l e (m + 1) ≤ l.len then grp l V (paidP l e (atP l e (m + 1))) (atP l e (m + 1)) l.sizes.length (posS l V e m) else posS l V e m := rfl
theorem posS_stop {l : Line} (v : Valid l) (V : Int → Int) (e : Int) {m : Nat} (h : l.len < atP l e (m + 1)) : ∀ k, posS l V e (m + k) = posS l V e m
  | 0 => rfl
  | k + 1 => by
    have hm : ∀ j : Nat, atP l e (m + 1) ≤ atP l e (m + 1 + j) := by
      intro j
      induction j with
      | zero => exact Int.le_refl _
      | succ j ih => have := v.pitch; rw [show m + 1 + (j + 1) = (m + 1 + j) + 1 by omega, atP_succ l e (m + 1 + j)]; omega
    have := hm k
    rw [show m + (k + 1) = (m + k) + 1 by omega, posS_succ, if_neg (by rw [show m + k + 1 = m + 1 + k by omega]; omega)]
    exact posS_stop v V e h k
theorem posS_end {l : Line} (v : Valid l) (V : Int → Int) {e : Int} (he : 0 ≤ e) {m : Nat} (h : l.len < atP l e (m + 1)) : posS l V e m = chooseS l V e := by
  have h2 : l.len < atP l e (l.len.toNat + 1) := by
    have := atP_ge v e (l.len.toNat + 1)
    have := v.kerf; have := v.len
    omega
  unfold chooseS
  rw [← posS_stop v V e h l.len.toNat, ← posS_stop v V e h2 m, Nat.add_comm]
theorem beh_cases {l : Line} (v : Valid l) {q : Int} (h0 : 0 ≤ q) (h1 : q ≤ l.len) : (q = l.len ∧ behindS l q = -1) ∨ (q < l.len ∧ q ≤ behindS l q ∧ behindS l q ≤ l.len ∧ behindS l q = min (q + l.kerf) l.len) := by
  unfold behindS
  have := v.kerf
  by_cases hc : q = l.len
  · exact .inl ⟨hc, if_pos hc⟩
  · rw [if_neg hc]; exact .inr ⟨by omega, by omega, by omega, rfl⟩
theorem sz_pos {l : Line} (v : Valid l) {i : Nat} (h : i < l.sizes.length) : 1 ≤ szOf l i := by
  rw [szOf_nat h]; exact (v.size i h).1
theorem candV_congr {l : Line} (v : Valid l) {V V' : Int → Int} {e p : Int} (he : 0 ≤ e) (hp : e ≤ p) (h : ∀ x, e < x → x ≤ l.len → V x = V' x) {i : Nat} (hi : i < l.sizes.length) (ho : OkP l i p) : candV l V i p = candV l V' i p := by
  have hs := sz_pos v hi
  unfold candV
  rcases beh_cases v (q := p + szOf l i) (by omega) ho.1 with ⟨_, hb⟩ | ⟨_, h1, h2, _⟩
  · rw [hb]; simp
  · rw [h _ (by omega) h2]
theorem stS_congr {l : Line} (v : Valid l) {V V' : Int → Int} {e p : Int} (he : 0 ≤ e) (hp : e ≤ p) (h : ∀ x, e < x → x ≤ l.len → V x = V' x) : ∀ k, k ≤ l.sizes.length → stS l V p k = stS l V' p k
  | 0, _ => rfl
  | k + 1, hk => by
    unfold stS
    rw [stS_congr v he hp h k (by omega)]
    by_cases ho : OkP l k p
    · rw [candV_congr v he hp h (by omega) ho]
    · rw [if_neg (fun hh => ho hh.1), if_neg (fun hh => ho hh.1)]
theorem grp_congr {l : Line} (v : Valid l) {V V' : Int → Int} {e p : Int} (he : 0 ≤ e) (hp : e ≤ p) (h : ∀ x, e < x → x ≤ l.len → V x = V' x) (paid : Int) (b : Ch) : grp l V paid p l.sizes.length b = grp l V' paid p l.sizes.length b := by
  rw [grp_st, grp_st, stS_congr v he hp h _ (Nat.le_refl _)]
theorem posS_congr {l : Line} (v : Valid l) {V V' : Int → Int} {e : Int} (he : 0 ≤ e) (h : ∀ x, e < x → x ≤ l.len → V x = V' x) : ∀ m, posS l V e m = posS l V' e m
  | 0 => by unfold posS; exact grp_congr v he (Int.le_refl _) h _ _
  | m + 1 => by
    have := atP_ge v e (m + 1)
    have := v.kerf
    unfold posS
    rw [posS_congr v he h m, grp_congr v he (by omega) h]
theorem T_fuel {l : Line} (v : Valid l) : ∀ (n m : Nat) (e : Int), 0 ≤ e → e ≤ l.len → l.len - e < n → l.len - e < m → Tb l n e = Tb l m e
  | 0, _, e, _, _, _, _ => by omega
  | n + 1, 0, e, _, _, _, _ => by omega
  | n + 1, m + 1, e, h0, h1, h2, h3 => by
    unfold Tb chooseS
    exact posS_congr v h0 (fun x hx hx2 => by
      show (Tb l n x).2.2 = (Tb l m x).2.2
      rw [T_fuel v n m x (by omega) hx2 (by omega) (by omega)]) _
theorem TT_eq {l : Line} (v : Valid l) {e : Int} (h0 : 0 ≤ e) (h1 : e ≤ l.len) : TT l e = chooseS l (TV l) e := by
  unfold TT
  rw [T_fuel v (l.len.toNat + 1) (l.len.toNat + 1 + 1) e h0 h1 (by omega) (by omega)]
  rfl
/-- The bound of the values. -/
def VB (l : Line) (V : Int → Int) (e : Int) : Prop := ∀ x, e < x → x ≤ l.len → -1125899906842624 * (l.len - x) ≤ V x ∧ V x ≤ 1125899906842624 * (l.len - x)
theorem gOf_bd {l : Line} (v : Valid l) {i : Nat} (hi : i < l.sizes.length) {p : Int} (h0 : 0 ≤ p) (h1 : p + szOf l i ≤ l.len) : -1125899906842624 ≤ gOf l i p ∧ gOf l i p ≤ 1125899906842624 := by
  rw [szOf_nat hi] at h1
  obtain ⟨j, rfl, h2, h3, h4⟩ := gOf_eq v hi h0 (by omega)
  rw [h4]; exact v.gains _ h2 _ h3
theorem dp_bd {l : Line} (v : Valid l) {a b : Int} (h0 : 0 ≤ a) (h1 : a ≤ b) (h2 : b ≤ l.len) : -1125899906842624 * (b - a) ≤ dp l b - dp l a ∧ dp l b - dp l a ≤ 1125899906842624 * (b - a) := by
  have hd := v.dust
  have := pre_bd' v.dusts a.toNat b.toNat (by omega) (by omega)
  unfold dp
  rw [show (a.toNat : Int) = a by omega, show (b.toNat : Int) = b by omega] at this
  exact this
theorem cp_bd {l : Line} (v : Valid l) {a b : Int} (h0 : 0 ≤ a) (h1 : a ≤ b) (h2 : b ≤ l.len) : -1125899906842624 * (b - a) ≤ cp l b - cp l a ∧ cp l b - cp l a ≤ 1125899906842624 * (b - a) := by
  have hd := v.chip
  have := pre_bd' v.chips a.toNat b.toNat (by omega) (by omega)
  unfold cp
  rw [show (a.toNat : Int) = a by omega, show (b.toNat : Int) = b by omega] at this
  exact this
theorem candV_bd {l : Line} (v : Valid l) {V : Int → Int} {e p : Int} (he : 0 ≤ e) (hp : e ≤ p) (h : VB l V e) {i : Nat} (hi : i < l.sizes.length) (ho : OkP l i p) : -1125899906842624 * (l.len - p) ≤ candV l V i p ∧ candV l V i p ≤ 1125899906842624 * (l.len - p) := by
  have hs := sz_pos v hi
  have hg := gOf_bd v hi (by omega) ho.1
  have ho1 := ho.1
  unfold candV
  rcases beh_cases v (q := p + szOf l i) (by omega) ho.1 with ⟨_, hb⟩ | ⟨_, h1, h2, _⟩
  · rw [hb, if_neg (by omega)]; omega
  · rw [if_pos (by omega)]
    have h3 := dp_bd v (by omega) h1 h2
    have h4 := h _ (by omega) h2
    omega
theorem stS_bd {l : Line} (v : Valid l) {V : Int → Int} {e p : Int} (he : 0 ≤ e) (hp : e ≤ p) (hpl : p ≤ l.len) (h : VB l V e) {k : Nat} (hk : k ≤ l.sizes.length) : -1125899906842624 * (l.len - p) ≤ (stS l V p k).2.2 ∧ (stS l V p k).2.2 ≤ 1125899906842624 * (l.len - p) := by
  rcases stS_sgn l V p k with h1 | ⟨h1, h2, h3, h4, h5⟩
  · rw [h1]; dsimp only; omega
  · rw [h5]; exact candV_bd v he hp h (by omega) h4
theorem paidP_bd {l : Line} (v : Valid l) {e q : Int} (he : 0 ≤ e) (h1 : e ≤ q - l.kerf) (h2 : q ≤ l.len) : -1125899906842624 * (q - e) ≤ paidP l e q ∧ paidP l e q ≤ 1125899906842624 * (q - e) := by
  have := v.kerf
  have a1 := cp_bd v he h1 (by omega)
  have a2 := dp_bd v (a := q - l.kerf) (b := q) (by omega) (by omega) h2
  unfold paidP
  omega
theorem posS_bd {l : Line} (v : Valid l) {V : Int → Int} {e : Int} (he : 0 ≤ e) (hel : e ≤ l.len) (h : VB l V e) : ∀ m, -1125899906842624 * (l.len - e) ≤ (posS l V e m).2.2 ∧ (posS l V e m).2.2 ≤ 1125899906842624 * (l.len - e)
  | 0 => by
    have := stS_bd v he (Int.le_refl _) hel h (Nat.le_refl _)
    have := cp_bd v he hel (Int.le_refl _)
    unfold posS
    rw [grp_st]
    split <;> dsimp only <;> omega
  | m + 1 => by
    have ih := posS_bd v he hel h m
    unfold posS
    split
    · rename_i hq
      have h1 := atP_ge v e (m + 1)
      have := v.kerf
      generalize atP l e (m + 1) = q at *
      have h2 := stS_bd v he (p := q) (by omega) hq h (Nat.le_refl _)
      have h3 := paidP_bd v he (q := q) (by omega) hq
      rw [grp_st]
      split
      · dsimp only; omega
      · exact ih
    · exact ih
theorem T_bd {l : Line} (v : Valid l) : ∀ (n : Nat) (e : Int), 0 ≤ e → e ≤ l.len → -1125899906842624 * (l.len - e) ≤ (Tb l n e).2.2 ∧ (Tb l n e).2.2 ≤ 1125899906842624 * (l.len - e)
  | 0, e, h0, h1 => by unfold Tb; dsimp only; omega
  | n + 1, e, h0, h1 => posS_bd v h0 h1 (fun x hx hx2 => T_bd v n x (by omega) hx2) _
theorem TV_bd {l : Line} (v : Valid l) {e : Int} (he : 0 ≤ e) : VB l (TV l) e := fun x hx hx2 => T_bd v _ x (by omega) hx2
theorem posS_sgn (l : Line) (V : Int → Int) (e : Int) : ∀ m, ((posS l V e m).1 = -1 ∧ (posS l V e m).2.1 = -1) ∨ ∃ q, (q = e ∨ ∃ j : Nat, 1 ≤ j ∧ q = atP l e j ∧ q ≤ l.len) ∧ 0 ≤ (posS l V e m).1 ∧ (posS l V e m).1 < l.sizes.length ∧ (posS l V e m).2.1 = q ∧ OkP l (posS l V e m).1.toNat q
  | 0 => by
    unfold posS
    rw [grp_st]
    split
    · rename_i h
      rcases stS_sgn l V e l.sizes.length with h1 | ⟨h1, h2, h3, h4, h5⟩
      · rw [h1] at h; simp at h
      · exact .inr ⟨e, .inl rfl, h1, h2, rfl, h4⟩
    · exact .inl ⟨rfl, rfl⟩
  | m + 1 => by
    unfold posS
    split
    · rename_i hq
      rw [grp_st]
      split
      · rename_i h
        rcases stS_sgn l V (atP l e (m + 1)) l.sizes.length with h1 | ⟨h1, h2, h3, h4, h5⟩
        · rw [h1] at h; simp at h
        · exact .inr ⟨_, .inr ⟨m + 1, by omega, rfl, hq⟩, h1, h2, rfl, h4⟩
      · exact posS_sgn l V e m
    · exact posS_sgn l V e m
end Go.Proofs.YtjofnmklkndhoaaDoor.Cu
