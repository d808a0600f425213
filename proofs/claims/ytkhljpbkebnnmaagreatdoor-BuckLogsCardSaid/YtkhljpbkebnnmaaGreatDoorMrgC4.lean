/- CutU CutMo CutR CutS CutY: texts laid together. -/
import Derived.Test.YtkhljpbkebnnmaaGreatDoorMrgC3
/- The best pieces are the best ones: plain. -/
namespace Go.Proofs.YtkhljpbkebnnmaaGreatDoor.Cu
set_option linter.unusedVariables false
set_option linter.unusedSimpArgs false
open Go.RowKit Go.Proofs.YtkhljpbkebnnmaaGreatDoor.Ev
def PV (l : Line) : Int → List Piece → Int
  | e, [] => if 0 ≤ e then cp l l.len - cp l e else 0
  | e, x :: xs => (if e < x.2 then paidP l e x.2 else 0) + gOf l x.1 x.2 + (if 0 ≤ behindS l (x.2 + szOf l x.1) then dp l (behindS l (x.2 + szOf l x.1)) - dp l (x.2 + szOf l x.1) else 0) + PV l (behindS l (x.2 + szOf l x.1)) xs
def OKs (l : Line) : Int → List Piece → Prop
  | _, [] => True
  | e, x :: xs => perm l e x = 0 ∧ OKs l (behindS l (x.2 + szOf l x.1)) xs
theorem sumSp_add (w : List Int) (d : List Span) (a b : Int) : sumSp w (addS d a b) = sumSp w d + if a < b then spV w (a, b) else 0 := by
  unfold addS
  by_cases h : b ≤ a
  · rw [if_pos h, if_neg (by omega)]; omega
  · rw [if_neg h, if_pos (by omega)]; unfold sumSp; rw [List.map_append, List.sum_append]; simp
theorem spV_dust (l : Line) (a b : Int) : spV l.dust (a, b) = dp l b - dp l a := rfl
theorem spV_chip (l : Line) (a b : Int) : spV l.chip (a, b) = cp l b - cp l a := rfl
theorem gsum_cons (l : Line) (x : Piece) (p : List Piece) : gsum l (x :: p) = gOf l x.1 x.2 + gsum l p := by unfold gsum; simp
theorem sz_of_perm {l : Line} (v : Valid l) {e : Int} {x : Piece} (h : perm l e x = 0) : 1 ≤ szOf l x.1 := by
  obtain ⟨q1, q2, _⟩ := perm0 (l := l) (e := e) (s := x.1) (p := x.2) h
  obtain ⟨k, hk1, hk2, hk3⟩ := szOf_eq (l := l) (s := x.1) q1 q2
  rw [hk3]; exact (v.size k hk2).1
theorem go_val {l : Line} (v : Valid l) : ∀ (p : List Piece) (e : Int) (d c D C : List Span), -1 ≤ e → e ≤ l.len → cutsGo l p e d c = (0, D, C) → OKs l e p ∧ sumSp l.dust D + sumSp l.chip C + gsum l p = sumSp l.dust d + sumSp l.chip c + PV l e p
  | [], e, d, c, D, C, h1, h2, h => by
    unfold cutsGo at h
    simp only [Prod.mk.injEq, true_and] at h
    obtain ⟨rfl, rfl⟩ := h
    refine ⟨trivial, ?_⟩
    unfold PV
    have : gsum l [] = 0 := rfl
    by_cases he : 0 ≤ e
    · rw [if_pos he, if_pos he, sumSp_add, spV_chip]
      by_cases hl : e < l.len
      · rw [if_pos hl]; omega
      · rw [if_neg hl, show e = l.len by omega]; omega
    · rw [if_neg he, if_neg he]; omega
  | x :: p, e, d, c, D, C, h1, h2, h => by
    unfold cutsGo at h
    by_cases hp : perm l e x = 0
    · rw [if_neg (fun hh => hh hp)] at h
      have hs := sz_of_perm v hp
      obtain ⟨q1, q2, q3, q4, q5, q6, q7⟩ := perm0 (l := l) (e := e) (s := x.1) (p := x.2) hp
      have hk := v.kerf
      have hpi := v.pitch
      have hb := beh_cases v (q := x.2 + szOf l x.1) (by omega) (by omega)
      obtain ⟨i1, i2⟩ := go_val v p _ _ _ D C (by omega) (by omega) h
      refine ⟨⟨hp, i1⟩, ?_⟩
      rw [gsum_cons]
      unfold PV
      have e1 : sumSp l.dust (addS (if e < x.2 then addS d (x.2 - l.kerf) x.2 else d) (x.2 + szOf l x.1) (behindS l (x.2 + szOf l x.1))) + sumSp l.chip (if e < x.2 then addS c e (x.2 - l.kerf) else c) = sumSp l.dust d + sumSp l.chip c + (if e < x.2 then paidP l e x.2 else 0) + (if 0 ≤ behindS l (x.2 + szOf l x.1) then dp l (behindS l (x.2 + szOf l x.1)) - dp l (x.2 + szOf l x.1) else 0) := by
        rw [sumSp_add, spV_dust]
        have e2 : (if x.2 + szOf l x.1 < behindS l (x.2 + szOf l x.1) then dp l (behindS l (x.2 + szOf l x.1)) - dp l (x.2 + szOf l x.1) else 0) = if 0 ≤ behindS l (x.2 + szOf l x.1) then dp l (behindS l (x.2 + szOf l x.1)) - dp l (x.2 + szOf l x.1) else 0 := by
          rcases hb with ⟨_, hb⟩ | ⟨_, hb, _⟩
          · rw [hb, if_neg (by omega), if_neg (by omega)]
          · by_cases hc : x.2 + szOf l x.1 < behindS l (x.2 + szOf l x.1)
            · rw [if_pos hc, if_pos (by omega)]
            · rw [if_neg hc, if_pos (by omega), show behindS l (x.2 + szOf l x.1) = x.2 + szOf l x.1 by omega]; omega
        rw [e2]
        by_cases he : e < x.2
        · rw [if_pos he, if_pos he, if_pos he, sumSp_add, sumSp_add, spV_dust, spV_chip]
          generalize (x.2 - l.kerf - e).tmod l.pitch = tm at *
          rw [if_pos (show e < x.2 - l.kerf by omega)]
          unfold paidP
          by_cases hk0 : x.2 - l.kerf < x.2
          · rw [if_pos hk0]; omega
          · rw [if_neg hk0, show x.2 - l.kerf = x.2 by omega]; omega
        · rw [if_neg he, if_neg he, if_neg he]; omega
      omega
    · rw [if_pos hp] at h
      simp only [Prod.mk.injEq] at h
      exact absurd h.1 hp
def Cand (l : Line) (e : Int) (i : Nat) (q : Int) : Prop := i < l.sizes.length ∧ OkP l i q ∧ (q = e ∨ ∃ j : Nat, 1 ≤ j ∧ q = atP l e j ∧ q ≤ l.len)
def cv (l : Line) (V : Int → Int) (e : Int) (i : Nat) (q : Int) : Int := (if e < q then paidP l e q else 0) + candV l V i q
theorem atP_lt {l : Line} (v : Valid l) (e : Int) {i j : Nat} (h : i < j) : atP l e i < atP l e j := by
  obtain ⟨k, rfl⟩ : ∃ k, j = i + 1 + k := ⟨j - (i + 1), by omega⟩
  have hp := v.pitch
  clear h
  induction k with
  | zero => rw [Nat.add_zero, atP_succ]; omega
  | succ k ih => rw [show i + 1 + (k + 1) = (i + 1 + k) + 1 by omega, atP_succ]; omega
theorem cand_of {l : Line} (v : Valid l) {e : Int} {x : Piece} (h : perm l e x = 0) : 0 ≤ x.1 ∧ Cand l e x.1.toNat x.2 := by
  obtain ⟨q1, q2, q3, q4, q5, q6, q7⟩ := perm0 (l := l) (e := e) (s := x.1) (p := x.2) h
  have hs := sz_of_perm v h
  refine ⟨q1, by omega, ⟨by rw [Int.toNat_of_nonneg q1]; omega, by rw [Int.toNat_of_nonneg q1]; exact q7⟩, ?_⟩
  rcases q6 with q6 | ⟨q6, q8⟩
  · exact .inl q6
  · obtain ⟨c, hc⟩ := Int.dvd_of_tmod_eq_zero q8
    have hp := v.pitch
    have hc1 : 1 ≤ c := by
      rcases Int.lt_or_le c 1 with hn | hn
      · have : l.pitch * c ≤ l.pitch * 0 := Int.mul_le_mul_of_nonneg_left (by omega) (by omega)
        omega
      · exact hn
    refine .inr ⟨c.toNat, by omega, ?_, by omega⟩
    unfold atP
    rw [Int.toNat_of_nonneg (by omega), Int.mul_comm]; omega
theorem perm_of {l : Line} (v : Valid l) {e : Int} (he : 0 ≤ e) {i : Nat} {q : Int} (h : Cand l e i q) : perm l e ((i : Int), q) = 0 := by
  obtain ⟨h1, ⟨h2, h3⟩, h4⟩ := h
  have hp := v.pitch
  have hk := v.kerf
  have hq : e ≤ q ∧ (q = e ∨ (l.pitch ≤ q - l.kerf - e ∧ (q - l.kerf - e).tmod l.pitch = 0)) := by
    rcases h4 with h4 | ⟨j, hj, h4, h5⟩
    · exact ⟨by omega, .inl h4⟩
    · have e1 : q - l.kerf - e = j * l.pitch := by rw [h4]; unfold atP; omega
      have e2 : l.pitch ≤ j * l.pitch := by
        have : 1 * l.pitch ≤ (j : Int) * l.pitch := Int.mul_le_mul_of_nonneg_right (by omega) (by omega)
        omega
      refine ⟨by omega, .inr ⟨by omega, by rw [e1]; exact Int.mul_tmod_left _ _⟩⟩
  unfold perm
  dsimp only
  rw [if_neg (by omega), if_neg (by omega), if_neg ?_, if_neg (by omega)]
  generalize (q - l.kerf - e).tmod l.pitch = tm at *
  omega
structure GrpI (l : Line) (V : Int → Int) (paid p : Int) (k : Nat) (b r : Ch) : Prop where
  ge : b.2.2 ≤ r.2.2
  all : ∀ i, i < k → OkP l i p → paid + candV l V i p ≤ r.2.2
  one : r = b ∨ ∃ i, i < k ∧ OkP l i p ∧ r = ((i : Int), p, paid + candV l V i p) ∧ b.2.2 < r.2.2 ∧ ∀ i', i' < i → OkP l i' p → paid + candV l V i' p < r.2.2
theorem grp_inv (l : Line) (V : Int → Int) (paid p : Int) (b : Ch) : ∀ k, GrpI l V paid p k b (grp l V paid p k b)
  | 0 => ⟨Int.le_refl _, fun i hi => by omega, .inl rfl⟩
  | k + 1 => by
    have ih := grp_inv l V paid p b k
    unfold grp
    generalize grp l V paid p k b = r at *
    have h1 := ih.ge
    split
    · rename_i h
      refine ⟨by dsimp only; omega, fun i hi ho => ?_, .inr ⟨k, by omega, h.1, rfl, by dsimp only; omega, fun i' hi' ho' => ?_⟩⟩
      · dsimp only
        by_cases hik : i = k
        · subst hik; omega
        · have := ih.all i (by omega) ho; omega
      · dsimp only
        have := ih.all i' hi' ho'; omega
    · rename_i h
      refine ⟨h1, fun i hi ho => ?_, ?_⟩
      · by_cases hik : i = k
        · subst hik
          rcases Int.lt_or_le r.2.2 (paid + candV l V i p) with hc | hc
          · exact absurd ⟨ho, hc⟩ h
          · exact hc
        · exact ih.all i (by omega) ho
      · rcases ih.one with ho | ⟨i, hi, ho⟩
        · exact .inl ho
        · exact .inr ⟨i, by omega, ho⟩
def At (l : Line) (e : Int) (m : Nat) (q : Int) : Prop := q = e ∨ ∃ j : Nat, 1 ≤ j ∧ j ≤ m ∧ q = atP l e j ∧ q ≤ l.len
structure PosI (l : Line) (V : Int → Int) (e : Int) (m : Nat) (r : Ch) : Prop where
  ge : cp l l.len - cp l e ≤ r.2.2
  all : ∀ i q, i < l.sizes.length → OkP l i q → At l e m q → cv l V e i q ≤ r.2.2
  one : r = (-1, -1, cp l l.len - cp l e) ∨ ∃ (i : Nat) (q : Int), r = ((i : Int), q, cv l V e i q) ∧ i < l.sizes.length ∧ OkP l i q ∧ At l e m q ∧ cp l l.len - cp l e < r.2.2 ∧ ∀ (i' : Nat) (q' : Int), Cand l e i' q' → (q' < q ∨ q' = q ∧ i' < i) → cv l V e i' q' < r.2.2
theorem At.succ {l : Line} {e : Int} {m : Nat} {q : Int} (h : At l e m q) : At l e (m + 1) q := by
  rcases h with h | ⟨j, h1, h2, h3⟩
  · exact .inl h
  · exact .inr ⟨j, h1, by omega, h3⟩
theorem pos_inv {l : Line} (v : Valid l) (V : Int → Int) (e : Int) : ∀ m, PosI l V e m (posS l V e m)
  | 0 => by
    have hi := grp_inv l V 0 e (-1, -1, cp l l.len - cp l e) l.sizes.length
    unfold posS
    generalize grp l V 0 e l.sizes.length (-1, -1, cp l l.len - cp l e) = r at *
    have hcv : ∀ i, cv l V e i e = 0 + candV l V i e := fun i => by unfold cv; rw [if_neg (by omega)]
    refine ⟨hi.ge, fun i q h1 h2 h3 => ?_, ?_⟩
    · rcases h3 with rfl | ⟨j, h3, h4, _⟩
      · rw [hcv]; exact hi.all i h1 h2
      · omega
    · rcases hi.one with h | ⟨i, h1, h2, h3, h4, h5⟩
      · exact .inl h
      · refine .inr ⟨i, e, by rw [hcv]; exact h3, h1, h2, .inl rfl, h4, fun i' q' hc ho => ?_⟩
        have hq : e ≤ q' := by
          rcases hc.2.2 with h | ⟨j, _, h, _⟩
          · omega
          · have := atP_ge v e j; have := v.kerf; omega
        rcases ho with ho | ⟨rfl, ho⟩
        · omega
        · rw [hcv]; exact h5 i' ho hc.2.1
  | m + 1 => by
    have ih := pos_inv v V e m
    unfold posS
    split
    · rename_i hle
      have hgt : e < atP l e (m + 1) := by have := atP_ge v e (m + 1); have := v.kerf; omega
      have hi := grp_inv l V (paidP l e (atP l e (m + 1))) (atP l e (m + 1)) (posS l V e m) l.sizes.length
      generalize posS l V e m = b at *
      generalize hr : grp l V (paidP l e (atP l e (m + 1))) (atP l e (m + 1)) l.sizes.length b = r at *
      have hcv : ∀ i, cv l V e i (atP l e (m + 1)) = paidP l e (atP l e (m + 1)) + candV l V i (atP l e (m + 1)) := fun i => by unfold cv; rw [if_pos hgt]
      have g1 := ih.ge
      have g2 := hi.ge
      refine ⟨by omega, fun i q h1 h2 h3 => ?_, ?_⟩
      · rcases h3 with h3 | ⟨j, h3, h4, h5, h6⟩
        · have := ih.all i q h1 h2 (.inl h3); omega
        · by_cases hj : j = m + 1
          · subst hj; rw [h5, hcv]; rw [h5] at h2; exact hi.all i h1 h2
          · have := ih.all i q h1 h2 (.inr ⟨j, h3, by omega, h5, h6⟩); omega
      · rcases hi.one with h | ⟨i, h1, h2, h3, h4, h5⟩
        · subst h
          rcases ih.one with h | ⟨i, q, k1, k2, k3, k4, k5⟩
          · exact .inl h
          · exact .inr ⟨i, q, k1, k2, k3, k4.succ, k5⟩
        · refine .inr ⟨i, atP l e (m + 1), by rw [hcv]; exact h3, h1, h2, .inr ⟨m + 1, by omega, Nat.le_refl _, rfl, hle⟩, by omega, fun i' q' hc ho => ?_⟩
          rcases ho with ho | ⟨rfl, ho⟩
          · have hat : At l e m q' := by
              rcases hc.2.2 with h | ⟨j, k1, k2, k3⟩
              · exact .inl h
              · refine .inr ⟨j, k1, ?_, k2, k3⟩
                rcases Nat.lt_or_ge j (m + 1) with hj | hj
                · omega
                · exfalso
                  rcases Nat.lt_or_ge (m + 1) j with hj2 | hj2
                  · have := atP_lt v e hj2; omega
                  · rw [show j = m + 1 by omega] at k2; omega
            have := ih.all i' q' hc.1 hc.2.1 hat
            omega
          · rw [hcv]; exact h5 i' ho hc.2.1
    · rename_i hle
      refine ⟨ih.ge, fun i q h1 h2 h3 => ?_, ?_⟩
      · rcases h3 with h3 | ⟨j, h3, h4, h5, h6⟩
        · exact ih.all i q h1 h2 (.inl h3)
        · by_cases hj : j = m + 1
          · subst hj; omega
          · exact ih.all i q h1 h2 (.inr ⟨j, h3, by omega, h5, h6⟩)
      · rcases ih.one with h | ⟨i, q, k1, k2, k3, k4, k5⟩
        · exact .inl h
        · exact .inr ⟨i, q, k1, k2, k3, k4.succ, k5⟩
theorem tt_inv {l : Line} (v : Valid l) {e : Int} (h0 : 0 ≤ e) (h1 : e ≤ l.len) : PosI l (TV l) e l.len.toNat (TT l e) := by
  rw [TT_eq v h0 h1]; exact pos_inv v _ e _
theorem at_of {l : Line} (v : Valid l) {e : Int} (h0 : 0 ≤ e) {i : Nat} {q : Int} (h : Cand l e i q) : At l e l.len.toNat q := by
  rcases h.2.2 with h | ⟨j, k1, k2, k3⟩
  · exact .inl h
  · have := atP_ge v e j
    have := v.kerf
    exact .inr ⟨j, k1, by omega, k2, k3⟩
theorem cand_at {l : Line} {e : Int} {i : Nat} {q : Int} {m : Nat} (h1 : i < l.sizes.length) (h2 : OkP l i q) (h : At l e m q) : Cand l e i q := by
  refine ⟨h1, h2, ?_⟩
  rcases h with h | ⟨j, k1, _, k2⟩
  · exact .inl h
  · exact .inr ⟨j, k1, k2⟩
def befS : List Piece → List Piece → Bool
  | [], [] => false
  | [], _ :: _ => true
  | _ :: _, [] => false
  | x :: xs, y :: ys => if x = y then befS xs ys else decide (x.2 < y.2 ∨ (x.2 = y.2 ∧ x.1 < y.1))
theorem PV_cons {l : Line} {e : Int} {x : Piece} (h0 : 0 ≤ x.1) (V : Int → Int) (xs : List Piece) (hV : 0 ≤ behindS l (x.2 + szOf l x.1) → PV l (behindS l (x.2 + szOf l x.1)) xs = V (behindS l (x.2 + szOf l x.1))) (hn : behindS l (x.2 + szOf l x.1) < 0 → xs = []) : PV l e (x :: xs) = cv l V e x.1.toNat x.2 := by
  unfold PV cv candV
  rw [Int.toNat_of_nonneg h0]
  by_cases hb : 0 ≤ behindS l (x.2 + szOf l x.1)
  · rw [if_pos hb, if_pos hb, hV hb]; omega
  · rw [if_neg hb, if_neg hb, hn (by omega)]
    unfold PV
    rw [if_neg hb]; omega
theorem oks_neg {l : Line} {e : Int} (he : e < 0) : ∀ {p : List Piece}, OKs l e p → p = []
  | [], _ => rfl
  | x :: p, h => by
    have := (perm0 (l := l) (e := e) (s := x.1) (p := x.2) h.1).2.2.2.2.1
    omega
theorem opt {l : Line} (v : Valid l) : ∀ (p : List Piece) (e : Int) (n : Nat), 0 ≤ e → e ≤ l.len → l.len - e + 1 ≤ n → OKs l e p → PV l e p ≤ TV l e ∧ (PV l e p = TV l e → befS p (chainS l n e) = false)
  | [], e, n, h0, h1, hn, _ => by
    have hi := tt_inv v h0 h1
    have hpv : PV l e [] = cp l l.len - cp l e := by unfold PV; rw [if_pos h0]
    rw [hpv]
    refine ⟨hi.ge, fun he => ?_⟩
    rcases hi.one with h | ⟨i, q, _, _, _, _, h, _⟩
    · rw [chain_stop (.inr (by rw [h]; exact (by decide : (-1 : Int) < 0)))]; rfl
    · unfold TV at he; omega
  | x :: xs, e, n, h0, h1, hn, ⟨hp, ho⟩ => by
    have hi := tt_inv v h0 h1
    obtain ⟨hx0, hc⟩ := cand_of v hp
    have hall := hi.all _ _ hc.1 hc.2.1 (at_of v h0 hc)
    have hs := sz_of_perm v hp
    obtain ⟨q1, q2, q3, q4, q5, q6, q7⟩ := perm0 (l := l) (e := e) (s := x.1) (p := x.2) hp
    have hk := v.kerf
    have hpi := v.pitch
    have hex : e ≤ x.2 := by generalize (x.2 - l.kerf - e).tmod l.pitch = tm at *; omega
    have hb := beh_cases v (q := x.2 + szOf l x.1) (by omega) (by omega)
    have hsum : PV l e (x :: xs) = (if e < x.2 then paidP l e x.2 else 0) + gOf l x.1 x.2 + (if 0 ≤ behindS l (x.2 + szOf l x.1) then dp l (behindS l (x.2 + szOf l x.1)) - dp l (x.2 + szOf l x.1) else 0) + PV l (behindS l (x.2 + szOf l x.1)) xs := rfl
    have hcv : cv l (TV l) e x.1.toNat x.2 = (if e < x.2 then paidP l e x.2 else 0) + gOf l x.1 x.2 + (if 0 ≤ behindS l (x.2 + szOf l x.1) then dp l (behindS l (x.2 + szOf l x.1)) - dp l (x.2 + szOf l x.1) else 0) + (if 0 ≤ behindS l (x.2 + szOf l x.1) then TV l (behindS l (x.2 + szOf l x.1)) else 0) := by
      unfold cv candV
      rw [Int.toNat_of_nonneg hx0]
      split <;> split <;> omega
    have hcvT : cv l (TV l) e x.1.toNat x.2 ≤ TV l e := hall
    obtain ⟨m, rfl⟩ : ∃ m, n = m + 1 := ⟨n - 1, by omega⟩
    have key : PV l (behindS l (x.2 + szOf l x.1)) xs ≤ (if 0 ≤ behindS l (x.2 + szOf l x.1) then TV l (behindS l (x.2 + szOf l x.1)) else 0) ∧ (PV l (behindS l (x.2 + szOf l x.1)) xs = (if 0 ≤ behindS l (x.2 + szOf l x.1) then TV l (behindS l (x.2 + szOf l x.1)) else 0) → befS xs (chainS l m (behindS l (x.2 + szOf l x.1))) = false) := by
      rcases hb with ⟨_, hb⟩ | ⟨b1, b2, b3, b4⟩
      · rw [hb] at ho ⊢
        rw [oks_neg (by omega) ho, chain_stop (.inl (by omega))]
        unfold PV
        simp [befS]
      · rw [if_pos (by omega)]
        exact opt v xs _ m (by omega) b3 (by omega) ho
    refine ⟨by omega, fun he => ?_⟩
    rcases hi.one with h | ⟨i, q, k1, k2, k3, k4, k5, k6⟩
    · rw [chain_stop (.inr (by rw [h]; exact (by decide : (-1 : Int) < 0)))]; rfl
    · rw [chain_go h0 (by rw [k1]; exact Int.natCast_nonneg _)]
      unfold befS
      by_cases hxy : x = ((TT l e).1, (TT l e).2.1)
      · rw [if_pos hxy]
        have e1 : (TT l e).1 = x.1 := by rw [hxy]
        have e2 : (TT l e).2.1 = x.2 := by rw [hxy]
        rw [e1, e2]
        exact key.2 (by omega)
      · rw [if_neg hxy, decide_eq_false]
        intro hb2
        have hTV : TV l e = (TT l e).2.2 := rfl
        have := k6 x.1.toNat x.2 hc (by
          rw [k1] at hb2; dsimp only at hb2
          rcases hb2 with hb2 | ⟨hb2, hb3⟩
          · exact .inl hb2
          · exact .inr ⟨hb2, by omega⟩)
        omega
theorem chain_opt {l : Line} (v : Valid l) : ∀ (n : Nat) (e : Int), 0 ≤ e → e ≤ l.len → l.len - e + 1 ≤ n → OKs l e (chainS l n e) ∧ PV l e (chainS l n e) = TV l e
  | 0, e, h0, h1, hn => by omega
  | n + 1, e, h0, h1, hn => by
    have hi := tt_inv v h0 h1
    rcases hi.one with h | ⟨i, q, k1, k2, k3, k4, k5, k6⟩
    · rw [chain_stop (.inr (by rw [h]; exact (by decide : (-1 : Int) < 0)))]
      refine ⟨trivial, ?_⟩
      unfold PV TV
      rw [if_pos h0, h]
    · have hc := cand_at k2 k3 k4
      have hp := perm_of v h0 hc
      rw [chain_go h0 (by rw [k1]; exact Int.natCast_nonneg _), k1]
      dsimp only
      have hs := sz_of_perm v hp
      obtain ⟨q1, q2, q3, q4, q5, q6, q7⟩ := perm0 (l := l) (e := e) (s := (i : Int)) (p := q) hp
      have hk := v.kerf
      have hpi := v.pitch
      have hex : e ≤ q := by generalize (q - l.kerf - e).tmod l.pitch = tm at *; omega
      dsimp only at hs
      have hb := beh_cases v (q := q + szOf l i) (by omega) (by omega)
      have key : OKs l (behindS l (q + szOf l i)) (chainS l n (behindS l (q + szOf l i))) ∧ (0 ≤ behindS l (q + szOf l i) → PV l (behindS l (q + szOf l i)) (chainS l n (behindS l (q + szOf l i))) = TV l (behindS l (q + szOf l i))) ∧ (behindS l (q + szOf l i) < 0 → chainS l n (behindS l (q + szOf l i)) = []) := by
        rcases hb with ⟨_, hb⟩ | ⟨b1, b2, b3, b4⟩
        · rw [hb, chain_stop (.inl (by omega))]
          exact ⟨trivial, fun h => by omega, fun _ => rfl⟩
        · obtain ⟨j1, j2⟩ := chain_opt v n (behindS l (q + szOf l i)) (by omega) b3 (by omega)
          exact ⟨j1, fun _ => j2, fun h => by omega⟩
      refine ⟨⟨hp, key.1⟩, ?_⟩
      rw [PV_cons (x := ((i : Int), q)) (Int.natCast_nonneg _) (TV l) _ key.2.1 key.2.2]
      unfold TV
      rw [k1]
      rfl
end Go.Proofs.YtkhljpbkebnnmaaGreatDoor.Cu
/- A line that grows (more sizes, greater gains) has no smaller best value: plain. -/
namespace Go.Proofs.YtkhljpbkebnnmaaGreatDoor.Cu
set_option linter.unusedVariables false
set_option linter.unusedSimpArgs false
open Go.RowKit Go.Proofs.YtkhljpbkebnnmaaGreatDoor.Ev
structure Grows (a b : Line) : Prop where
  len : b.len = a.len
  kerf : b.kerf = a.kerf
  pitch : b.pitch = a.pitch
  chip : b.chip = a.chip
  dust : b.dust = a.dust
  more : a.sizes.length ≤ b.sizes.length
  size : ∀ s : Int, 0 ≤ s → s < a.sizes.length → szOf b s = szOf a s
  gain : ∀ s q : Int, 0 ≤ s → s < a.sizes.length → 0 ≤ q → q ≤ a.len - szOf a s → gOf a s q ≤ gOf b s q
theorem Grows.behind {a b : Line} (g : Grows a b) (e : Int) : behindS b e = behindS a e := by unfold behindS; rw [g.len, g.kerf]
theorem Grows.perm {a b : Line} (g : Grows a b) {e : Int} {x : Piece} (h : perm a e x = 0) : perm b e x = 0 := by
  obtain ⟨q1, q2, q3, q4, q5, q6, q7⟩ := perm0 (l := a) (e := e) (s := x.1) (p := x.2) h
  have h1 := g.size x.1 q1 q2
  have h2 := g.gain x.1 x.2 q1 q2 q3 q4
  have h3 := g.more
  unfold Cu.perm at h ⊢
  rw [g.len, g.kerf, g.pitch, h1]
  split at h
  · cases h
  · rw [if_neg (by omega)]
    split at h
    · cases h
    · rename_i h4
      rw [if_neg h4]
      split at h
      · cases h
      · rename_i h5
        rw [if_neg h5, if_neg (by omega)]
theorem Grows.oks {a b : Line} (g : Grows a b) : ∀ (p : List Piece) (e : Int), OKs a e p → OKs b e p ∧ PV a e p ≤ PV b e p
  | [], e, _ => by
    refine ⟨trivial, ?_⟩
    unfold PV cp
    rw [g.len, g.chip]; exact Int.le_refl _
  | x :: xs, e, ⟨h1, h2⟩ => by
    obtain ⟨q1, q2, q3, q4, q5, q6, q7⟩ := perm0 (l := a) (e := e) (s := x.1) (p := x.2) h1
    have hs := g.size x.1 q1 q2
    have hg := g.gain x.1 x.2 q1 q2 q3 q4
    obtain ⟨i1, i2⟩ := g.oks xs _ h2
    have hb : behindS b (x.2 + szOf b x.1) = behindS a (x.2 + szOf a x.1) := by rw [hs, g.behind]
    refine ⟨⟨g.perm h1, by rw [hb]; exact i1⟩, ?_⟩
    unfold PV
    rw [hb, hs]
    have hp : paidP b e x.2 = paidP a e x.2 := by unfold paidP cp dp; rw [g.kerf, g.chip, g.dust]
    have hd : ∀ k, dp b k = dp a k := fun k => by unfold dp; rw [g.dust]
    rw [hp, hd, hd]
    omega
theorem Grows.best {a b : Line} (g : Grows a b) (va : Valid a) (vb : Valid b) : TV a 0 ≤ TV b 0 := by
  have hl := va.len
  obtain ⟨h1, h2⟩ := chain_opt va (a.len.toNat + 1) 0 (Int.le_refl 0) hl.1 (by omega)
  obtain ⟨h3, h4⟩ := g.oks _ _ h1
  have := (opt vb (chainS a (a.len.toNat + 1) 0) 0 (b.len.toNat + 1) (Int.le_refl 0) (by rw [g.len]; exact hl.1) (by have := vb.len; omega) h3).1
  omega
end Go.Proofs.YtkhljpbkebnnmaaGreatDoor.Cu
/- Walks of the laws on cutting: awake, and the laws that compare with the reference. -/
namespace Go.Proofs.YtkhljpbkebnnmaaGreatDoor.Cu
set_option linter.unusedVariables false
set_option linter.unusedSimpArgs false
open Go.RowKit Go.Proofs.YtkhljpbkebnnmaaGreatDoor.Ev
end Go.Proofs.YtkhljpbkebnnmaaGreatDoor.Cu
/- Walks of the laws on cutting that compare with the reference. -/
namespace Go.Proofs.YtkhljpbkebnnmaaGreatDoor.Cu
set_option linter.unusedVariables false
set_option linter.unusedSimpArgs false
open Go.RowKit Go.Proofs.YtkhljpbkebnnmaaGreatDoor.Ev
end Go.Proofs.YtkhljpbkebnnmaaGreatDoor.Cu
/- Pieces, dust and chips are the line: plain, and the walk of the law. -/
namespace Go.Proofs.YtkhljpbkebnnmaaGreatDoor.Cu
set_option linter.unusedVariables false
set_option linter.unusedSimpArgs false
open Go.RowKit Go.Proofs.YtkhljpbkebnnmaaGreatDoor.Ev
def ind (a b k : Int) : Int := if a ≤ k ∧ k < b then 1 else 0
structure Srt (ss : List Span) (e : Int) : Prop where
  le : ∀ s ∈ ss, s.2 ≤ e
  nx : ∀ i (h : i + 1 < ss.length), ss[i].2 ≤ ss[i + 1].1
theorem Srt.mono {ss : List Span} {e e' : Int} (h : Srt ss e) (he : e ≤ e') : Srt ss e' := ⟨fun s hs => by have := h.le s hs; omega, h.nx⟩
theorem Srt.add {ss : List Span} {a b : Int} (h : Srt ss a) (hab : a ≤ b) : Srt (addS ss a b) b := by
  unfold addS
  split
  · exact h.mono hab
  · refine ⟨fun s hs => ?_, fun i hi => ?_⟩
    · rcases List.mem_append.1 hs with hs | hs
      · have := h.le s hs; omega
      · simp only [List.mem_singleton] at hs; subst hs; exact Int.le_refl _
    · simp only [List.length_append, List.length_cons, List.length_nil] at hi
      rw [List.getElem_append_left (by omega)]
      by_cases he : i + 1 = ss.length
      · have h1 := h.le ss[i] (List.getElem_mem (by omega))
        rw [List.getElem_append_right (by omega)]
        simpa using h1
      · rw [List.getElem_append_left (by omega)]; exact h.nx i (by omega)
end Go.Proofs.YtkhljpbkebnnmaaGreatDoor.Cu
