/- Sections by their rows: plain. -/
import Derived.Test.YtokkpocccgdilaaGF
namespace Go.Proofs.Ytokkpocccgdilaa.Ge
set_option linter.unusedVariables false
set_option linter.unusedSimpArgs false
open Go.RowKit Go.Proofs.Ytokkpocccgdilaa.Ev

/-- A span, the zero span if it is empty. -/
def nf (x : Span) : Span := if emptyS x = true then (0, 0) else x
theorem nf_e {x : Span} (h : emptyS x = true) : nf x = (0, 0) := if_pos h
theorem nf_n {x : Span} (h : emptyS x = false) : nf x = x := if_neg (by rw [h]; simp)
theorem empty_is {x : Span} (h : x.2 ≤ x.1) : emptyS x = true := decide_eq_true h
theorem empty_not {x : Span} (h : x.1 < x.2) : emptyS x = false := decide_eq_false (by omega)
theorem empty_get {x : Span} (h : emptyS x = true) : x.2 ≤ x.1 := of_decide_eq_true h
theorem empty_none {x : Span} (h : emptyS x = false) : x.1 < x.2 := by have := of_decide_eq_false h; omega
theorem atR_ne {s : Sec} {r : Int} (h : (atR s r).1 < (atR s r).2) : s.low ≤ r ∧ r < s.low + s.rows.length := by
  unfold atR at h
  split at h
  · exact absurd h (by decide)
  · omega
theorem atR_i {s : Sec} {i : Nat} (h : i < s.rows.length) : atR s (s.low + i) = s.rows[i] := by
  unfold atR
  rw [if_neg (by omega), show (s.low + (i : Int) - s.low).toNat = i by omega, rowD_eq h]
theorem sec_low {a b : Sec} (va : SecV a) (h : ∀ r, -60 ≤ r → r < 60 → atR a r = atR b r) (h0 : 0 < a.rows.length) : b.low ≤ a.low ∧ a.low + a.rows.length ≤ b.low + b.rows.length := by
  have e := va.ends h0
  have l1 := va.low
  have l2 := va.high
  have a1 := atR_i (s := a) (i := 0) h0
  have a2 := atR_i (s := a) (i := a.rows.length - 1) (by omega)
  have b1 := h (a.low + ((0 : Nat) : Int)) (by omega) (by omega)
  have b2 := h (a.low + ((a.rows.length - 1 : Nat) : Int)) (by omega) (by omega)
  have c1 : (atR b (a.low + ((0 : Nat) : Int))).1 < (atR b (a.low + ((0 : Nat) : Int))).2 := by rw [← b1, a1]; exact e.1
  have c2 : (atR b (a.low + ((a.rows.length - 1 : Nat) : Int))).1 < (atR b (a.low + ((a.rows.length - 1 : Nat) : Int))).2 := by rw [← b2, a2]; exact e.2
  have d1 := atR_ne c1
  have d2 := atR_ne c2
  omega
theorem sec_ext {a b : Sec} (va : SecV a) (vb : SecV b) (h : ∀ r, -60 ≤ r → r < 60 → atR a r = atR b r) : a = b := by
  by_cases ha : 0 < a.rows.length
  · have h1 := sec_low va h ha
    have h2 := sec_low vb (fun r p q => (h r p q).symm) (show 0 < b.rows.length by omega)
    have el : a.low = b.low := by omega
    have en : a.rows.length = b.rows.length := by omega
    have hl := va.low
    have hh := va.high
    obtain ⟨la, ra⟩ := a
    obtain ⟨lb, rb⟩ := b
    dsimp only at el en hl hh
    subst el
    have : ra = rb := List.ext_getElem en fun i p q => by
      have x1 := atR_i (s := ⟨la, ra⟩) (i := i) p
      have x2 := atR_i (s := ⟨la, rb⟩) (i := i) q
      dsimp only at x1 x2
      rw [← x1, ← x2]; exact h _ (by omega) (by omega)
    rw [this]
  · have hb : ¬ 0 < b.rows.length := fun hb => by have := sec_low vb (fun r p q => (h r p q).symm) hb; omega
    have na := va.none (by omega)
    have nb := vb.none (by omega)
    obtain ⟨la, ra⟩ := a
    obtain ⟨lb, rb⟩ := b
    dsimp only at na nb ha hb
    rw [na, nb, List.eq_nil_of_length_eq_zero (show ra.length = 0 by omega), List.eq_nil_of_length_eq_zero (show rb.length = 0 by omega)]
theorem atR_zero {s : Sec} (v : SecV s) (r : Int) : (atR s r).1 < (atR s r).2 ∨ atR s r = (0, 0) := by
  unfold atR
  split
  · exact .inr rfl
  · have h : (r - s.low).toNat < s.rows.length := by omega
    rw [rowD_eq h]; exact v.zero _ h
theorem nf_at {s : Sec} (v : SecV s) (r : Int) : nf (atR s r) = atR s r := by
  rcases atR_zero v r with h | h
  · exact nf_n (empty_not h)
  · rw [h]; rfl
theorem atR_rng {s : Sec} (v : SecV s) (r : Int) : -600 ≤ (atR s r).1 ∧ (atR s r).1 ≤ (atR s r).2 ∧ (atR s r).2 ≤ 600 := by
  unfold atR
  split
  · decide
  · have h : (r - s.low).toNat < s.rows.length := by omega
    rw [rowD_eq h]; exact v.row _ h

def gd (l : List Span) (i : Nat) : Span := l.getD i (0, 0)
theorem gd_eq {l : List Span} {i : Nat} (h : i < l.length) : gd l i = l[i] := by unfold gd; rw [List.getD_eq_getElem?_getD, List.getElem?_eq_getElem h]; rfl
theorem gd_app {l : List Span} {x : Span} {i : Nat} (h : i < l.length) : gd (l ++ [x]) i = gd l i := by
  unfold gd; rw [List.getD_eq_getElem?_getD, List.getD_eq_getElem?_getD, List.getElem?_append_left h]
theorem gd_end {l : List Span} {x : Span} {i : Nat} (h : i = l.length) : gd (l ++ [x]) i = x := by
  subst h; unfold gd; rw [List.getD_eq_getElem?_getD, List.getElem?_append_right (Nat.le_refl _)]; simp
/-- What is built out of the rows up to r. -/
structure Bld (f : Int → Span) (r : Int) (lo : Int) (rows : List Span) (used : Nat) : Prop where
  le : used ≤ rows.length
  zero : used = 0 → lo = 0 ∧ rows = [] ∧ ∀ q, -60 ≤ q → q < r → emptyS (f q) = true
  pos : 0 < used → lo + rows.length = r ∧ -60 ≤ lo ∧ (∀ q, -60 ≤ q → q < lo → emptyS (f q) = true) ∧ (∀ i : Nat, i < rows.length → gd rows i = nf (f (lo + i))) ∧ emptyS (gd rows 0) = false ∧ emptyS (gd rows (used - 1)) = false ∧ ∀ i, used ≤ i → i < rows.length → gd rows i = (0, 0)
theorem bld_step {f : Int → Span} {r lo : Int} {rows : List Span} {used : Nat} (hr : -60 ≤ r) (h : Bld f r lo rows used) : Bld f (r + 1) (bldStep f r (lo, rows, used)).1 (bldStep f r (lo, rows, used)).2.1 (bldStep f r (lo, rows, used)).2.2 := by
  have hle := h.le
  unfold bldStep
  by_cases he : emptyS (f r) = false
  · rw [if_pos he]
    dsimp only
    by_cases hu : used = 0
    · rw [if_pos hu]
      obtain ⟨z1, z2, z3⟩ := h.zero hu
      subst z2
      refine ⟨by simp, fun hh => by simp at hh, fun _ => ⟨by simp, hr, fun q a b => z3 q a b, fun i hi => ?_, ?_, ?_, fun i a b => ?_⟩⟩
      · have : i = 0 := by simp at hi; omega
        subst this
        rw [show r + ((0 : Nat) : Int) = r by omega, nf_n he]; rfl
      · exact he
      · exact he
      · simp at a b; omega
    · rw [if_neg hu]
      obtain ⟨p1, p2, p3, p4, p5, p6, p7⟩ := h.pos (by omega)
      refine ⟨by simp, fun hh => by simp at hh, fun _ => ⟨by simp; omega, p2, p3, fun i hi => ?_, ?_, ?_, fun i a b => ?_⟩⟩
      · by_cases hi2 : i < rows.length
        · rw [gd_app hi2]; exact p4 i hi2
        · have : i = rows.length := by simp at hi; omega
          rw [gd_end this, this, show lo + (rows.length : Int) = r by omega, nf_n he]
      · rw [gd_app (by omega)]; exact p5
      · rw [gd_end (by omega)]; exact he
      · simp at a b; omega
  · rw [if_neg he]
    have he : emptyS (f r) = true := by cases h : emptyS (f r) <;> simp_all
    by_cases hu : 0 < used
    · rw [if_pos hu]
      dsimp only
      obtain ⟨p1, p2, p3, p4, p5, p6, p7⟩ := h.pos hu
      refine ⟨by simp; omega, fun hh => by omega, fun _ => ⟨by simp; omega, p2, p3, fun i hi => ?_, ?_, ?_, fun i a b => ?_⟩⟩
      · by_cases hi2 : i < rows.length
        · rw [gd_app hi2]; exact p4 i hi2
        · have : i = rows.length := by simp at hi; omega
          rw [gd_end this, this, show lo + (rows.length : Int) = r by omega, nf_e he]
      · rw [gd_app (by omega)]; exact p5
      · rw [gd_app (by omega)]; exact p6
      · by_cases hi2 : i < rows.length
        · rw [gd_app hi2]; exact p7 i a hi2
        · exact gd_end (by simp at b; omega)
    · rw [if_neg hu]
      dsimp only
      obtain ⟨z1, z2, z3⟩ := h.zero (by omega)
      refine ⟨hle, fun _ => ⟨z1, z2, fun q a b => ?_⟩, fun hh => absurd hh hu⟩
      by_cases hq : q = r
      · rw [hq]; exact he
      · exact z3 q a (by omega)
theorem bld_inv (f : Int → Span) : ∀ j : Nat, Bld f (-60 + j) (bldN f j).1 (bldN f j).2.1 (bldN f j).2.2
  | 0 => ⟨Nat.le_refl _, fun _ => ⟨rfl, rfl, fun q a b => by omega⟩, fun h => absurd h (Nat.lt_irrefl _)⟩
  | j + 1 => by
    have ih := bld_step (by omega) (bld_inv f j)
    rw [show (-60 : Int) + ((j + 1 : Nat) : Int) = -60 + (j : Int) + 1 by omega]
    exact ih
def Rng (f : Int → Span) : Prop := ∀ r, -60 ≤ r → r < 60 → (f r).1 < (f r).2 → -600 ≤ (f r).1 ∧ (f r).2 ≤ 600
/-- The section has these rows. -/
structure RowsOf (s : Sec) (f : Int → Span) : Prop where
  v : SecV s
  at' : ∀ r, -60 ≤ r → r < 60 → atR s r = nf (f r)
theorem gd_take {l : List Span} {n i : Nat} (h : i < n) : gd (l.take n) i = gd l i := by
  unfold gd; rw [List.getD_eq_getElem?_getD, List.getD_eq_getElem?_getD, List.getElem?_take_of_lt h]
theorem nf_rng {x : Span} (h : x.1 < x.2 → -600 ≤ x.1 ∧ x.2 ≤ 600) : (-600 ≤ (nf x).1 ∧ (nf x).1 ≤ (nf x).2 ∧ (nf x).2 ≤ 600) ∧ ((nf x).1 < (nf x).2 ∨ nf x = (0, 0)) := by
  cases he : emptyS x with
  | true => rw [nf_e he]; exact ⟨⟨by decide, by decide, by decide⟩, .inr rfl⟩
  | false =>
    rw [nf_n he]
    have h1 := empty_none he
    have h2 := h h1
    exact ⟨⟨by omega, by omega, by omega⟩, .inl h1⟩
theorem bld_rows {f : Int → Span} (hf : Rng f) : RowsOf (bldS f) f := by
  have h := bld_inv f 120
  unfold bldS
  generalize (bldN f 120).1 = lo at *
  generalize (bldN f 120).2.1 = rows at *
  generalize (bldN f 120).2.2 = used at *
  have hle := h.le
  have hlen : (rows.take used).length = used := by rw [List.length_take]; omega
  by_cases hu : 0 < used
  · obtain ⟨p1, p2, p3, p4, p5, p6, p7⟩ := h.pos hu
    have hrow : ∀ i (hi : i < (rows.take used).length), (rows.take used)[i] = nf (f (lo + i)) := fun i hi => by
      rw [hlen] at hi
      rw [← gd_eq (by rw [hlen]; exact hi), gd_take hi, p4 i (by omega)]
    have hin : ∀ i (hi : i < (rows.take used).length), -60 ≤ lo + (i : Int) ∧ lo + (i : Int) < 60 := fun i hi => by rw [hlen] at hi; omega
    refine ⟨⟨by dsimp only; omega, p2, by dsimp only; omega, fun i hi => ?_, fun i hi => ?_, fun hh => ⟨?_, ?_⟩, fun hh => by dsimp only at hh; omega⟩, fun r a b => ?_⟩
    · dsimp only at hi ⊢
      rw [hrow i hi]
      exact (nf_rng (hf _ (hin i hi).1 (hin i hi).2)).1
    · dsimp only at hi ⊢
      rw [hrow i hi]
      exact (nf_rng (hf _ (hin i hi).1 (hin i hi).2)).2
    · dsimp only
      rw [← gd_eq, gd_take hu]; exact empty_none p5
    · dsimp only
      rw [← gd_eq, hlen, gd_take (by omega)]; exact empty_none p6
    · unfold atR
      dsimp only
      rw [hlen]
      by_cases h1 : r < lo
      · rw [if_pos (by omega), nf_e (p3 r a h1)]
      · by_cases h2 : lo + used ≤ r
        · rw [if_pos (by omega)]
          have e := p7 (r - lo).toNat (by omega) (by omega)
          rw [p4 (r - lo).toNat (by omega), show lo + ((r - lo).toNat : Int) = r by omega] at e
          exact e.symm
        · rw [if_neg (by omega), rowD_eq (by dsimp only; omega)]
          dsimp only
          rw [hrow _ (by omega), show lo + ((r - lo).toNat : Int) = r by omega]
  · obtain ⟨z1, z2, z3⟩ := h.zero (by omega)
    have hu0 : used = 0 := by omega
    subst hu0
    subst z2
    subst z1
    refine ⟨sec0_V, fun r a b => ?_⟩
    rw [nf_e (z3 r a (by omega))]
    unfold atR
    dsimp only
    rw [if_pos (by simp; omega)]
theorem rows_eq {a b : Sec} {f g : Int → Span} (ha : RowsOf a f) (hb : RowsOf b g) (h : ∀ r, -60 ≤ r → r < 60 → nf (f r) = nf (g r)) : a = b :=
  sec_ext ha.v hb.v fun r p q => by rw [ha.at' r p q, hb.at' r p q, h r p q]
theorem RowsOf.self {s : Sec} (v : SecV s) : RowsOf s (atR s) := ⟨v, fun r _ _ => (nf_at v r).symm⟩
theorem meetS_nf (a b : Span) : nf (meetS a b) = meetS a b := by
  unfold meetS
  split
  · rfl
  · exact nf_n (empty_not (by dsimp only; omega))
theorem meet_rng {a b : Sec} (va : SecV a) : Rng fun r => meetS (atR a r) (atR b r) := fun r _ _ => by
  have := atR_rng va r
  dsimp only
  unfold meetS
  split
  · intro h; exact absurd h (by decide)
  · dsimp only; omega
theorem meet_rows {a b : Sec} : RowsOf (meetSec a b) fun r => meetS (atR (valS a) r) (atR (valS b) r) := bld_rows (meet_rng (valS_V a))
theorem valS_of {s : Sec} (v : SecV s) : valS s = s := by
  by_cases h : secChk s = 0
  · exact valS_ok h
  · exfalso
    apply h
    have r : SecR s := ⟨by have := v.len; omega, ⟨v.low, v.high⟩, fun i hi => range_is (by have := v.row i hi; omega)⟩
    by_cases h0 : s.rows.length = 0
    · rw [sc_none r h0, if_pos (v.none h0)]
    · refine (sc_ok r h0 (fun ⟨hh, hb⟩ => ?_) (fun i hi => ?_)).symm
      · have := v.ends hh
        unfold emptyS at hb
        simp only [decide_eq_true_eq] at hb
        omega
      · unfold okRow
        rcases v.zero i hi with h | h
        · rw [empty_not h]; rfl
        · rw [h]; rfl
theorem chk_of {s : Sec} (v : SecV s) : secChk s = 0 := by
  by_cases h : secChk s = 0
  · exact h
  · exfalso
    apply h
    have r : SecR s := ⟨by have := v.len; omega, ⟨v.low, v.high⟩, fun i hi => range_is (by have := v.row i hi; omega)⟩
    by_cases h0 : s.rows.length = 0
    · rw [sc_none r h0, if_pos (v.none h0)]
    · refine (sc_ok r h0 (fun ⟨hh, hb⟩ => ?_) (fun i hi => ?_)).symm
      · have := v.ends hh
        unfold emptyS at hb
        simp only [decide_eq_true_eq] at hb
        omega
      · unfold okRow
        rcases v.zero i hi with h | h
        · rw [empty_not h]; rfl
        · rw [h]; rfl
end Go.Proofs.Ytokkpocccgdilaa.Ge
