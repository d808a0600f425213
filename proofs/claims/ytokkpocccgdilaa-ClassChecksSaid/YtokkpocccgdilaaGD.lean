/- Walks of geometry: solids: Within, At, Cut in both. -/
import Derived.Test.YtokkpocccgdilaaGC
namespace Go.Proofs.Ytokkpocccgdilaa.Ge
set_option linter.unusedVariables false
set_option linter.unusedSimpArgs false
open Go.RowKit Go.Proofs.Ytokkpocccgdilaa.Ev
variable {gl : List (Nat × List CV)}

/-- The part of slice i along Z. -/
def ovZ (l : List Slc) (Z : Span) (i : Nat) : Int := ov (pos l i, pos l i + lenD l i) Z
def winV (l : List Slc) (X Y Z : Span) : Int := sumN (fun i => ovZ l Z i * inV (secD l i) X Y) l.length
noncomputable def winS (l : List Slc) (X Y Z : Span) : Int := winV (valL l) X Y Z
theorem in_V {s : Sec} (v : SecV s) (X Y : Span) : 0 ≤ inV s X Y ∧ inV s X Y ≤ 1440000 := by
  have := (sumN_bd (c := 12000) (n := s.rows.length) (fun i hi => in_bd v X Y hi)) _ (Nat.le_refl _)
  have h2 := v.len
  unfold inV; omega
theorem inS_ok {s : Sec} (h : secChk s = 0) (X Y : Span) : inS s X Y = inV s X Y := by unfold inS; rw [valS_ok h]
theorem ovZ_bd {l : List Slc} (v : SolV l) {i : Nat} (hi : i < l.length) (Z : Span) : 0 ≤ ovZ l Z i ∧ ovZ l Z i ≤ l[i].len := by
  have := v.one i hi
  unfold ovZ ov; dsimp only; rw [lenD_eq hi]; omega
theorem win_bd {l : List Slc} (v : SolV l) (X Y Z : Span) {i : Nat} (hi : i < l.length) : 0 ≤ ovZ l Z i * inV (secD l i) X Y ∧ ovZ l Z i * inV (secD l i) X Y ≤ 28800000000 := by
  have h1 := len_bd v hi
  have h2 := in_V (chk_is (v.chk i hi)) X Y
  have h3 := ovZ_bd v hi Z
  rw [secD_eq hi]
  exact mul_bd2 (m := 20000) (k := 1440000) ⟨by omega, by omega⟩ h2
theorem ext_meet {l : List Slc} (v : SolV l) {j : Nat} (hj : j < l.length) (Z : Span) : Con Try.prog gl 64 [spV (meetS (pos l j, pos l j + lenD l j) Z)] (I (ovZ l Z j)) := by
  have h1 := pos_bd v (j := j) (by omega)
  have h2 := pos_bd v (j := j + 1) (by omega)
  have h3 := v.one j hj
  rw [pos_succ] at h2
  rw [← lenD_eq hj] at h3
  exact len_meet (by dsimp only; omega)
theorem sumN_zero {f : Nat → Int} : ∀ {n : Nat}, (∀ i, i < n → f i = 0) → sumN f n = 0
  | 0, _ => rfl
  | n + 1, h => by
    unfold sumN
    rw [sumN_zero (fun i hi => h i (by omega)), h n (by omega)]; rfl
theorem ov_none {a b : Span} (h : b.2 ≤ b.1) : ov a b = 0 := by unfold ov; omega
theorem in_none (s : Sec) {X Y : Span} (h : X.2 ≤ X.1 ∨ Y.2 ≤ Y.1) : inV s X Y = 0 := by
  refine sumN_zero fun i _ => ?_
  rcases h with h | h
  · rw [ov_none h, Int.zero_mul]
  · rw [ov_none (b := Y) h, Int.mul_zero]
theorem win_none (l : List Slc) {X Y Z : Span} (h : X.2 ≤ X.1 ∨ Y.2 ≤ Y.1 ∨ Z.2 ≤ Z.1) : winV l X Y Z = 0 := by
  refine sumN_zero fun i _ => ?_
  rcases h with h | h | h
  · rw [in_none _ (.inl h), Int.mul_zero]
  · rw [in_none _ (.inr h), Int.mul_zero]
  · unfold ovZ; rw [ov_none h, Int.zero_mul]
theorem clip_ov {l : List Slc} (v : SolV l) {j : Nat} (hj : j < l.length) (Z : Span) : ov (pos l j, pos l j + lenD l j) (max Z.1 0, min Z.2 20000) = ovZ l Z j := by
  have h1 := pos_bd v (j := j) (by omega)
  have h2 := pos_bd v (j := j + 1) (by omega)
  rw [pos_succ] at h2
  unfold ovZ ov; dsimp only; omega
def firstN (p : Nat → Bool) : Nat → Nat → Option Nat
  | 0, _ => none
  | k + 1, j => if p j then some j else firstN p k (j + 1)
theorem firstN_step {p : Nat → Bool} {n j : Nat} (hj : j < n) (h : p j = false) : firstN p (n - j) j = firstN p (n - (j + 1)) (j + 1) := by
  rw [show n - j = (n - (j + 1)) + 1 by omega]
  show (if p j then _ else _) = _
  rw [h]; rfl
theorem firstN_hit {p : Nat → Bool} {n j : Nat} (hj : j < n) (h : p j = true) : firstN p (n - j) j = some j := by
  rw [show n - j = (n - (j + 1)) + 1 by omega]
  show (if p j then _ else _) = _
  rw [h]; rfl
theorem firstN_none {p : Nat → Bool} : ∀ (k j : Nat), (∀ i, p i = false) → firstN p k j = none
  | 0, _, _ => rfl
  | k + 1, j, h => by show (if p j then _ else _) = _; rw [h j]; exact firstN_none k (j + 1) h
def hitZ (l : List Slc) (z : Int) (i : Nat) : Bool := decide (pos l i ≤ z ∧ z < pos l i + lenD l i)
def atOf (l : List Slc) : Option Nat → Sec × Bool
  | some i => (secD l i, true)
  | none => (sec0, false)
def atV (l : List Slc) (z : Int) : Sec × Bool := atOf l (firstN (hitZ l z) l.length 0)
noncomputable def atS (l : List Slc) (z : Int) : Sec × Bool := atV (valL l) z
def atC (r : Sec × Bool) : CV := .tup [secC r.1, .v (.bool r.2)]
/-- The parts of the first slices along Z. -/
def cutN (l : List Slc) (Z : Span) : Nat → List Slc
  | 0 => []
  | j + 1 => if 0 < ovZ l Z j then cutN l Z j ++ [⟨ovZ l Z j, secD l j⟩] else cutN l Z j
def cutV (l : List Slc) (Z : Span) : List Slc := cutN l Z l.length
noncomputable def cutS (l : List Slc) (Z : Span) : List Slc := cutV (valL l) Z
theorem cutN_len (l : List Slc) (Z : Span) : ∀ j, (cutN l Z j).length ≤ j
  | 0 => Nat.le_refl _
  | j + 1 => by
    have := cutN_len l Z j
    unfold cutN; split
    · simp; omega
    · omega
theorem cutN_yes {l : List Slc} {Z : Span} {j : Nat} (h : 0 < ovZ l Z j) : cutN l Z j ++ [⟨ovZ l Z j, secD l j⟩] = cutN l Z (j + 1) := by
  show _ = if 0 < ovZ l Z j then cutN l Z j ++ [⟨ovZ l Z j, secD l j⟩] else cutN l Z j
  rw [if_pos h]
theorem cutN_no {l : List Slc} {Z : Span} {j : Nat} (h : ¬ 0 < ovZ l Z j) : cutN l Z j = cutN l Z (j + 1) := by
  show _ = if 0 < ovZ l Z j then cutN l Z j ++ [⟨ovZ l Z j, secD l j⟩] else cutN l Z j
  rw [if_neg h]
end Go.Proofs.Ytokkpocccgdilaa.Ge
