/- Measures of logs: roots, diameters, centers: plain. -/
import Derived.Test.YtokkpocccgdilaaGS
import Derived.Laws.Bits64b
namespace Go.Proofs.Ytokkpocccgdilaa.Ge
set_option linter.unusedVariables false
set_option linter.unusedSimpArgs false
open Go.RowKit Go.Proofs.Ytokkpocccgdilaa.Ev

def IsRoot (n r : Int) : Prop := 0 ≤ r ∧ r * r ≤ n ∧ n < (r + 1) * (r + 1)
def bitAt (k : Nat) : Int := if k < 32 then 2 ^ (31 - k) else 0
theorem or_bit (m j : Nat) (hj : j ≤ 31) (hm : m < 2 ^ (31 - j)) : bits .or .u64 ((m : Int) * 2 ^ (j + 1)) (2 ^ j) = (m : Int) * 2 ^ (j + 1) + 2 ^ j := by
  have h2 : 2 ^ (31 - j) * 2 ^ (j + 1) = (4294967296 : Nat) := by
    rw [← Nat.pow_add, show 31 - j + (j + 1) = 32 by omega]
  have h3 : m * 2 ^ (j + 1) < 4294967296 := by
    rw [← h2]; exact Nat.mul_lt_mul_of_pos_right hm (Nat.pow_pos (by omega))
  have h4 : 2 ^ j ≤ (2147483648 : Nat) := Nat.pow_le_pow_right (n := 2) (by omega) hj
  have e1 : ((m : Int) * 2 ^ (j + 1)) = ((m * 2 ^ (j + 1) : Nat) : Int) := by push_cast; rfl
  have e2 : ((2 : Int) ^ j) = ((2 ^ j : Nat) : Int) := by push_cast; rfl
  rw [e1, e2, bits_or_u64_nat _ _ (by omega) (by omega)]
  have h5 : 2 ^ j < 2 ^ (j + 1) := Nat.pow_lt_pow_right (by omega) (by omega)
  have h6 := Nat.two_pow_add_eq_or_of_lt (b := 2 ^ j) (i := j + 1) h5 m
  rw [Nat.mul_comm m, ← h6]
  push_cast
  rfl
def RInv (n : Int) (k : Nat) (R : Int) : Prop := ∃ m : Nat, R = (m : Int) * 2 ^ (32 - k) ∧ m < 2 ^ k ∧ R * R ≤ n ∧ n < (R + 2 ^ (32 - k)) * (R + 2 ^ (32 - k))
theorem root_step {n : Int} {k : Nat} {R : Int} (hk : k < 32) (h : RInv n k R) : ∃ B : Int, bitAt k = B ∧ 0 < B ∧ B ≤ 2147483648 ∧ 0 ≤ R ∧ R + B < 4294967296 ∧ bits .or .u64 R B = R + B ∧ B / 2 = bitAt (k + 1) ∧ ((R + B) * (R + B) ≤ n → RInv n (k + 1) (R + B)) ∧ (n < (R + B) * (R + B) → RInv n (k + 1) R) := by
  obtain ⟨m, hR, hm, hlo, hhi⟩ := h
  obtain ⟨j, hj⟩ : ∃ j, k = 31 - j ∧ j ≤ 31 := ⟨31 - k, by omega, by omega⟩
  obtain ⟨rfl, hj⟩ := hj
  have e1 : 32 - (31 - j) = j + 1 := by omega
  have e2 : 32 - (31 - j + 1) = j := by omega
  have e3 : 31 - (31 - j) = j := by omega
  rw [e1] at hR hhi
  have hpN : (2 : Int) ^ j = ((2 ^ j : Nat) : Int) := by push_cast; rfl
  have hpos : 0 < 2 ^ j := Nat.pow_pos (n := j) (show 0 < 2 by omega)
  have hle : 2 ^ j ≤ (2147483648 : Nat) := Nat.pow_le_pow_right (n := 2) (by omega) hj
  have h2 : 2 ^ (31 - j) * 2 ^ (j + 1) = (4294967296 : Nat) := by
    rw [← Nat.pow_add, show 31 - j + (j + 1) = 32 by omega]
  have h3 : (m + 1) * 2 ^ (j + 1) ≤ 4294967296 := by
    rw [← h2]; exact Nat.mul_le_mul_right _ (by omega)
  have hs : (2 : Int) ^ (j + 1) = 2 * 2 ^ j := by rw [Int.pow_succ]; omega
  have hsN : (2 : Nat) ^ (j + 1) = 2 * 2 ^ j := by rw [Nat.pow_succ]; omega
  have hor := or_bit m j hj hm
  rw [← hR] at hor
  have hRN : R = ((m * 2 ^ (j + 1) : Nat) : Int) := by rw [hR]; push_cast; rfl
  rw [Nat.add_mul] at h3
  refine ⟨2 ^ j, ?_, by omega, by omega, by omega, by omega, hor, ?_, fun hc => ⟨2 * m + 1, ?_, ?_, hc, ?_⟩, fun hc => ⟨2 * m, ?_, ?_, hlo, ?_⟩⟩
  · unfold bitAt; rw [if_pos hk, e3]
  · unfold bitAt
    by_cases h0 : j = 0
    · subst h0; rw [if_neg (by omega)]; rfl
    · rw [if_pos (by omega), show 31 - (31 - j + 1) = j - 1 by omega]
      obtain ⟨i, rfl⟩ : ∃ i, j = i + 1 := ⟨j - 1, by omega⟩
      rw [Int.pow_succ, show i + 1 - 1 = i by omega]
      omega
  · rw [e2, hR, hs]; push_cast; rw [Int.add_mul, Int.mul_assoc, Int.mul_left_comm (m : Int) 2, Int.one_mul]
  · rw [Nat.pow_succ]; omega
  · rw [e2]; rw [hs] at hhi; rw [show R + 2 ^ j + 2 ^ j = R + 2 * 2 ^ j by omega]; exact hhi
  · rw [e2, hR, hs]; push_cast; rw [Int.mul_comm 2 (m : Int), Int.mul_assoc]
  · rw [Nat.pow_succ]; omega
  · rw [e2]; exact hc
theorem RInv.start {n : Int} (h0 : 0 ≤ n) (h1 : n < 9223372036854775808) : RInv n 0 0 := ⟨0, by simp, by simp, by simpa using h0, by simp; omega⟩
theorem RInv.done {n R : Int} (h : RInv n 32 R) : 0 ≤ R ∧ R < 4294967296 ∧ IsRoot n R := by
  obtain ⟨m, rfl, hm, q1, q2⟩ := h
  have hm' : m < 4294967296 := hm
  simp only [Nat.sub_self, Int.pow_zero, Int.mul_one] at q1 q2 ⊢
  exact ⟨by omega, by omega, by omega, q1, q2⟩
theorem IsRoot.uniq {n a b : Int} (h1 : IsRoot n a) (h2 : IsRoot n b) : a = b := by
  obtain ⟨p1, q1, r1⟩ := h1
  obtain ⟨p2, q2, r2⟩ := h2
  rcases Int.lt_trichotomy a b with h | h | h
  · have : (a + 1) * (a + 1) ≤ b * b := Int.mul_le_mul (by omega) (by omega) (by omega) (by omega)
    omega
  · exact h
  · have : (b + 1) * (b + 1) ≤ a * a := Int.mul_le_mul (by omega) (by omega) (by omega) (by omega)
    omega
open Classical in
noncomputable def rootI (n : Int) : Int := if h : ∃ r, IsRoot n r then Classical.choose h else 0
theorem IsRoot.eq {n r : Int} (h : IsRoot n r) : rootI n = r := by
  unfold rootI
  rw [dif_pos ⟨r, h⟩]
  exact (Classical.choose_spec (⟨r, h⟩ : ∃ r, IsRoot n r)).uniq h
theorem root_ex : ∀ n : Nat, ∃ r, IsRoot (n : Int) r
  | 0 => ⟨0, by decide, by decide, by decide⟩
  | n + 1 => by
    obtain ⟨r, h1, h2, h3⟩ := root_ex n
    by_cases h : ((n + 1 : Nat) : Int) < (r + 1) * (r + 1)
    · exact ⟨r, h1, by omega, h⟩
    · refine ⟨r + 1, by omega, by omega, ?_⟩
      have : (r + 1 + 1) * (r + 1 + 1) = (r + 1) * (r + 1) + 2 * (r + 1) + 1 := by rw [Int.add_mul, Int.mul_add]; omega
      omega
theorem root_is {n : Int} (h : 0 ≤ n) : IsRoot n (rootI n) := by
  obtain ⟨m, rfl⟩ : ∃ m : Nat, n = m := ⟨n.toNat, by omega⟩
  obtain ⟨r, hr⟩ := root_ex m
  rw [hr.eq]; exact hr
theorem root_mono {a b : Int} (h0 : 0 ≤ a) (h : a ≤ b) : rootI a ≤ rootI b := by
  obtain ⟨p1, p2, p3⟩ := root_is h0
  obtain ⟨q1, q2, q3⟩ := root_is (show 0 ≤ b by omega)
  refine Int.not_lt.1 fun hh => ?_
  have : (rootI b + 1) * (rootI b + 1) ≤ rootI a * rootI a := Int.mul_le_mul (by omega) (by omega) (by omega) (by omega)
  omega
noncomputable def diaS (s : Sec) : Int := rootI (452 * areaS s / 355)
theorem areaS_bd (s : Sec) : 0 ≤ areaS s ∧ areaS s ≤ 1440000 := area_V (valS_V s)
theorem dia_is (s : Sec) : IsRoot (452 * areaS s / 355) (diaS s) := root_is (by have := areaS_bd s; omega)
theorem dia_bd (s : Sec) : 0 ≤ diaS s ∧ diaS s ≤ 1354 := by
  obtain ⟨h1, h2, h3⟩ := dia_is s
  have ha := areaS_bd s
  refine ⟨h1, Int.not_lt.1 fun hh => ?_⟩
  have : (1355 : Int) * 1355 ≤ diaS s * diaS s := Int.mul_le_mul (by omega) (by omega) (by omega) (by omega)
  omega
theorem area_no {s : Sec} (h : ¬ secChk s = 0) : areaS s = 0 := by unfold areaS; rw [valS_no h]; rfl
theorem bd_no {s : Sec} (h : ¬ secChk s = 0) : bdS s = ((0, 0), (0, 0)) := by unfold bdS; rw [valS_no h]; rfl

noncomputable def cenX (s : Sec) : Int := (bdS s).1.1 + (bdS s).1.2
noncomputable def cenY (s : Sec) : Int := (bdS s).2.1 + (bdS s).2.2
noncomputable def ovalS (s : Sec) : Int := ((bdS s).1.2 - (bdS s).1.1) - ((bdS s).2.2 - (bdS s).2.1)
theorem bx_bd {s : Sec} (v : SecV s) : ∀ j, j ≤ s.rows.length → -600 ≤ (bxN s j).1 ∧ (bxN s j).1 ≤ 600 ∧ -600 ≤ (bxN s j).2 ∧ (bxN s j).2 ≤ 600
  | 0, _ => by
    by_cases h : 0 < s.rows.length
    · have := v.row 0 h
      show -600 ≤ (rowD s 0).1 ∧ _
      rw [show bxN s 0 = rowD s 0 from rfl, rowD_eq h]; omega
    · have : s.rows = [] := List.eq_nil_of_length_eq_zero (by omega)
      show -600 ≤ (rowD s 0).1 ∧ _
      rw [show bxN s 0 = rowD s 0 from rfl]
      unfold rowD; rw [this]; decide
  | j + 1, hj => by
    have ih := bx_bd v j (by omega)
    have := v.row j (by omega)
    unfold bxN
    split
    · exact ih
    · rw [rowD_eq (by omega)]; unfold joinS; dsimp only; omega
theorem bd_bd (s : Sec) : (-600 ≤ (bdS s).1.1 ∧ (bdS s).1.1 ≤ 600 ∧ -600 ≤ (bdS s).1.2 ∧ (bdS s).1.2 ≤ 600) ∧ (-600 ≤ (bdS s).2.1 ∧ (bdS s).2.1 ≤ 600 ∧ -600 ≤ (bdS s).2.2 ∧ (bdS s).2.2 ≤ 600) := by
  have v := valS_V s
  unfold bdS bdV
  generalize valS s = u at *
  have h1 := bx_bd v _ (Nat.le_refl _)
  have h2 := v.low
  have h3 := v.high
  split
  · decide
  · exact ⟨h1, by dsimp only; omega⟩
theorem cen_bd (s : Sec) : -1200 ≤ cenX s ∧ cenX s ≤ 1200 ∧ -1200 ≤ cenY s ∧ cenY s ≤ 1200 := by
  have := bd_bd s
  unfold cenX cenY; omega

noncomputable def topS (l : List Slc) : Int := if solChk l = 0 then diaS (secD l (l.length - 1)) else 0
noncomputable def taperS (l : List Slc) : Int := if solChk l = 0 then max 0 (diaS (secD l 0) - diaS (secD l (l.length - 1))) * 10000 / pos l l.length else 0
def midS (l : List Slc) (i : Nat) : Int := 2 * pos l i + lenD l i
def alongS (a b s t m : Int) : Int := a + (b - a) * (m - s) / (t - s)
def distS (a b : Int) : Int := max (a - b) (b - a)
noncomputable def devS (l : List Slc) (i : Nat) : Int × Int :=
  (distS (cenX (secD l i)) (alongS (cenX (secD l 0)) (cenX (secD l (l.length - 1))) (midS l 0) (midS l (l.length - 1)) (midS l i)),
   distS (cenY (secD l i)) (alongS (cenY (secD l 0)) (cenY (secD l (l.length - 1))) (midS l 0) (midS l (l.length - 1)) (midS l i)))
noncomputable def swN (l : List Slc) : Nat → Int
  | 0 => 0
  | j + 1 => max (max (swN l j) (devS l j).1) (devS l j).2
noncomputable def sweepS (l : List Slc) : Int := if solChk l = 0 ∧ 3 ≤ l.length then swN l l.length else 0
theorem sol_pos {l : List Slc} (h : solChk l = 0) : 0 < l.length := Nat.pos_of_ne_zero fun hh => by rw [← sol_0 hh] at h; cases h
theorem mid_bd {l : List Slc} (v : SolV l) {i : Nat} (hi : i < l.length) : 1 ≤ midS l i ∧ midS l i ≤ 40000 := by
  have h1 := pos_bd v (j := i) (by omega)
  have h2 := pos_bd v (j := i + 1) (by omega)
  have h3 := v.one i hi
  rw [pos_succ, lenD_eq hi] at h2
  unfold midS; rw [lenD_eq hi]; omega
theorem mid_lt {l : List Slc} (v : SolV l) {i j : Nat} (hij : i < j) (hj : j < l.length) : midS l i + 2 ≤ midS l j := by
  have h0 := pos_mono v (j - (i + 1)) (i + 1) (by omega)
  rw [show i + 1 + (j - (i + 1)) = j by omega, pos_succ, lenD_eq (show i < l.length by omega)] at h0
  have h3 := v.one i (by omega)
  have h4 := v.one j hj
  unfold midS; rw [lenD_eq hj, lenD_eq (show i < l.length by omega)]; omega
/-- A number on the way lies between the ends. -/
theorem along_bd {a b s t m : Int} (h : s < t) (h1 : s ≤ m) (h2 : m ≤ t) (ha : -1200 ≤ a ∧ a ≤ 1200) (hb : -1200 ≤ b ∧ b ≤ 1200) : -1200 ≤ alongS a b s t m ∧ alongS a b s t m ≤ 1200 := by
  unfold alongS
  have hd : 0 < t - s := by omega
  have hp : 0 ≤ m - s := by omega
  have hq : 0 ≤ t - m := by omega
  refine ⟨?_, ?_⟩
  · have : -1200 - a ≤ (b - a) * (m - s) / (t - s) := by
      rw [Int.le_ediv_iff_mul_le hd]
      have e1 : (-1200 - a) * (t - s) = (-1200 - a) * (m - s) + (-1200 - a) * (t - m) := by rw [← Int.mul_add]; congr 1; omega
      have e2 : (-1200 - a) * (m - s) ≤ (b - a) * (m - s) := Int.mul_le_mul_of_nonneg_right (by omega) hp
      have e3 : (-1200 - a) * (t - m) ≤ 0 * (t - m) := Int.mul_le_mul_of_nonneg_right (by omega) hq
      omega
    omega
  · have : (b - a) * (m - s) / (t - s) < 1200 - a + 1 := by
      rw [Int.ediv_lt_iff_lt_mul hd]
      have e1 : (1200 - a + 1) * (t - s) = (1200 - a) * (m - s) + (1200 - a) * (t - m) + (t - s) := by
        rw [← Int.mul_add, Int.add_mul, Int.one_mul, show m - s + (t - m) = t - s by omega]
      have e2 : (b - a) * (m - s) ≤ (1200 - a) * (m - s) := Int.mul_le_mul_of_nonneg_right (by omega) hp
      have e3 : 0 * (t - m) ≤ (1200 - a) * (t - m) := Int.mul_le_mul_of_nonneg_right (by omega) hq
      omega
    omega
theorem prod_bd {x y : Int} (hx : -2400 ≤ x ∧ x ≤ 2400) (hy : 0 ≤ y ∧ y ≤ 40000) : -96000000 ≤ x * y ∧ x * y ≤ 96000000 := by
  have h1 : x * y ≤ 2400 * y := Int.mul_le_mul_of_nonneg_right hx.2 hy.1
  have h2 : -2400 * y ≤ x * y := Int.mul_le_mul_of_nonneg_right hx.1 hy.1
  omega
end Go.Proofs.Ytokkpocccgdilaa.Ge
