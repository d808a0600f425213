/- Volumes in boxes: bounds, order, what is common, what is reversed: plain. -/
import Derived.Test.YtanlfjboahfanaaGN
import Derived.Test.YtanlfjboahfanaaGS
namespace Go.Proofs.Ytanlfjboahfanaa.Ge
set_option linter.unusedVariables false
set_option linter.unusedSimpArgs false
open Go.RowKit Go.Proofs.Ytanlfjboahfanaa.Ev

theorem sumN_split (f : Nat → Int) (a : Nat) : ∀ n, sumN f (a + n) = sumN f a + sumN (fun i => f (a + i)) n
  | 0 => by simp [sumN]
  | n + 1 => by show sumN f (a + n) + f (a + n) = _ + (_ + f (a + n)); rw [sumN_split f a n]; omega
theorem sumN_rev (f : Nat → Int) : ∀ n, sumN (fun i => f (n - 1 - i)) n = sumN f n
  | 0 => rfl
  | n + 1 => by
    rw [Nat.add_comm n 1, sumN_split, Nat.add_comm 1 n]
    have e : sumN (fun i => f (n + 1 - 1 - (1 + i))) n = sumN (fun i => f (n - 1 - i)) n := sumN_congr fun i hi => by rw [show n + 1 - 1 - (1 + i) = n - 1 - i by omega]
    rw [e, sumN_rev f n]
    show (0 + f (n + 1 - 1 - 0)) + _ = _ + f n
    rw [show n + 1 - 1 - 0 = n by omega]; omega
/-- Spans that follow one another. -/
theorem sum_ov (g : Nat → Int) (X : Span) : ∀ n, (∀ i, i < n → g i ≤ g (i + 1)) → g 0 ≤ g n ∧ sumN (fun i => ov (g i, g (i + 1)) X) n = ov (g 0, g n) X
  | 0, _ => ⟨Int.le_refl _, by show 0 = _; unfold ov; dsimp only; omega⟩
  | n + 1, h => by
    have ih := sum_ov g X n (fun i hi => h i (by omega))
    have h1 := h n (by omega)
    refine ⟨by omega, ?_⟩
    show sumN (fun i => ov (g i, g (i + 1)) X) n + ov (g n, g (n + 1)) X = _
    rw [ih.2]
    have := ih.1
    unfold ov; dsimp only; omega
theorem ov_wid (a b : Span) : ov a b ≤ wid b := by unfold ov wid; omega
theorem ov_nn (a b : Span) : 0 ≤ ov a b := by unfold ov; omega
theorem wid_nn (b : Span) : 0 ≤ wid b := by unfold wid; omega
theorem mul_le_mul4 {a b c d : Int} (h1 : a ≤ c) (h2 : b ≤ d) (hb : 0 ≤ b) (hc : 0 ≤ c) : a * b ≤ c * d :=
  Int.le_trans (Int.mul_le_mul_of_nonneg_right h1 hb) (Int.mul_le_mul_of_nonneg_left h2 hc)
theorem in_size (s : Sec) (X Y : Span) : inV s X Y ≤ wid X * wid Y := by
  have h1 : inV s X Y ≤ sumN (fun i : Nat => wid X * ov (10 * (s.low + i), 10 * (s.low + i + 1)) Y) s.rows.length :=
    sumN_le fun i _ => Int.mul_le_mul_of_nonneg_right (ov_wid _ _) (ov_nn _ _)
  rw [sumN_mul] at h1
  have h2 := (sum_ov (fun i : Nat => 10 * (s.low + i)) Y s.rows.length (fun i _ => by omega)).2
  have h3 : sumN (fun i : Nat => ov (10 * (s.low + i), 10 * (s.low + i + 1)) Y) s.rows.length = sumN (fun i : Nat => ov (10 * (s.low + i), 10 * (s.low + ((i + 1 : Nat) : Int))) Y) s.rows.length :=
    sumN_congr fun i _ => by rw [show s.low + ((i + 1 : Nat) : Int) = s.low + i + 1 by omega]
  rw [h3, h2] at h1
  exact Int.le_trans h1 (Int.mul_le_mul_of_nonneg_left (ov_wid _ _) (wid_nn _))
theorem in_nn (s : Sec) (X Y : Span) : 0 ≤ inV s X Y := by
  have h := sumN_le (f := fun _ => 0) (g := fun i : Nat => ov (rowD s i) X * ov (10 * (s.low + i), 10 * (s.low + i + 1)) Y) (n := s.rows.length) (fun i _ => Int.mul_nonneg (ov_nn _ _) (ov_nn _ _))
  rw [sumN_zero (fun _ _ => rfl)] at h
  exact h
theorem ovZ_all {l : List Slc} (v : SolV l) (Z : Span) : sumN (ovZ l Z) l.length = ov (0, pos l l.length) Z := by
  have h := (sum_ov (fun i => pos l i) Z l.length (fun i hi => by have := v.one i hi; rw [pos_succ, lenD_eq hi]; omega)).2
  have e : sumN (ovZ l Z) l.length = sumN (fun i => ov (pos l i, pos l (i + 1)) Z) l.length := sumN_congr fun i _ => rfl
  rw [e, h]; rfl
theorem win_size (l : List Slc) (X Y Z : Span) : winS l X Y Z ≤ wid X * wid Y * wid Z := by
  have v := valL_V l
  unfold winS winV
  generalize valL l = u at *
  have h1 : sumN (fun i => ovZ u Z i * inV (secD u i) X Y) u.length ≤ sumN (fun i => wid X * wid Y * ovZ u Z i) u.length :=
    sumN_le fun i _ => by rw [Int.mul_comm]; exact Int.mul_le_mul_of_nonneg_right (in_size _ _ _) (ov_nn _ _)
  rw [sumN_mul, ovZ_all v] at h1
  exact Int.le_trans h1 (Int.mul_le_mul_of_nonneg_left (ov_wid _ _) (Int.mul_nonneg (wid_nn _) (wid_nn _)))
def inner (a b : Span) : Span := (max a.1 b.1, min a.2 b.2)
theorem ov_inner (a b c : Span) : ov a (inner b c) ≤ ov a b := by unfold ov inner; dsimp only; omega
theorem in_inner (s : Sec) (X Y X' Y' : Span) : inV s (inner X X') (inner Y Y') ≤ inV s X Y :=
  sumN_le fun _ _ => mul_le_mul4 (ov_inner _ _ _) (ov_inner _ _ _) (ov_nn _ _) (ov_nn _ _)
theorem win_inner (l : List Slc) (X Y Z X' Y' Z' : Span) : winS l (inner X X') (inner Y Y') (inner Z Z') ≤ winS l X Y Z := by
  unfold winS winV
  exact sumN_le fun _ _ => mul_le_mul4 (ov_inner _ _ _) (in_inner _ _ _ _ _) (in_nn _ _ _) (ov_nn _ _)
theorem pos_le {l : List Slc} (v : SolV l) {i j : Nat} (h : i ≤ j) (hj : j ≤ l.length) : pos l i ≤ pos l j := by
  have := pos_mono v (j - i) i (by omega)
  rwa [show i + (j - i) = j by omega] at this
theorem win_full (l : List Slc) : winS l (sbS l).1 (sbS l).2 (0, lengthS l) = volS l := by
  unfold winS winV sbS lengthS volS volV
  have v := valL_V l
  generalize valL l = u at *
  refine sumN_congr fun i hi => ?_
  have hc := chk_is (v.chk i hi)
  rw [← secD_eq hi] at hc
  rw [in_all hc (sb_holds v hi)]
  have h1 := pos_le v (show 0 ≤ i by omega) (by omega)
  have h2 := pos_le v (show i + 1 ≤ u.length by omega) (Nat.le_refl _)
  have h3 : pos u 0 = 0 := rfl
  have h4 := v.one i hi
  rw [pos_succ, lenD_eq hi] at h2
  have : ovZ u (0, pos u u.length) i = lenD u i := by unfold ovZ ov; dsimp only; rw [lenD_eq hi]; omega
  rw [this]

/-- The area of rows in a rectangle, over all rows. -/
theorem ov_zero (X : Span) : ov (0, 0) X = 0 := by unfold ov; dsimp only; omega
theorem atR_out {s : Sec} {r : Int} (h : r < s.low ∨ s.low + s.rows.length ≤ r) : atR s r = (0, 0) := if_pos h
theorem atR_D {s : Sec} {i : Nat} (h : i < s.rows.length) : atR s (s.low + i) = rowD s i := by rw [atR_i h, rowD_eq h]
theorem sum_rows {s : Sec} (v : SecV s) (g : Int → Span → Int) (hg : ∀ r, g r (0, 0) = 0) : sumN (fun i : Nat => g (s.low + i) (rowD s i)) s.rows.length = sumN (fun k : Nat => g (-60 + k) (atR s (-60 + k))) 120 := by
  have h1 := v.low
  have h2 := v.high
  have e : (120 : Nat) = (s.low + 60).toNat + (s.rows.length + (60 - s.low - s.rows.length).toNat) := by omega
  rw [e, sumN_split, sumN_split]
  rw [sumN_zero (n := (s.low + 60).toNat) (fun i hi => by rw [atR_out (by omega), hg])]
  rw [sumN_zero (n := (60 - s.low - s.rows.length).toNat) (fun i hi => by rw [atR_out (by omega), hg])]
  rw [Int.zero_add, Int.add_zero]
  refine sumN_congr fun i hi => ?_
  rw [show (-60 : Int) + (((s.low + 60).toNat + i : Nat) : Int) = s.low + i by omega, atR_D hi]
theorem in_rows {s : Sec} (v : SecV s) (X Y : Span) : inV s X Y = sumN (fun k : Nat => ov (atR s (-60 + k)) X * ov (10 * (-60 + (k : Int)), 10 * (-60 + (k : Int) + 1)) Y) 120 := by
  have := sum_rows v (fun r x => ov x X * ov (10 * r, 10 * (r + 1)) Y) (fun r => by rw [ov_zero, Int.zero_mul])
  exact this
theorem area_rows {s : Sec} (v : SecV s) : areaV s = 10 * sumN (fun k : Nat => wid (atR s (-60 + k))) 120 := by
  have := sum_rows v (fun _ x => wid x) (fun r => by decide)
  unfold areaV
  rw [← this]
/-- Each row of the one section lies in that of the other. -/
def Part (s t : Sec) : Prop := ∀ r, -60 ≤ r → r < 60 → meetS (atR s r) (atR t r) = atR s r
theorem meet_ov {a b : Span} (h : meetS a b = a) (X : Span) : ov a X ≤ ov b X := by
  unfold meetS at h
  split at h
  · rw [← h, ov_zero]; exact ov_nn _ _
  · have h1 : max a.1 b.1 = a.1 := congrArg Prod.fst h
    have h2 : min a.2 b.2 = a.2 := congrArg Prod.snd h
    unfold ov; omega
theorem part_in {s t : Sec} (vs : SecV s) (vt : SecV t) (h : Part s t) (X Y : Span) : inV s X Y ≤ inV t X Y := by
  rw [in_rows vs, in_rows vt]
  exact sumN_le fun k hk => Int.mul_le_mul_of_nonneg_right (meet_ov (h _ (by omega) (by omega)) X) (ov_nn _ _)
theorem wid_ov {a b : Span} (h : meetS a b = a) : wid a ≤ wid b := by
  unfold meetS at h
  split at h
  · rw [← h]; exact wid_nn _
  · have h1 : max a.1 b.1 = a.1 := congrArg Prod.fst h
    have h2 : min a.2 b.2 = a.2 := congrArg Prod.snd h
    unfold wid; omega
theorem part_area {s t : Sec} (vs : SecV s) (vt : SecV t) (h : Part s t) : areaV s ≤ areaV t := by
  rw [area_rows vs, area_rows vt]
  have := sumN_le (n := 120) fun k hk => wid_ov (h (-60 + (k : Int)) (by omega) (by omega))
  omega
theorem meet_self {a : Span} (h : a.1 < a.2 ∨ a = (0, 0)) : meetS a a = a := by
  unfold meetS
  rw [Int.max_self, Int.min_self]
  rcases h with h | h
  · rw [if_neg (by omega)]
  · rw [h]; rfl
theorem meet_meet (a b : Span) : meetS (meetS a b) a = meetS a b := by
  unfold meetS
  by_cases h : min a.2 b.2 ≤ max a.1 b.1
  · rw [if_pos h]; split
    · rfl
    · exfalso; dsimp only at *; omega
  · rw [if_neg h]
    dsimp only
    rw [if_neg (by omega)]
    exact Prod.ext (by dsimp only; omega) (by dsimp only; omega)
theorem meet_meet2 (a b : Span) : meetS (meetS a b) b = meetS a b := by
  unfold meetS
  by_cases h : min a.2 b.2 ≤ max a.1 b.1
  · rw [if_pos h]; split
    · rfl
    · exfalso; dsimp only at *; omega
  · rw [if_neg h]
    dsimp only
    rw [if_neg (by omega)]
    exact Prod.ext (by dsimp only; omega) (by dsimp only; omega)
theorem meet_trans {a b c : Span} (h1 : meetS a b = a) (h2 : meetS b c = b) : meetS a c = a := by
  unfold meetS at h1 h2 ⊢
  by_cases ha : a = (0, 0)
  · subst ha; split
    · rfl
    · exfalso; dsimp only at *; omega
  by_cases hb : min a.2 b.2 ≤ max a.1 b.1
  · rw [if_pos hb] at h1; exact absurd h1.symm ha
  rw [if_neg hb] at h1
  have a1 : max a.1 b.1 = a.1 := congrArg Prod.fst h1
  have a2 : min a.2 b.2 = a.2 := congrArg Prod.snd h1
  by_cases hc : min b.2 c.2 ≤ max b.1 c.1
  · rw [if_pos hc] at h2
    have b1 : (0 : Int) = b.1 := congrArg Prod.fst h2
    have b2 : (0 : Int) = b.2 := congrArg Prod.snd h2
    omega
  rw [if_neg hc] at h2
  have b1 : max b.1 c.1 = b.1 := congrArg Prod.fst h2
  have b2 : min b.2 c.2 = b.2 := congrArg Prod.snd h2
  rw [if_neg (by omega)]
  exact Prod.ext (by dsimp only; omega) (by dsimp only; omega)
theorem part_trans {a b c : Sec} (h1 : Part a b) (h2 : Part b c) : Part a c := fun r p q => meet_trans (h1 r p q) (h2 r p q)
theorem part_self {a : Sec} (v : SecV a) : Part a a := fun r _ _ => meet_self (atR_zero v r)
theorem meet_atR {a b : Sec} (r : Int) (p : -60 ≤ r) (q : r < 60) : atR (meetSec a b) r = meetS (atR (valS a) r) (atR (valS b) r) := by
  rw [(meet_rows (a := a) (b := b)).at' r p q, meetS_nf]
theorem meet_V (a b : Sec) : SecV (meetSec a b) := (meet_rows (a := a) (b := b)).v
theorem part_l (a b : Sec) : Part (meetSec a b) (valS a) := fun r p q => by rw [meet_atR r p q]; exact meet_meet _ _
theorem part_r (a b : Sec) : Part (meetSec a b) (valS b) := fun r p q => by rw [meet_atR r p q]; exact meet_meet2 _ _
theorem meet_part {a b : Sec} (va : SecV a) (vb : SecV b) (h : Part a b) : meetSec a b = a :=
  sec_ext (meet_V a b) va fun r p q => by rw [meet_atR r p q, valS_of va, valS_of vb]; exact h r p q
theorem com_part {c : List Slc} (hc : ∀ i (h : i < c.length), secChk c[i].sec = 0) : ∀ j, j ≤ c.length → SecV (comN c j) ∧ ∀ i, i < j → Part (comN c j) (secD c i)
  | 0, _ => ⟨sec0_V, fun i h => absurd h (Nat.not_lt_zero _)⟩
  | j + 1, hj => by
    have ih := com_part hc j (by omega)
    have hv := chk_is (hc j (by omega))
    rw [← secD_eq (by omega)] at hv
    show SecV (if j = 0 then secD c 0 else meetSec (comN c j) (secD c j)) ∧ ∀ i, i < j + 1 → Part (if j = 0 then secD c 0 else meetSec (comN c j) (secD c j)) (secD c i)
    by_cases h0 : j = 0
    · subst h0
      rw [if_pos rfl]
      exact ⟨hv, fun i hi => by obtain rfl : i = 0 := by omega
                                exact part_self hv⟩
    · rw [if_neg h0]
      have pl := part_l (comN c j) (secD c j)
      have pr := part_r (comN c j) (secD c j)
      rw [valS_of ih.1] at pl
      rw [valS_of hv] at pr
      refine ⟨meet_V _ _, fun i hi => ?_⟩
      by_cases he : i = j
      · subst he; exact pr
      · exact part_trans pl (ih.2 i (by omega))
/-- The section of a slice that has a part along the span is among those of the parts. -/
theorem cut_mem {l : List Slc} {Z : Span} : ∀ (j i : Nat), i < j → 0 < ovZ l Z i → ∃ k, k < (cutN l Z j).length ∧ secD (cutN l Z j) k = secD l i
  | 0, i, h, _ => absurd h (Nat.not_lt_zero _)
  | j + 1, i, h, hp => by
    by_cases he : i = j
    · subst he
      rw [← cutN_yes hp]
      exact ⟨(cutN l Z i).length, by simp, by unfold secD; rw [getD_end]⟩
    · obtain ⟨k, k1, k2⟩ := cut_mem j i (by omega) hp
      by_cases hj : 0 < ovZ l Z j
      · rw [← cutN_yes hj]
        exact ⟨k, by simp; omega, by unfold secD at k2 ⊢; rw [getD_app k1]; exact k2⟩
      · rw [← cutN_no hj]; exact ⟨k, k1, k2⟩
theorem com_in {l : List Slc} (v : SolV l) (Z : Span) : SecV (comN (cutV l Z) (cutV l Z).length) ∧ ∀ i, i < l.length → 0 < ovZ l Z i → Part (comN (cutV l Z) (cutV l Z).length) (secD l i) := by
  have hc := cut_inv v Z l.length (Nat.le_refl _)
  have h := com_part (c := cutV l Z) hc.v.chk _ (Nat.le_refl _)
  refine ⟨h.1, fun i hi hp => ?_⟩
  obtain ⟨k, k1, k2⟩ := cut_mem (l := l) (Z := Z) l.length i hi hp
  have := h.2 k k1
  unfold cutV at this ⊢
  rw [k2] at this
  exact this
/-- A rectangle that lies in the common part is full of wood along the span. -/
theorem win_wood {l : List Slc} (v : SolV l) {X Y Z : Span} (h : wid X * wid Y ≤ inV (comN (cutV l Z) (cutV l Z).length) X Y) (h1 : 0 ≤ Z.1) (h2 : Z.1 ≤ Z.2) (h3 : Z.2 ≤ pos l l.length) : winV l X Y Z = wid X * wid Y * (Z.2 - Z.1) := by
  have hc := com_in v Z
  have e : winV l X Y Z = sumN (fun i => wid X * wid Y * ovZ l Z i) l.length := sumN_congr fun i hi => by
    by_cases hp : 0 < ovZ l Z i
    · have hv := chk_is (v.chk i hi)
      rw [← secD_eq hi] at hv
      have a := part_in hc.1 hv (hc.2 i hi hp) X Y
      have b := in_size (secD l i) X Y
      rw [show inV (secD l i) X Y = wid X * wid Y by omega, Int.mul_comm]
    · have : ovZ l Z i = 0 := by have := ov_nn (pos l i, pos l i + lenD l i) Z; unfold ovZ at hp ⊢; omega
      rw [this, Int.zero_mul, Int.mul_zero]
  rw [e, sumN_mul, ovZ_all v]
  congr 1
  unfold ov; dsimp only; omega

/-- What is reversed. -/
theorem getD_rev {l : List Slc} {i : Nat} (h : i < l.length) : l.reverse.getD i slc0 = l.getD (l.length - 1 - i) slc0 := by
  rw [List.getD_eq_getElem?_getD, List.getD_eq_getElem?_getD, List.getElem?_reverse h]
theorem pos_rev {l : List Slc} : ∀ {i : Nat}, i ≤ l.length → pos l.reverse i = pos l l.length - pos l (l.length - i)
  | 0, _ => by show (0 : Int) = _; rw [Nat.sub_zero]; omega
  | i + 1, h => by
    have ih := pos_rev (l := l) (i := i) (by omega)
    rw [pos_succ, ih, show l.length - i = (l.length - (i + 1)) + 1 by omega, pos_succ]
    have : lenD l.reverse i = lenD l (l.length - (i + 1)) := by unfold lenD; rw [getD_rev (by omega), show l.length - 1 - i = l.length - (i + 1) by omega]
    omega
theorem rev_V {l : List Slc} (v : SolV l) : SolV l.reverse := by
  have hg : ∀ i (h : i < l.reverse.length), ∃ k, ∃ h' : k < l.length, l.reverse[i] = l[k] := fun i h => ⟨l.length - 1 - i, by simp at h; omega, by rw [List.getElem_reverse]⟩
  refine ⟨by simp; exact v.n, fun i hi => ?_, fun i hi => ?_, fun i hi => ?_, ?_⟩
  · obtain ⟨k, hk, e⟩ := hg i hi; rw [e]; exact v.chk k hk
  · obtain ⟨k, hk, e⟩ := hg i hi; rw [e]; exact v.some k hk
  · obtain ⟨k, hk, e⟩ := hg i hi; rw [e]; exact v.one k hk
  · rw [List.length_reverse, pos_rev (Nat.le_refl _), Nat.sub_self]
    have := v.all
    show _ - (0 : Int) ≤ _; omega
theorem len_rev {l : List Slc} : pos l.reverse l.reverse.length = pos l l.length := by
  rw [List.length_reverse, pos_rev (Nat.le_refl _), Nat.sub_self]
  show _ - (0 : Int) = _; omega
theorem vol_rev {l : List Slc} : volV l.reverse = volV l := by
  unfold volV
  rw [List.length_reverse, ← sumN_rev (fun i => lenD l i * areaV (secD l i))]
  exact sumN_congr fun i hi => by unfold lenD secD; rw [getD_rev hi]
theorem win_rev {l : List Slc} (X Y Z : Span) : winV l.reverse X Y (pos l l.length - Z.2, pos l l.length - Z.1) = winV l X Y Z := by
  unfold winV
  rw [List.length_reverse, ← sumN_rev (fun i => ovZ l Z i * inV (secD l i) X Y)]
  refine sumN_congr fun i hi => ?_
  have e1 : secD l.reverse i = secD l (l.length - 1 - i) := by unfold secD; rw [getD_rev hi]
  have e2 : lenD l.reverse i = lenD l (l.length - 1 - i) := by unfold lenD; rw [getD_rev hi]
  have e3 := pos_rev (l := l) (i := i) (by omega)
  have e4 := pos_succ l (l.length - 1 - i)
  rw [show l.length - 1 - i + 1 = l.length - i by omega] at e4
  have e5 : ovZ l.reverse (pos l l.length - Z.2, pos l l.length - Z.1) i = ovZ l Z (l.length - 1 - i) := by
    unfold ovZ ov
    dsimp only
    rw [e2, e3]; omega
  rw [e1, e5]
end Go.Proofs.Ytanlfjboahfanaa.Ge
