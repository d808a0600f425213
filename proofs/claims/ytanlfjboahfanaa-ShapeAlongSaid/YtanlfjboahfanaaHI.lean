/- Solids divided and mirrored: plain. -/
import Derived.Test.YtanlfjboahfanaaHG
import Derived.Test.YtanlfjboahfanaaGU
namespace Go.Proofs.Ytanlfjboahfanaa.Ge
set_option linter.unusedVariables false
set_option linter.unusedSimpArgs false
open Go.RowKit Go.Proofs.Ytanlfjboahfanaa.Ev

theorem pos_cons (x : Slc) (l : List Slc) (n : Nat) : pos (x :: l) (n + 1) = x.len + pos l n := by
  unfold pos
  rw [Nat.add_comm n 1, sumN_split]
  have e : sumN (fun i => lenD (x :: l) (1 + i)) n = sumN (lenD l) n := sumN_congr fun i _ => by
    unfold lenD
    rw [List.getD_eq_getElem?_getD, List.getD_eq_getElem?_getD, Nat.add_comm 1 i, List.getElem?_cons_succ]
  rw [e]
  show (0 + x.len) + _ = _
  omega
theorem pos_append : ∀ (l2 l1 : List Slc), pos (l1 ++ l2) (l1.length + l2.length) = pos l1 l1.length + pos l2 l2.length
  | [], l1 => by rw [List.append_nil]; show _ = _ + (0 : Int); simp
  | x :: l2, l1 => by
    have ih := pos_append l2 (l1 ++ [x])
    rw [List.append_assoc, List.length_append, List.length_singleton] at ih
    rw [List.length_cons, show l1.length + (l2.length + 1) = l1.length + 1 + l2.length by omega]
    have e : pos (l1 ++ [x]) (l1.length + 1) = pos l1 l1.length + x.len := by
      rw [pos_succ, pos_app _ _ _ (Nat.le_refl _)]; unfold lenD; rw [getD_end]
    rw [e] at ih
    rw [pos_cons]
    rw [show l1 ++ x :: l2 = l1 ++ ([x] ++ l2) from rfl, ih]; omega
theorem cut_cnt {l : List Slc} (v : SolV l) {a : Int} (h0 : 0 ≤ a) : ∀ j, j ≤ l.length → (cutN l (0, a) j).length + (cutN l (a, pos l l.length) j).length ≤ j + (if a < pos l j then 1 else 0)
  | 0, _ => by
    rw [if_neg (by show ¬ a < (0 : Int); omega)]; simp [cutN]
  | j + 1, hj => by
    have ih := cut_cnt v h0 j (by omega)
    have hl := v.one j (by omega)
    have h1 := pos_bd v (j := j) (by omega)
    have h2 := pos_le v (show j + 1 ≤ l.length by omega) (Nat.le_refl _)
    have h3 := pos_succ l j
    rw [lenD_eq (by omega)] at h3
    have c1 : (cutN l (0, a) (j + 1)).length = (cutN l (0, a) j).length + (if pos l j < a then 1 else 0) := by
      by_cases h : 0 < ovZ l (0, a) j
      · rw [← cutN_yes h, if_pos (by unfold ovZ ov at h; dsimp only at h; omega)]; simp
      · rw [← cutN_no h, if_neg (by unfold ovZ ov at h; dsimp only at h; rw [lenD_eq (by omega)] at h; omega)]; rfl
    have c2 : (cutN l (a, pos l l.length) (j + 1)).length = (cutN l (a, pos l l.length) j).length + (if a < pos l (j + 1) then 1 else 0) := by
      by_cases h : 0 < ovZ l (a, pos l l.length) j
      · rw [← cutN_yes h, if_pos (by unfold ovZ ov at h; dsimp only at h; rw [lenD_eq (by omega)] at h; omega)]; simp
      · rw [← cutN_no h, if_neg (by unfold ovZ ov at h; dsimp only at h; rw [lenD_eq (by omega)] at h; omega)]; rfl
    rw [c1, c2]
    split at ih <;> split <;> split <;> omega
theorem cut_head {l : List Slc} {Z : Span} (h : 0 < ovZ l Z 0) : ∀ j, 0 < (cutN l Z (j + 1)).length ∧ secD (cutN l Z (j + 1)) 0 = secD l 0
  | 0 => by rw [← cutN_yes h]; exact ⟨by simp, rfl⟩
  | j + 1 => by
    obtain ⟨i1, i2⟩ := cut_head h j
    by_cases hp : 0 < ovZ l Z (j + 1)
    · rw [← cutN_yes hp]
      exact ⟨by simp, by unfold secD at i2 ⊢; rw [getD_app i1]; exact i2⟩
    · rw [← cutN_no hp]; exact ⟨i1, i2⟩
theorem secD_append_l {l1 l2 : List Slc} {i : Nat} (h : i < l1.length) : secD (l1 ++ l2) i = secD l1 i := by
  unfold secD; rw [List.getD_eq_getElem?_getD, List.getD_eq_getElem?_getD, List.getElem?_append_left h]
theorem secD_append_r {l1 l2 : List Slc} {i : Nat} : secD (l1 ++ l2) (l1.length + i) = secD l2 i := by
  unfold secD; rw [List.getD_eq_getElem?_getD, List.getD_eq_getElem?_getD, List.getElem?_append_right (by omega), Nat.add_sub_cancel_left]
/-- A solid that is divided. -/
def divL (l : List Slc) (a : Int) : List Slc := cutV l (0, a) ++ cutV l (a, pos l l.length)
structure DivI (l : List Slc) (a : Int) : Prop where
  v : SolV (divL l a)
  ne : 0 < (divL l a).length
  len : pos (divL l a) (divL l a).length = pos l l.length
  first : secD (divL l a) 0 = secD l 0
  last : secD (divL l a) ((divL l a).length - 1) = secD l (l.length - 1)
theorem div_is {l : List Slc} (v : SolV l) (hn : l.length < 24) {a : Int} (h0 : 0 < a) (h1 : a < pos l l.length) : DivI l a := by
  have hp : 0 < l.length := Nat.pos_of_ne_zero fun hh => by rw [hh] at h1; have : pos l 0 = 0 := rfl; omega
  have k1 := cut_inv v (0, a) l.length (Nat.le_refl _)
  have k2 := cut_inv v (a, pos l l.length) l.length (Nat.le_refl _)
  have hcnt := cut_cnt v (Int.le_of_lt h0) l.length (Nat.le_refl _)
  have s1 : pos (cutV l (0, a)) (cutV l (0, a)).length = a := by
    unfold cutV; rw [k1.len, ovZ_all v]; unfold ov; dsimp only; omega
  have s2 : pos (cutV l (a, pos l l.length)) (cutV l (a, pos l l.length)).length = pos l l.length - a := by
    unfold cutV; rw [k2.len, ovZ_all v]; unfold ov; dsimp only; omega
  have hlen : pos (divL l a) (divL l a).length = pos l l.length := by
    unfold divL; rw [List.length_append, pos_append, s1, s2]; omega
  have hl0 := v.one 0 hp
  obtain ⟨m, hm⟩ : ∃ m, l.length = m + 1 := ⟨l.length - 1, by omega⟩
  have f0 : 0 < ovZ l (0, a) 0 := by
    unfold ovZ ov; dsimp only; rw [lenD_eq hp]; have : pos l 0 = 0 := rfl; omega
  have hh := cut_head f0 m
  rw [← hm] at hh
  have g0 : 0 < ovZ l (a, pos l l.length) m := by
    have e := pos_succ l m
    rw [← hm, lenD_eq (by omega)] at e
    have := v.one m (by omega)
    unfold ovZ ov; dsimp only; rw [lenD_eq (by omega)]; omega
  have tl : cutV l (a, pos l l.length) = cutN l (a, pos l l.length) m ++ [⟨ovZ l (a, pos l l.length) m, secD l m⟩] := by
    unfold cutV
    have e := (cutN_yes g0).symm
    rw [← hm] at e; exact e
  have hmem : ∀ i (h : i < (divL l a).length), (∃ k, ∃ h' : k < (cutV l (0, a)).length, (divL l a)[i] = (cutV l (0, a))[k]) ∨ ∃ k, ∃ h' : k < (cutV l (a, pos l l.length)).length, (divL l a)[i] = (cutV l (a, pos l l.length))[k] := fun i h => by
    unfold divL at h ⊢
    rcases Nat.lt_or_ge i (cutV l (0, a)).length with hi | hi
    · exact .inl ⟨i, hi, List.getElem_append_left hi⟩
    · rw [List.length_append] at h
      exact .inr ⟨i - (cutV l (0, a)).length, by omega, List.getElem_append_right hi⟩
  have v1 : SolV (cutV l (0, a)) := k1.v
  have v2 : SolV (cutV l (a, pos l l.length)) := k2.v
  refine ⟨⟨?_, fun i hi => ?_, fun i hi => ?_, fun i hi => ?_, ?_⟩, ?_, hlen, ?_, ?_⟩
  · unfold divL; rw [List.length_append]
    show (cutN l (0, a) l.length).length + (cutN l (a, pos l l.length) l.length).length ≤ 24
    split at hcnt <;> omega
  · rcases hmem i hi with ⟨k, hk, e⟩ | ⟨k, hk, e⟩
    · rw [e]; exact v1.chk k hk
    · rw [e]; exact v2.chk k hk
  · rcases hmem i hi with ⟨k, hk, e⟩ | ⟨k, hk, e⟩
    · rw [e]; exact v1.some k hk
    · rw [e]; exact v2.some k hk
  · rcases hmem i hi with ⟨k, hk, e⟩ | ⟨k, hk, e⟩
    · rw [e]; exact v1.one k hk
    · rw [e]; exact v2.one k hk
  · rw [hlen]; exact v.all
  · unfold divL; rw [List.length_append]
    have : 0 < (cutV l (0, a)).length := hh.1
    omega
  · unfold divL; rw [secD_append_l (show 0 < (cutV l (0, a)).length from hh.1)]; exact hh.2
  · have e : (divL l a).length - 1 = (cutV l (0, a)).length + (cutN l (a, pos l l.length) m).length := by
      unfold divL; rw [List.length_append, tl]; simp <;> omega
    rw [e]
    unfold divL
    rw [secD_append_r, tl]
    unfold secD
    rw [getD_end, hm]; rfl

/-- A solid that is mirrored. -/
noncomputable def mirL (l : List Slc) : List Slc := l.map fun x => ⟨x.len, mirSec x.sec⟩
theorem mirL_len (l : List Slc) : (mirL l).length = l.length := by simp [mirL]
theorem mirL_get {l : List Slc} (v : SolV l) {i : Nat} (h : i < l.length) : (mirL l)[i]'(by rw [mirL_len]; exact h) = ⟨l[i].len, mirV l[i].sec⟩ := by
  unfold mirL mirSec
  rw [List.getElem_map, valS_of (chk_is (v.chk i h))]
theorem mirL_sec {l : List Slc} (v : SolV l) {i : Nat} (h : i < l.length) : secD (mirL l) i = mirV (secD l i) := by
  rw [secD_eq (by rw [mirL_len]; exact h), mirL_get v h, secD_eq h]
theorem mirL_lenD {l : List Slc} (v : SolV l) (i : Nat) : lenD (mirL l) i = lenD l i := by
  by_cases h : i < l.length
  · rw [lenD_eq (by rw [mirL_len]; exact h), mirL_get v h, lenD_eq h]
  · unfold lenD
    rw [List.getD_eq_getElem?_getD, List.getD_eq_getElem?_getD, List.getElem?_eq_none (by rw [mirL_len]; omega), List.getElem?_eq_none (by omega)]
theorem mirL_pos {l : List Slc} (v : SolV l) (j : Nat) : pos (mirL l) j = pos l j := sumN_congr fun i _ => mirL_lenD v i
theorem mirL_V {l : List Slc} (v : SolV l) : SolV (mirL l) := by
  have hl := mirL_len l
  refine ⟨by rw [hl]; exact v.n, fun i hi => ?_, fun i hi => ?_, fun i hi => ?_, by rw [mirL_pos v, hl]; exact v.all⟩
  · rw [hl] at hi
    rw [mirL_get v hi]; exact chk_of (mirV_V (chk_is (v.chk i hi)))
  · rw [hl] at hi
    rw [mirL_get v hi]; show ¬ (l[i].sec.rows.map mirS).length = 0; rw [List.length_map]; exact v.some i hi
  · rw [hl] at hi
    rw [mirL_get v hi]; exact v.one i hi
theorem mir_dia {s : Sec} (v : SecV s) : diaS (mirV s) = diaS s := by
  unfold diaS areaS; rw [valS_of v, valS_of (mirV_V v), mir_area]
theorem mir_cen {s : Sec} (v : SecV s) : cenX (mirV s) = -cenX s ∧ cenY (mirV s) = cenY s := by
  unfold cenX cenY bdS
  rw [valS_of v, valS_of (mirV_V v), mir_bd]
  unfold mirS; dsimp only
  exact ⟨by omega, rfl⟩
theorem mirL_chk {l : List Slc} (h : solChk l = 0) : solChk (mirL l) = 0 := chk_zero (by rw [mirL_len]; exact sol_pos h) (mirL_V (sol_V h))
theorem mirL_top {l : List Slc} (h : solChk l = 0) : topS (mirL l) = topS l := by
  have v := sol_V h
  have hp := sol_pos h
  unfold topS
  rw [if_pos h, if_pos (mirL_chk h), mirL_len, mirL_sec v (by omega), mir_dia]
  rw [secD_eq (by omega)]; exact chk_is (v.chk _ _)
theorem mirL_taper {l : List Slc} (h : solChk l = 0) : taperS (mirL l) = taperS l := by
  have v := sol_V h
  have hp := sol_pos h
  unfold taperS
  rw [if_pos h, if_pos (mirL_chk h), mirL_len, mirL_pos v, mirL_sec v hp, mirL_sec v (by omega), mir_dia, mir_dia]
  · rw [secD_eq (by omega)]; exact chk_is (v.chk _ _)
  · rw [secD_eq hp]; exact chk_is (v.chk _ _)
theorem neg_div {x d : Int} (hd : 0 < d) : (-x) / d = -(x / d) ∨ (-x) / d = -(x / d) - 1 := by
  have h1 := Int.mul_ediv_add_emod x d
  have h2 := Int.emod_nonneg x (show d ≠ 0 by omega)
  have h3 := Int.emod_lt_of_pos x hd
  have e : -x = -(x % d) + (-(x / d)) * d := by rw [Int.neg_mul, Int.mul_comm]; omega
  rw [e, Int.add_mul_ediv_right _ _ (by omega)]
  by_cases h : x % d = 0
  · left; rw [h]; simp
  · right
    rw [Int.ediv_eq_neg_one_of_neg_of_le (by omega) (by omega)]; omega
theorem mirL_mid {l : List Slc} (v : SolV l) (i : Nat) : midS (mirL l) i = midS l i := by unfold midS; rw [mirL_pos v, mirL_lenD v]
theorem mir_dev {l : List Slc} (v : SolV l) (h3 : 3 ≤ l.length) {i : Nat} (hi : i < l.length) : (devS (mirL l) i).2 = (devS l i).2 ∧ (devS (mirL l) i).1 ≤ (devS l i).1 + 1 ∧ (devS l i).1 ≤ (devS (mirL l) i).1 + 1 := by
  have hs : ∀ k, k < l.length → SecV (secD l k) := fun k hk => by rw [secD_eq hk]; exact chk_is (v.chk k hk)
  have c := mir_cen (hs i hi)
  have c0 := mir_cen (hs 0 (by omega))
  have c1 := mir_cen (hs (l.length - 1) (by omega))
  have hm := mid_lt v (i := 0) (j := l.length - 1) (by omega) (by omega)
  unfold devS
  dsimp only
  rw [mirL_len, mirL_sec v hi, mirL_sec v (by omega), mirL_sec v (by omega), mirL_mid v, mirL_mid v, mirL_mid v, c.1, c.2, c0.1, c0.2, c1.1, c1.2]
  refine ⟨rfl, ?_⟩
  unfold alongS distS
  have hd : 0 < midS l (l.length - 1) - midS l 0 := by omega
  have e : (-cenX (secD l (l.length - 1)) - -cenX (secD l 0)) * (midS l i - midS l 0) = -((cenX (secD l (l.length - 1)) - cenX (secD l 0)) * (midS l i - midS l 0)) := by
    rw [← Int.neg_mul]; congr 1; omega
  rw [e]
  generalize (cenX (secD l (l.length - 1)) - cenX (secD l 0)) * (midS l i - midS l 0) = x
  have := neg_div (x := x) hd
  generalize x / (midS l (l.length - 1) - midS l 0) = q at *
  generalize -x / (midS l (l.length - 1) - midS l 0) = q' at *
  omega
theorem mir_sw {l : List Slc} (v : SolV l) (h3 : 3 ≤ l.length) : ∀ j, j ≤ l.length → swN (mirL l) j ≤ swN l j + 1 ∧ swN l j ≤ swN (mirL l) j + 1
  | 0, _ => by show (0 : Int) ≤ 0 + 1 ∧ (0 : Int) ≤ 0 + 1; omega
  | j + 1, hj => by
    have ih := mir_sw v h3 j (by omega)
    have hd := mir_dev v h3 (i := j) (by omega)
    unfold swN
    rw [hd.1]
    omega
theorem mirL_sweep {l : List Slc} (h : solChk l = 0) : sweepS (mirL l) ≤ sweepS l + 1 ∧ sweepS l ≤ sweepS (mirL l) + 1 := by
  have v := sol_V h
  unfold sweepS
  rw [mirL_len]
  by_cases h3 : 3 ≤ l.length
  · rw [if_pos ⟨mirL_chk h, h3⟩, if_pos ⟨h, h3⟩]
    exact mir_sw v h3 _ (Nat.le_refl _)
  · rw [if_neg (fun hh => h3 hh.2), if_neg (fun hh => h3 hh.2)]; omega
theorem sweep_bd {l : List Slc} (h : solChk l = 0) : 0 ≤ sweepS l ∧ sweepS l ≤ 1000000 := by
  have v := sol_V h
  unfold sweepS
  split
  · rename_i hh
    have : ∀ j, j ≤ l.length → 0 ≤ swN l j ∧ swN l j ≤ 2400 := by
      intro j
      induction j with
      | zero => intro _; exact ⟨Int.le_refl _, by show (0 : Int) ≤ 2400; decide⟩
      | succ j ih =>
        intro hj
        have h1 := ih (by omega)
        have mlt := mid_lt v (i := 0) (j := l.length - 1) (by omega) (by omega)
        have m0 : midS l 0 ≤ midS l j := by
          by_cases he : j = 0
          · rw [he]; exact Int.le_refl _
          · have := mid_lt v (i := 0) (j := j) (by omega) (by omega); omega
        have m1 : midS l j ≤ midS l (l.length - 1) := by
          by_cases he : j = l.length - 1
          · rw [← he]; exact Int.le_refl _
          · have := mid_lt v (i := j) (j := l.length - 1) (by omega) (by omega); omega
        have b0 := cen_bd (secD l 0)
        have b1 := cen_bd (secD l (l.length - 1))
        have bj := cen_bd (secD l j)
        have ax := along_bd (a := cenX (secD l 0)) (b := cenX (secD l (l.length - 1))) (s := midS l 0) (t := midS l (l.length - 1)) (m := midS l j) (by omega) m0 m1 (by omega) (by omega)
        have ay := along_bd (a := cenY (secD l 0)) (b := cenY (secD l (l.length - 1))) (s := midS l 0) (t := midS l (l.length - 1)) (m := midS l j) (by omega) m0 m1 (by omega) (by omega)
        unfold swN devS distS
        dsimp only
        omega
    have := this _ (Nat.le_refl l.length)
    omega
  · omega
end Go.Proofs.Ytanlfjboahfanaa.Ge
