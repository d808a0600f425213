/- Walks of the laws on measures: ShapeEnds, ShapeAreas. -/
import Derived.Test.YtanlfjboahfanaaHE
import Derived.Test.YtanlfjboahfanaaGR
namespace Go.Proofs.Ytanlfjboahfanaa.Ge
set_option linter.unusedVariables false
set_option linter.unusedSimpArgs false
open Go.RowKit Go.Proofs.Ytanlfjboahfanaa.Ev
variable {gl : List (Nat × List CV)}

theorem div_zero' {a n : Int} (hn : 0 < n) (h : a / n = 0) (h0 : 0 ≤ a) : a < n := by
  have := Int.emod_lt_of_pos a hn
  have h2 := Int.mul_ediv_add_emod a n
  rw [h, Int.mul_zero] at h2; omega
set_option maxRecDepth 100000 in
set_option maxHeartbeats 8000000 in
theorem ends_law (l : List Slc) (hn : SlQ l) : Con Try.prog gl 7 [LL l] T := by
  have hs := small14_con (gl := gl) l hn
  have hc := scheck_con (gl := gl) l hn
  refine con_of Try.func7 rfl (by kernel_rfl) rfl ?_
  simp only [Try.ntmps7, Try.results7, argEnv, ofC, of1, List.map]
  cases h : smallS l with
  | false =>
    rw [h] at hs
    repeat' (first
      | ((with_reducible apply r_call); exact rfl; exact rfl; (first | exact hs | exact awake14_con); exact rfl; exact rfl)
      | ((with_reducible apply aw_seq))
      | ((with_reducible apply aw_region))
      | ((with_reducible apply thn_normal))
      | ((with_reducible apply thn_ret))
      | ((with_reducible apply aw_ret))
      | ((with_reducible apply ao_nil))
      | ((with_reducible apply r_move); exact rfl; exact rfl)
      | ((with_reducible apply r_assign); exact rfl; exact rfl)
      | ((with_reducible apply r_pick_t); exact rfl; exact rfl; exact rfl)
      | ((with_reducible apply r_not); exact rfl; exact rfl)
      | (((with_reducible apply r_guard); exact rfl; exact rfl; exact rfl; exact rfl) <;> intro hg <;> (first | (exact absurd hg (by decide)) | ((try simp only [decide_eq_true_eq, decide_eq_false_iff_not, Bool.not_eq_true', Bool.not_eq_false', Bool.not_true, Bool.not_false, Bool.not_not, Int.not_lt, Int.not_le, Nat.not_lt, Nat.not_le, gt_iff_lt, ge_iff_le, List.cons.injEq, and_true] at hg); first | (exact absurd trivial hg) | (exfalso; omega) | (have hT : True := hg; clear hT hg) | skip)))
      | (((with_reducible apply aw_cond); exact rfl) <;> intro hg <;> (first | (exact absurd hg (by decide)) | ((try simp only [decide_eq_true_eq, decide_eq_false_iff_not, Bool.not_eq_true', Bool.not_eq_false', Bool.not_true, Bool.not_false, Bool.not_not, Int.not_lt, Int.not_le, Nat.not_lt, Nat.not_le, gt_iff_lt, ge_iff_le, List.cons.injEq, and_true] at hg); first | (exact absurd trivial hg) | (exfalso; omega) | (have hT : True := hg; clear hT hg) | skip)))
      )
    all_goals exact ret_b rfl rfl
  | true =>
  rw [h] at hs
  by_cases hok : solChk l = 0
  rotate_left
  · skip
    repeat' (first
      | ((with_reducible apply r_call); exact rfl; exact rfl; (first | exact hs | exact hc | exact awake14_con); exact rfl; exact rfl)
      | ((with_reducible apply aw_seq))
      | ((with_reducible apply aw_region))
      | ((with_reducible apply thn_normal))
      | ((with_reducible apply thn_ret))
      | ((with_reducible apply aw_ret))
      | ((with_reducible apply ao_nil))
      | ((with_reducible apply r_move); exact rfl; exact rfl)
      | ((with_reducible apply r_assign); exact rfl; exact rfl)
      | ((with_reducible apply r_eql); exact rfl; exact rfl; exact rfl)
      | ((with_reducible apply r_neq); exact rfl; exact rfl; exact rfl)
      | ((with_reducible apply r_pick_t); exact rfl; exact rfl; exact rfl)
      | ((with_reducible apply r_pick_f); exact rfl; exact rfl; exact rfl)
      | ((with_reducible apply r_not); exact rfl; exact rfl)
      | ((with_reducible apply r_len_f); exact rfl; exact inferInstance; exact rfl)
      | (((with_reducible apply r_guard); exact rfl; exact rfl; exact rfl; exact rfl) <;> intro hg <;> (first | (exact absurd hg (by decide)) | ((try simp only [decide_eq_true_eq, decide_eq_false_iff_not, Bool.not_eq_true', Bool.not_eq_false', Bool.not_true, Bool.not_false, Bool.not_not, Int.not_lt, Int.not_le, Nat.not_lt, Nat.not_le, gt_iff_lt, ge_iff_le, List.cons.injEq, and_true] at hg); first | (exact absurd trivial hg) | (exfalso; omega) | (have hT : True := hg; clear hT hg) | skip)))
      | (((with_reducible apply aw_cond); exact rfl) <;> intro hg <;> (first | (exact absurd hg (by decide)) | ((try simp only [decide_eq_true_eq, decide_eq_false_iff_not, Bool.not_eq_true', Bool.not_eq_false', Bool.not_true, Bool.not_false, Bool.not_not, Int.not_lt, Int.not_le, Nat.not_lt, Nat.not_le, gt_iff_lt, ge_iff_le, List.cons.injEq, and_true] at hg); first | (exact absurd trivial hg) | (exfalso; omega) | (have hT : True := hg; clear hT hg) | skip)))
      )
    all_goals exact ret_b rfl rfl
  have hp := sol_pos hok
  have v := sol_V hok
  have hu := v.n
  have vr := rev_V v
  have er : revS l = l.reverse := by unfold revS; rw [valL_ok hok]
  have hnr : l.reverse.length ≤ maxLen := by rw [List.length_reverse]; exact hn
  have hokr : solChk l.reverse = 0 := chk_zero (by rw [List.length_reverse]; exact hp) vr
  have h1 := sreverse_con (gl := gl) l hn
  rw [er] at h1
  have t1 := taper_con (gl := gl) l hn
  have t2 := taper_con (gl := gl) l.reverse hnr
  have p1 := top_con (gl := gl) l hn
  have p2 := top_con (gl := gl) l.reverse hnr
  have d0 := dia_con (gl := gl) (l[0]'hp).sec
  have e0 : secD l 0 = (l[0]'hp).sec := secD_eq hp
  have r0 : secD l.reverse 0 = secD l (l.length - 1) := by unfold secD; rw [getD_rev hp]; rfl
  have r1 : secD l.reverse (l.reverse.length - 1) = secD l 0 := by unfold secD; rw [List.length_reverse, getD_rev (by omega), show l.length - 1 - (l.length - 1) = 0 by omega]
  have et1 : taperS l = max (0 : Int) (diaS (secD l 0) - diaS (secD l (l.length - 1))) * 10000 / pos l l.length := if_pos hok
  have et2 : taperS l.reverse = max (0 : Int) (diaS (secD l (l.length - 1)) - diaS (secD l 0)) * 10000 / pos l l.length := by
    unfold taperS; rw [if_pos hokr, r0, r1, len_rev]
  have ep1 : topS l = diaS (secD l (l.length - 1)) := if_pos hok
  have ep2 : topS l.reverse = diaS (secD l 0) := by unfold topS; rw [if_pos hokr, r1]
  rw [← e0] at d0
  rw [ep1] at p1
  rw [ep2] at p2
  have hlb := len_pos hok
  have b1 := dia_bd (secD l 0)
  have b2 := dia_bd (secD l (l.length - 1))
  have d0' : Con Try.prog gl 12 [secC (l[0]'hp).sec] (I (diaS (secD l 0))) := by rw [e0]; exact dia_con _
  clear d0
  generalize diaS (secD l (l.length - 1)) = dt at *
  generalize diaS (secD l 0) = dd at *
  generalize pos l l.length = n at *
  have n1 : 0 ≤ taperS l := by rw [et1]; exact Int.ediv_nonneg (by omega) (by omega)
  have n2 : 0 ≤ taperS l.reverse := by rw [et2]; exact Int.ediv_nonneg (by omega) (by omega)
  have z1 : dd ≤ dt → taperS l = 0 := fun hh => by rw [et1, show max (0 : Int) (dd - dt) = 0 by omega, Int.zero_mul, Int.zero_ediv]
  have z2 : dt ≤ dd → taperS l.reverse = 0 := fun hh => by rw [et2, show max (0 : Int) (dt - dd) = 0 by omega, Int.zero_mul, Int.zero_ediv]
  clear et1 et2
  generalize taperS l = a at *
  generalize taperS l.reverse = b at *
  by_cases hd : dd ≤ dt
  · have ha := z1 hd
    subst ha
    repeat' (first
      | ((with_reducible apply (r_index_f (k := 0))); exact rfl; exact inferInstance; exact rfl; exact rfl; exact (by omega); exact rfl)
      | ((with_reducible apply r_call); exact rfl; exact rfl; (first | exact hs | exact hc | exact h1 | exact t1 | exact t2 | exact p1 | exact p2 | exact d0' | exact awake14_con); exact rfl; exact rfl)
      | ((with_reducible apply aw_seq))
      | ((with_reducible apply aw_region))
      | ((with_reducible apply thn_normal))
      | ((with_reducible apply aw_skip))
      | ((with_reducible apply aw_ret))
      | ((with_reducible apply ao_nil))
      | ((with_reducible apply r_move); exact rfl; exact rfl)
      | ((with_reducible apply r_assign); exact rfl; exact rfl)
      | ((with_reducible apply r_lss); exact rfl; exact rfl; exact rfl)
      | ((with_reducible apply r_gtr); exact rfl; exact rfl; exact rfl)
      | ((with_reducible apply r_eql); exact rfl; exact rfl; exact rfl)
      | ((with_reducible apply r_neq); exact rfl; exact rfl; exact rfl)
      | ((with_reducible apply r_pick_t); exact rfl; exact rfl; exact rfl)
      | ((with_reducible apply r_pick_f); exact rfl; exact rfl; exact rfl)
      | ((with_reducible apply r_not); exact rfl; exact rfl)
      | ((with_reducible apply r_len_f); exact rfl; exact inferInstance; exact rfl)
      | ((with_reducible apply r_load_fa); exact rfl; exact inferInstance; exact List.getElem?_eq_getElem (by first | assumption | omega); exact rfl; exact rfl; exact rfl)
      | ((with_reducible apply r_field_e); exact rfl; exact rfl)
      | (((with_reducible apply r_guard); exact rfl; exact rfl; exact rfl; exact rfl) <;> intro hg <;> (first | (exact absurd hg (by decide)) | ((try simp only [decide_eq_true_eq, decide_eq_false_iff_not, Bool.not_eq_true', Bool.not_eq_false', Bool.not_true, Bool.not_false, Bool.not_not, Int.not_lt, Int.not_le, Nat.not_lt, Nat.not_le, gt_iff_lt, ge_iff_le, List.cons.injEq, and_true] at hg); first | (exact absurd trivial hg) | (exfalso; omega) | (have hT : True := hg; clear hT hg) | skip)))
      | (((with_reducible apply aw_cond); exact rfl) <;> intro hg <;> (first | (exact absurd hg (by decide)) | ((try simp only [decide_eq_true_eq, decide_eq_false_iff_not, Bool.not_eq_true', Bool.not_eq_false', Bool.not_true, Bool.not_false, Bool.not_not, Int.not_lt, Int.not_le, Nat.not_lt, Nat.not_le, gt_iff_lt, ge_iff_le, List.cons.injEq, and_true] at hg); first | (exact absurd trivial hg) | (exfalso; omega) | (have hT : True := hg; clear hT hg) | skip)))
      | (refine aw_drawq ?_ ?_; (kernel_rfl))
      | ((with_reducible apply ds_nil))
      | (((with_reducible apply rd_guard); exact rfl; exact rfl; exact rfl) <;> intro hg <;> (first | (exact absurd hg (by decide)) | ((try rw [hg]); (try simp only [decide_eq_true_eq, decide_eq_false_iff_not, Bool.not_eq_true', Bool.not_eq_false', Bool.not_true, Bool.not_false, Bool.not_not, Int.not_lt, Int.not_le, Nat.not_lt, Nat.not_le, gt_iff_lt, ge_iff_le, List.cons.injEq, and_true] at hg); first | (exact absurd trivial hg) | (exfalso; omega) | (have hT : True := hg; clear hT hg) | skip)))
      )
    all_goals first | exact ret_b rfl rfl | trace_state
  · have hb := z2 (by omega)
    subst hb
    repeat' (first
      | ((with_reducible apply (r_index_f (k := 0))); exact rfl; exact inferInstance; exact rfl; exact rfl; exact (by omega); exact rfl)
      | ((with_reducible apply r_call); exact rfl; exact rfl; (first | exact hs | exact hc | exact h1 | exact t1 | exact t2 | exact p1 | exact p2 | exact d0' | exact awake14_con); exact rfl; exact rfl)
      | ((with_reducible apply aw_seq))
      | ((with_reducible apply aw_region))
      | ((with_reducible apply thn_normal))
      | ((with_reducible apply aw_skip))
      | ((with_reducible apply aw_ret))
      | ((with_reducible apply ao_nil))
      | ((with_reducible apply r_move); exact rfl; exact rfl)
      | ((with_reducible apply r_assign); exact rfl; exact rfl)
      | ((with_reducible apply r_lss); exact rfl; exact rfl; exact rfl)
      | ((with_reducible apply r_gtr); exact rfl; exact rfl; exact rfl)
      | ((with_reducible apply r_eql); exact rfl; exact rfl; exact rfl)
      | ((with_reducible apply r_neq); exact rfl; exact rfl; exact rfl)
      | ((with_reducible apply r_pick_t); exact rfl; exact rfl; exact rfl)
      | ((with_reducible apply r_pick_f); exact rfl; exact rfl; exact rfl)
      | ((with_reducible apply r_not); exact rfl; exact rfl)
      | ((with_reducible apply r_len_f); exact rfl; exact inferInstance; exact rfl)
      | ((with_reducible apply r_load_fa); exact rfl; exact inferInstance; exact List.getElem?_eq_getElem (by first | assumption | omega); exact rfl; exact rfl; exact rfl)
      | ((with_reducible apply r_field_e); exact rfl; exact rfl)
      | (((with_reducible apply r_guard); exact rfl; exact rfl; exact rfl; exact rfl) <;> intro hg <;> (first | (exact absurd hg (by decide)) | ((try simp only [decide_eq_true_eq, decide_eq_false_iff_not, Bool.not_eq_true', Bool.not_eq_false', Bool.not_true, Bool.not_false, Bool.not_not, Int.not_lt, Int.not_le, Nat.not_lt, Nat.not_le, gt_iff_lt, ge_iff_le, List.cons.injEq, and_true] at hg); first | (exact absurd trivial hg) | (exfalso; omega) | (have hT : True := hg; clear hT hg) | skip)))
      | (((with_reducible apply aw_cond); exact rfl) <;> intro hg <;> (first | (exact absurd hg (by decide)) | ((try simp only [decide_eq_true_eq, decide_eq_false_iff_not, Bool.not_eq_true', Bool.not_eq_false', Bool.not_true, Bool.not_false, Bool.not_not, Int.not_lt, Int.not_le, Nat.not_lt, Nat.not_le, gt_iff_lt, ge_iff_le, List.cons.injEq, and_true] at hg); first | (exact absurd trivial hg) | (exfalso; omega) | (have hT : True := hg; clear hT hg) | skip)))
      | (refine aw_drawq ?_ ?_; (kernel_rfl))
      | ((with_reducible apply ds_nil))
      | (((with_reducible apply rd_guard); exact rfl; exact rfl; exact rfl) <;> intro hg <;> (first | (exact absurd hg (by decide)) | ((try rw [hg]); (try simp only [decide_eq_true_eq, decide_eq_false_iff_not, Bool.not_eq_true', Bool.not_eq_false', Bool.not_true, Bool.not_false, Bool.not_not, Int.not_lt, Int.not_le, Nat.not_lt, Nat.not_le, gt_iff_lt, ge_iff_le, List.cons.injEq, and_true] at hg); first | (exact absurd trivial hg) | (exfalso; omega) | (have hT : True := hg; clear hT hg) | skip)))
      )
    all_goals first | exact ret_b rfl rfl | trace_state

theorem dia_sq (s : Sec) : 355 * diaS s * diaS s ≤ 452 * areaS s ∧ 452 * areaS s < 355 * (diaS s + 1) * (diaS s + 1) := by
  obtain ⟨h1, h2, h3⟩ := dia_is s
  rw [Int.mul_assoc, Int.mul_assoc]
  generalize diaS s * diaS s = x at *
  generalize (diaS s + 1) * (diaS s + 1) = y at *
  omega
theorem dia_mono {s t : Sec} (h : areaS s ≤ areaS t) : diaS s ≤ diaS t := by
  have := areaS_bd s
  exact root_mono (by omega) (by omega)
theorem meet_area (s t : Sec) : areaS (meetSec s t) ≤ areaS s ∧ areaS (meetSec s t) ≤ areaS t := by
  have v := meet_V s t
  have e : areaS (meetSec s t) = areaV (meetSec s t) := by unfold areaS; rw [valS_of v]
  rw [e]
  exact ⟨part_area v (valS_V s) (part_l s t), part_area v (valS_V t) (part_r s t)⟩
set_option maxRecDepth 100000 in
set_option maxHeartbeats 8000000 in
theorem areas_law (s : Sec) (_ : s.rows.length ≤ maxLen) (t : Sec) (_ : t.rows.length ≤ maxLen) : Con Try.prog gl 8 [secC s, secC t] T := by
  have h1 := dia_con (gl := gl) s
  have h2 := dia_con (gl := gl) t
  have h3 := area_con (gl := gl) s
  have h4 := smeet_con (gl := gl) s t
  have h5 := dia_con (gl := gl) (meetSec s t)
  have a1 := dia_sq s
  have a2 := dia_mono (meet_area s t).1
  have a3 := dia_mono (meet_area s t).2
  have b1 := dia_bd s
  have b2 := areaS_bd s
  refine con_of Try.func8 rfl (by kernel_rfl) rfl ?_
  simp only [Try.ntmps8, Try.results8, argEnv, ofC, of1, List.map]
  by_cases h : s.rows.length ≤ 130 ∧ t.rows.length ≤ 130
  rotate_left
  · skip
    repeat' (first
      | ((with_reducible apply r_call); exact rfl; exact rfl; exact awake14_con; exact rfl; exact rfl)
      | ((with_reducible apply aw_seq))
      | ((with_reducible apply aw_region))
      | ((with_reducible apply thn_normal))
      | ((with_reducible apply thn_ret))
      | ((with_reducible apply aw_ret))
      | ((with_reducible apply ao_nil))
      | ((with_reducible apply r_move); exact rfl; exact rfl)
      | ((with_reducible apply r_assign); exact rfl; exact rfl)
      | ((with_reducible apply r_field_p); exact rfl; exact rfl)
      | ((with_reducible apply r_load_p); exact rfl; exact rfl; exact rfl; exact rfl)
      | ((with_reducible apply r_gtr); exact rfl; exact rfl; exact rfl)
      | ((with_reducible apply r_box_a); exact rfl; exact rfl)
      | ((with_reducible apply r_pick_t); exact rfl; exact rfl; exact rfl)
      | ((with_reducible apply r_pick_f); exact rfl; exact rfl; exact rfl)
      | ((with_reducible apply r_len_f); exact rfl; exact inferInstance; exact rfl)
      | (((with_reducible apply r_guard); exact rfl; exact rfl; exact rfl; exact rfl) <;> intro hg <;> (first | (exact absurd hg (by decide)) | ((try simp only [decide_eq_true_eq, decide_eq_false_iff_not, Bool.not_eq_true', Bool.not_eq_false', Bool.not_true, Bool.not_false, Bool.not_not, Int.not_lt, Int.not_le, Nat.not_lt, Nat.not_le, gt_iff_lt, ge_iff_le, List.cons.injEq, and_true] at hg); first | (exact absurd trivial hg) | (exfalso; omega) | (have hT : True := hg; clear hT hg) | skip)))
      | (((with_reducible apply aw_cond); exact rfl) <;> intro hg <;> (first | (exact absurd hg (by decide)) | ((try simp only [decide_eq_true_eq, decide_eq_false_iff_not, Bool.not_eq_true', Bool.not_eq_false', Bool.not_true, Bool.not_false, Bool.not_not, Int.not_lt, Int.not_le, Nat.not_lt, Nat.not_le, gt_iff_lt, ge_iff_le, List.cons.injEq, and_true] at hg); first | (exact absurd trivial hg) | (exfalso; omega) | (have hT : True := hg; clear hT hg) | skip)))
      )
    all_goals exact ret_b rfl rfl
  obtain ⟨c1, c2⟩ := h
  generalize diaS (meetSec s t) = dm at *
  generalize diaS t = dt at *
  generalize diaS s = d at *
  generalize areaS s = ar at *
  have f1 : 0 ≤ 355 * d * d ∧ 355 * d * d ≤ 480670 * 1354 := mul_bd2 ⟨by omega, by omega⟩ b1
  have f2 : 0 ≤ 355 * (d + 1) * (d + 1) ∧ 355 * (d + 1) * (d + 1) ≤ 481025 * 1355 := mul_bd2 ⟨by omega, by omega⟩ ⟨by omega, by omega⟩
  have g1 : fits (355 * d * d) := by unfold fits; omega
  have g2 : fits (355 * (d + 1) * (d + 1)) := by unfold fits; omega
  repeat' (first
    | ((with_reducible apply r_call); exact rfl; exact rfl; (first | exact h1 | exact h2 | exact h3 | exact h4 | exact h5 | exact awake14_con); exact rfl; exact rfl)
    | ((with_reducible apply aw_seq))
    | ((with_reducible apply aw_region))
    | ((with_reducible apply thn_normal))
    | ((with_reducible apply aw_skip))
    | ((with_reducible apply aw_ret))
    | ((with_reducible apply ao_nil))
    | ((with_reducible apply r_move); exact rfl; exact rfl)
    | ((with_reducible apply r_assign); exact rfl; exact rfl)
    | ((with_reducible apply r_field_p); exact rfl; exact rfl)
    | ((with_reducible apply r_load_p); exact rfl; exact rfl; exact rfl; exact rfl)
    | ((with_reducible apply r_load_pa); exact rfl; exact rfl; exact rfl; exact rfl; exact rfl)
    | ((with_reducible apply r_lss); exact rfl; exact rfl; exact rfl)
    | ((with_reducible apply r_leq); exact rfl; exact rfl; exact rfl)
    | ((with_reducible apply r_gtr); exact rfl; exact rfl; exact rfl)
    | ((with_reducible apply r_add); exact rfl; exact rfl; exact (by first | assumption | (unfold fits; omega)); exact rfl)
    | ((with_reducible apply r_mul); exact rfl; exact rfl; exact (by first | assumption | (unfold fits; omega)); exact rfl)
    | ((with_reducible apply r_box_a); exact rfl; exact rfl)
    | ((with_reducible apply r_pick_t); exact rfl; exact rfl; exact rfl)
    | ((with_reducible apply r_pick_f); exact rfl; exact rfl; exact rfl)
    | ((with_reducible apply r_len_f); exact rfl; exact inferInstance; exact rfl)
    | (((with_reducible apply r_guard); exact rfl; exact rfl; exact rfl; exact rfl) <;> intro hg <;> (first | (exact absurd hg (by decide)) | ((try simp only [decide_eq_true_eq, decide_eq_false_iff_not, Bool.not_eq_true', Bool.not_eq_false', Bool.not_true, Bool.not_false, Bool.not_not, Int.not_lt, Int.not_le, Nat.not_lt, Nat.not_le, gt_iff_lt, ge_iff_le, List.cons.injEq, and_true] at hg); first | (exact absurd trivial hg) | (exfalso; omega) | (have hT : True := hg; clear hT hg) | skip)))
    | (((with_reducible apply aw_cond); exact rfl) <;> intro hg <;> (first | (exact absurd hg (by decide)) | ((try simp only [decide_eq_true_eq, decide_eq_false_iff_not, Bool.not_eq_true', Bool.not_eq_false', Bool.not_true, Bool.not_false, Bool.not_not, Int.not_lt, Int.not_le, Nat.not_lt, Nat.not_le, gt_iff_lt, ge_iff_le, List.cons.injEq, and_true] at hg); first | (exact absurd trivial hg) | (exfalso; omega) | (have hT : True := hg; clear hT hg) | skip)))
    )
  all_goals first | exact ret_b rfl rfl | trace_state
end Go.Proofs.Ytanlfjboahfanaa.Ge
