/- Walks of the laws on measures: ShapeMoves. -/
import Derived.Test.YtanlfjboahfanaaHE
import Derived.Test.YtanlfjboahfanaaHH
import Derived.Test.YtanlfjboahfanaaHI
namespace Go.Proofs.Ytanlfjboahfanaa.Ge
set_option linter.unusedVariables false
set_option linter.unusedSimpArgs false
open Go.RowKit Go.Proofs.Ytanlfjboahfanaa.Ev
variable {gl : List (Nat × List CV)}

theorem flip_cen {s : Sec} (v : SecV s) : cenX (flipV s) = cenX s ∧ cenY (flipV s) = -cenY s ∧ ovalS (flipV s) = ovalS s := by
  unfold cenX cenY ovalS bdS
  rw [valS_of v, valS_of (flipV_V v), flip_bd v]
  unfold mirS; dsimp only
  exact ⟨rfl, by omega, by omega⟩
theorem sh_meas {s : Sec} (v : SecV s) {d k : Int} (h0 : 0 < s.rows.length) (h : secChk (shV s d k) = 0) : cenX (shV s d k) = cenX s + 2 * d ∧ cenY (shV s d k) = cenY s + 20 * k ∧ ovalS (shV s d k) = ovalS s ∧ diaS (shV s d k) = diaS s := by
  have e : diaS (shV s d k) = diaS s := by unfold diaS areaS; rw [valS_of v, valS_ok h, sh_area]
  unfold cenX cenY ovalS bdS
  rw [valS_of v, valS_ok h, sh_bd v h0]
  dsimp only
  exact ⟨by omega, by omega, by omega, e⟩
set_option maxRecDepth 100000 in
set_option maxHeartbeats 16000000 in
theorem moves_law (s : Sec) (_ : s.rows.length ≤ maxLen) (d : Int) (hd : fits d) (k : Int) (hk : fits k) : Con Try.prog gl 9 [secC s, I d, I k] T := by
  have hc := check_con (gl := gl) s
  refine con_of Try.func9 rfl (by kernel_rfl) rfl ?_
  simp only [Try.ntmps9, Try.results9, argEnv, ofC, of1, List.map]
  by_cases h : s.rows.length ≤ 130 ∧ -1200 ≤ d ∧ d ≤ 1200 ∧ -120 ≤ k ∧ k ≤ 120 ∧ secChk s = 0 ∧ ¬ s.rows.length = 0
  rotate_left
  · skip
    repeat' (first
      | ((with_reducible apply r_call); exact rfl; exact rfl; (first | exact hc | exact awake14_con); exact rfl; exact rfl)
      | ((with_reducible apply aw_seq))
      | ((with_reducible apply aw_region))
      | ((with_reducible apply aw_block))
      | ((with_reducible apply thn_normal))
      | ((with_reducible apply thn_ret))
      | ((with_reducible apply thn_exit))
      | ((with_reducible apply inb_normal))
      | ((with_reducible apply inb_ret))
      | ((with_reducible apply inb_exit))
      | ((with_reducible apply inb_other); exact rfl)
      | ((with_reducible apply aw_skip))
      | ((with_reducible apply aw_exit))
      | ((with_reducible apply aw_ret))
      | ((with_reducible apply ao_nil))
      | ((with_reducible apply r_move); exact rfl; exact rfl)
      | ((with_reducible apply r_assign); exact rfl; exact rfl)
      | ((with_reducible apply r_field_p); exact rfl; exact rfl)
      | ((with_reducible apply r_load_p); exact rfl; exact rfl; exact rfl; exact rfl)
      | ((with_reducible apply r_load_pa); exact rfl; exact rfl; exact rfl; exact rfl; exact rfl)
      | ((with_reducible apply r_lss); exact rfl; exact rfl; exact rfl)
      | ((with_reducible apply r_leq); exact rfl; exact rfl; exact rfl)
      | ((with_reducible apply r_gtr); exact rfl; exact rfl; exact rfl)
      | ((with_reducible apply r_geq); exact rfl; exact rfl; exact rfl)
      | ((with_reducible apply r_eql); exact rfl; exact rfl; exact rfl)
      | ((with_reducible apply r_neq); exact rfl; exact rfl; exact rfl)
      | ((with_reducible apply r_add); exact rfl; exact rfl; exact (by first | assumption | (unfold fits; omega)); exact rfl)
      | ((with_reducible apply r_sub); exact rfl; exact rfl; exact (by first | assumption | (unfold fits; omega)); exact rfl)
      | ((with_reducible apply r_mul); exact rfl; exact rfl; exact (by first | assumption | (unfold fits; omega)); exact rfl)
      | ((with_reducible apply r_max); exact rfl; exact rfl; exact rfl)
      | ((with_reducible apply r_min); exact rfl; exact rfl; exact rfl)
      | ((with_reducible apply r_box_a); exact rfl; exact rfl)
      | ((with_reducible apply r_box); exact rfl; exact rfl; exact rfl)
      | ((with_reducible apply r_pick_t); exact rfl; exact rfl; exact rfl)
      | ((with_reducible apply r_pick_f); exact rfl; exact rfl; exact rfl)
      | ((with_reducible apply r_not); exact rfl; exact rfl)
      | ((with_reducible apply r_len_f); exact rfl; exact inferInstance; exact rfl)
      | ((with_reducible apply r_len_nil); exact rfl; exact rfl)
      | ((with_reducible apply r_index_f); exact rfl; exact inferInstance; exact rfl; exact rfl; (first | assumption | omega); exact rfl)
      | ((with_reducible apply r_index_f); exact rfl; exact inferInstance; exact rfl; exact (Int.toNat_of_nonneg (by omega)).symm; (first | assumption | omega); exact rfl)
      | ((with_reducible apply r_load_f0); exact rfl; exact inferInstance; exact List.getElem?_eq_getElem (by first | assumption | omega); exact rfl; exact rfl)
      | ((with_reducible apply r_load_f); exact rfl; exact inferInstance; exact List.getElem?_eq_getElem (by first | assumption | omega); exact rfl; exact rfl; exact rfl)
      | ((with_reducible apply r_load_fa0); exact rfl; exact inferInstance; exact List.getElem?_eq_getElem (by first | assumption | omega); exact rfl; exact rfl; exact rfl)
      | ((with_reducible apply r_load_fa); exact rfl; exact inferInstance; exact List.getElem?_eq_getElem (by first | assumption | omega); exact rfl; exact rfl; exact rfl)
      | ((with_reducible apply r_index_vf); exact rfl; exact rfl; exact inferInstance; (first | exact rfl | assumption | omega); exact rfl; exact rfl; (first | assumption | omega); exact rfl)
      | ((with_reducible apply r_index_vf); exact rfl; exact rfl; exact inferInstance; (first | exact rfl | assumption | omega); exact rfl; exact (Int.toNat_of_nonneg (by omega)).symm; (first | assumption | omega); exact rfl)
      | ((with_reducible apply r_load_vf0); exact rfl; exact rfl; exact inferInstance; (first | exact rfl | assumption | omega); exact List.getElem?_eq_getElem (by first | assumption | omega); exact rfl; exact rfl)
      | ((with_reducible apply r_load_vf); exact rfl; exact rfl; exact inferInstance; (first | exact rfl | assumption | omega); exact List.getElem?_eq_getElem (by first | assumption | omega); exact rfl; exact rfl; exact rfl)
      | ((with_reducible apply r_load_vfa0); exact rfl; exact rfl; exact inferInstance; (first | exact rfl | assumption | omega); exact List.getElem?_eq_getElem (by first | assumption | omega); exact rfl; exact rfl; exact rfl)
      | ((with_reducible apply r_load_vfa); exact rfl; exact rfl; exact inferInstance; (first | exact rfl | assumption | omega); exact List.getElem?_eq_getElem (by first | assumption | omega); exact rfl; exact rfl; exact rfl)
      | ((with_reducible apply r_field_vf); exact rfl; exact rfl; exact inferInstance; (first | exact rfl | assumption | omega); exact rfl)
      | ((with_reducible apply r_len_v); exact rfl; exact rfl; (first | (exact flat_len EncL.len _) | (rw [flat_len EncL.len]; first | assumption | omega | (congr 1; omega))); exact rfl)
      | ((with_reducible apply r_field_e); exact rfl; exact rfl)
      | ((with_reducible apply r_store_p); exact rfl; exact rfl; exact rfl; exact rfl; exact rfl; exact rfl)
      | ((with_reducible apply r_store_pa); exact rfl; exact rfl; exact rfl; exact rfl; exact rfl; exact rfl)
      | ((with_reducible apply r_build); exact rfl; exact rfl; exact rfl)
      | ((with_reducible apply r_extract); exact rfl; exact rfl; exact rfl)
      | ((with_reducible apply r_alloc); exact rfl)
      | ((with_reducible apply r_fieldv_s); exact rfl; exact rfl; exact rfl)
      | ((with_reducible apply r_fieldv_a); exact rfl; exact rfl; exact rfl)
      | (((with_reducible apply r_guard); exact rfl; exact rfl; exact rfl; exact rfl) <;> intro hg <;> (first | (exact absurd hg (by decide)) | ((try simp only [decide_eq_true_eq, decide_eq_false_iff_not, Bool.not_eq_true', Bool.not_eq_false', Bool.not_true, Bool.not_false, Bool.not_not, Int.not_lt, Int.not_le, Nat.not_lt, Nat.not_le, gt_iff_lt, ge_iff_le, List.cons.injEq, and_true] at hg); first | (exact absurd trivial hg) | (exfalso; omega) | (have hT : True := hg; clear hT hg) | skip)))
      | ((with_reducible apply r_guard_none); exact rfl; exact rfl; exact rfl; exact rfl)
      | (((with_reducible apply aw_cond); exact rfl) <;> intro hg <;> (first | (exact absurd hg (by decide)) | ((try simp only [decide_eq_true_eq, decide_eq_false_iff_not, Bool.not_eq_true', Bool.not_eq_false', Bool.not_true, Bool.not_false, Bool.not_not, Int.not_lt, Int.not_le, Nat.not_lt, Nat.not_le, gt_iff_lt, ge_iff_le, List.cons.injEq, and_true] at hg); first | (exact absurd trivial hg) | (exfalso; omega) | (have hT : True := hg; clear hT hg) | skip)))
      | (refine aw_drawq ?_ ?_; (kernel_rfl))
      | ((with_reducible apply ds_nil))
      | (((with_reducible apply rd_guard); exact rfl; exact rfl; exact rfl) <;> intro hg <;> (first | (exact absurd hg (by decide)) | ((try rw [hg]); (try simp only [decide_eq_true_eq, decide_eq_false_iff_not, Bool.not_eq_true', Bool.not_eq_false', Bool.not_true, Bool.not_false, Bool.not_not, Int.not_lt, Int.not_le, Nat.not_lt, Nat.not_le, gt_iff_lt, ge_iff_le, List.cons.injEq, and_true] at hg); first | (exact absurd trivial hg) | (exfalso; omega) | (have hT : True := hg; clear hT hg) | skip)))
      | ((with_reducible apply rd_guard_n); exact rfl; exact rfl; exact rfl)
      | ((with_reducible apply r_eqs); exact rfl; exact rfl; exact rfl; exact rfl; exact rfl; exact rfl; exact rfl)
      | ((with_reducible apply r_neqs); exact rfl; exact rfl; exact rfl; exact rfl; exact rfl; exact rfl; exact rfl)
      | ((with_reducible apply r_lit); exact rfl; exact rfl; exact rfl; exact rfl; exact rfl; exact rfl; exact rfl)
      | ((with_reducible apply r_litq); exact rfl; exact rfl; exact rfl; exact rfl; exact rfl; exact rfl; exact rfl)
      | ((with_reducible apply r_lit0); exact rfl)
      | ((with_reducible apply r_max3); exact rfl; exact rfl; exact rfl; exact rfl)
      | ((with_reducible apply r_pick); exact rfl; exact rfl; exact rfl; exact rfl)
      | ((with_reducible apply r_neg); exact rfl; exact (by first | assumption | (unfold fits; omega)); exact rfl)
      )
    all_goals exact ret_b rfl rfl
  obtain ⟨g1, g2, g3, g4, g5, g6, g7⟩ := h
  have v := chk_is g6
  have h0 : 0 < s.rows.length := by omega
  have hm : Con Try.prog gl 30 [secC s] (secC (mirV s)) := by have := mirror_con (gl := gl) s; unfold mirSec at this; rw [valS_of v] at this; exact this
  have hf : Con Try.prog gl 31 [secC s] (secC (flipV s)) := by have := flip_con (gl := gl) s; unfold flipSec at this; rw [valS_of v] at this; exact this
  have c0 := cen_con (gl := gl) s
  have cm := cen_con (gl := gl) (mirV s)
  have cf := cen_con (gl := gl) (flipV s)
  rw [(mir_cen v).1, (mir_cen v).2] at cm
  rw [(flip_cen v).1, (flip_cen v).2.1] at cf
  have d0 := dia_con (gl := gl) s
  have dm := dia_con (gl := gl) (mirV s)
  rw [mir_dia v] at dm
  have o0 := oval_con (gl := gl) s
  have of' := oval_con (gl := gl) (flipV s)
  rw [(flip_cen v).2.2] at of'
  have hs := shift_con (gl := gl) s d k hd hk
  have es : shiftS s d k = valS (shV s d k) := by unfold shiftS; rw [valS_of v, if_neg (by omega)]
  rw [es] at hs
  have cb := cen_bd s
  by_cases hok : secChk (shV s d k) = 0
  · rw [valS_ok hok] at hs
    obtain ⟨e1, e2, e3, e4⟩ := sh_meas v h0 hok
    have hcs := check_con (gl := gl) (shV s d k)
    rw [hok] at hcs
    have cs := cen_con (gl := gl) (shV s d k)
    rw [e1, e2] at cs
    have ds := dia_con (gl := gl) (shV s d k)
    rw [e4] at ds
    have os := oval_con (gl := gl) (shV s d k)
    rw [e3] at os
    have hl : (shV s d k).rows.length = s.rows.length := by simp [shV]
    repeat' (first
      | (refine aw_drawS [2, 3] [0, 1, 2, 3] 4 ?_ rfl ?_; (decide +kernel); (simp only [pk, List.drop_succ_cons, List.drop_zero, List.map_cons, List.map_nil, List.cons_append, List.nil_append]))
      | ((with_reducible apply ds_nilS))
      | ((with_reducible apply d3_nil); (decide +kernel))
      | (first | (refine d3_step [4] (by decide +kernel) rfl ?_) | (refine d3_step [5] (by decide +kernel) rfl ?_) | (refine d3_step [6] (by decide +kernel) rfl ?_) | (refine d3_step [7] (by decide +kernel) rfl ?_) | (refine d3_step [4, 5] (by decide +kernel) rfl ?_) | (refine d3_step [4, 6] (by decide +kernel) rfl ?_) | (refine d3_step [4, 7] (by decide +kernel) rfl ?_) | (refine d3_step [5, 6] (by decide +kernel) rfl ?_) | (refine d3_step [5, 7] (by decide +kernel) rfl ?_) | (refine d3_step [6, 7] (by decide +kernel) rfl ?_) | (refine d3_step [4, 5, 6] (by decide +kernel) rfl ?_) | (refine d3_step [4, 5, 7] (by decide +kernel) rfl ?_) | (refine d3_step [4, 6, 7] (by decide +kernel) rfl ?_) | (refine d3_step [5, 6, 7] (by decide +kernel) rfl ?_))
      | ((with_reducible refine List.forall_mem_cons.2 ⟨?_, ?_⟩))
      | ((with_reducible exact d3_none))
      | ((with_reducible apply d3_a); exact rfl; exact inferInstance; exact rfl)
      | ((with_reducible apply d3_pa); exact rfl; exact inferInstance; exact rfl; exact rfl; exact rfl; exact rfl; exact rfl; exact rfl; exact rfl; exact rfl)
      | ((with_reducible apply d3_p); exact rfl; exact inferInstance; exact rfl; exact rfl; exact rfl; exact rfl; exact rfl; exact rfl; exact rfl; exact rfl)
      | ((with_reducible apply r_call); exact rfl; exact rfl; (first | exact hc | exact hm | exact hf | exact c0 | exact cm | exact cf | exact d0 | exact dm | exact o0 | exact of' | exact hs | exact hcs | exact cs | exact ds | exact os | exact awake14_con); exact rfl; exact rfl)
      | ((with_reducible apply aw_seq))
      | ((with_reducible apply aw_region))
      | ((with_reducible apply aw_block))
      | ((with_reducible apply thn_normal))
      | ((with_reducible apply thn_ret))
      | ((with_reducible apply thn_exit))
      | ((with_reducible apply inb_normal))
      | ((with_reducible apply inb_ret))
      | ((with_reducible apply inb_exit))
      | ((with_reducible apply inb_other); exact rfl)
      | ((with_reducible apply aw_skip))
      | ((with_reducible apply aw_exit))
      | ((with_reducible apply aw_ret))
      | ((with_reducible apply ao_nil))
      | ((with_reducible apply r_move); exact rfl; exact rfl)
      | ((with_reducible apply r_assign); exact rfl; exact rfl)
      | ((with_reducible apply r_field_p); exact rfl; exact rfl)
      | ((with_reducible apply r_load_p); exact rfl; exact rfl; exact rfl; exact rfl)
      | ((with_reducible apply r_load_pa); exact rfl; exact rfl; exact rfl; exact rfl; exact rfl)
      | ((with_reducible apply r_lss); exact rfl; exact rfl; exact rfl)
      | ((with_reducible apply r_leq); exact rfl; exact rfl; exact rfl)
      | ((with_reducible apply r_gtr); exact rfl; exact rfl; exact rfl)
      | ((with_reducible apply r_geq); exact rfl; exact rfl; exact rfl)
      | ((with_reducible apply r_eql); exact rfl; exact rfl; exact rfl)
      | ((with_reducible apply r_neq); exact rfl; exact rfl; exact rfl)
      | ((with_reducible apply r_add); exact rfl; exact rfl; exact (by first | assumption | (unfold fits; omega)); exact rfl)
      | ((with_reducible apply r_sub); exact rfl; exact rfl; exact (by first | assumption | (unfold fits; omega)); exact rfl)
      | ((with_reducible apply r_mul); exact rfl; exact rfl; exact (by first | assumption | (unfold fits; omega)); exact rfl)
      | ((with_reducible apply r_max); exact rfl; exact rfl; exact rfl)
      | ((with_reducible apply r_min); exact rfl; exact rfl; exact rfl)
      | ((with_reducible apply r_box_a); exact rfl; exact rfl)
      | ((with_reducible apply r_box); exact rfl; exact rfl; exact rfl)
      | ((with_reducible apply r_pick_t); exact rfl; exact rfl; exact rfl)
      | ((with_reducible apply r_pick_f); exact rfl; exact rfl; exact rfl)
      | ((with_reducible apply r_not); exact rfl; exact rfl)
      | ((with_reducible apply r_len_f); exact rfl; exact inferInstance; exact rfl)
      | ((with_reducible apply r_len_nil); exact rfl; exact rfl)
      | ((with_reducible apply r_index_f); exact rfl; exact inferInstance; exact rfl; exact rfl; (first | assumption | omega); exact rfl)
      | ((with_reducible apply r_index_f); exact rfl; exact inferInstance; exact rfl; exact (Int.toNat_of_nonneg (by omega)).symm; (first | assumption | omega); exact rfl)
      | ((with_reducible apply r_load_f0); exact rfl; exact inferInstance; exact List.getElem?_eq_getElem (by first | assumption | omega); exact rfl; exact rfl)
      | ((with_reducible apply r_load_f); exact rfl; exact inferInstance; exact List.getElem?_eq_getElem (by first | assumption | omega); exact rfl; exact rfl; exact rfl)
      | ((with_reducible apply r_load_fa0); exact rfl; exact inferInstance; exact List.getElem?_eq_getElem (by first | assumption | omega); exact rfl; exact rfl; exact rfl)
      | ((with_reducible apply r_load_fa); exact rfl; exact inferInstance; exact List.getElem?_eq_getElem (by first | assumption | omega); exact rfl; exact rfl; exact rfl)
      | ((with_reducible apply r_index_vf); exact rfl; exact rfl; exact inferInstance; (first | exact rfl | assumption | omega); exact rfl; exact rfl; (first | assumption | omega); exact rfl)
      | ((with_reducible apply r_index_vf); exact rfl; exact rfl; exact inferInstance; (first | exact rfl | assumption | omega); exact rfl; exact (Int.toNat_of_nonneg (by omega)).symm; (first | assumption | omega); exact rfl)
      | ((with_reducible apply r_load_vf0); exact rfl; exact rfl; exact inferInstance; (first | exact rfl | assumption | omega); exact List.getElem?_eq_getElem (by first | assumption | omega); exact rfl; exact rfl)
      | ((with_reducible apply r_load_vf); exact rfl; exact rfl; exact inferInstance; (first | exact rfl | assumption | omega); exact List.getElem?_eq_getElem (by first | assumption | omega); exact rfl; exact rfl; exact rfl)
      | ((with_reducible apply r_load_vfa0); exact rfl; exact rfl; exact inferInstance; (first | exact rfl | assumption | omega); exact List.getElem?_eq_getElem (by first | assumption | omega); exact rfl; exact rfl; exact rfl)
      | ((with_reducible apply r_load_vfa); exact rfl; exact rfl; exact inferInstance; (first | exact rfl | assumption | omega); exact List.getElem?_eq_getElem (by first | assumption | omega); exact rfl; exact rfl; exact rfl)
      | ((with_reducible apply r_field_vf); exact rfl; exact rfl; exact inferInstance; (first | exact rfl | assumption | omega); exact rfl)
      | ((with_reducible apply r_len_v); exact rfl; exact rfl; (first | (exact flat_len EncL.len _) | (rw [flat_len EncL.len]; first | assumption | omega | (congr 1; omega))); exact rfl)
      | ((with_reducible apply r_field_e); exact rfl; exact rfl)
      | ((with_reducible apply r_store_p); exact rfl; exact rfl; exact rfl; exact rfl; exact rfl; exact rfl)
      | ((with_reducible apply r_store_pa); exact rfl; exact rfl; exact rfl; exact rfl; exact rfl; exact rfl)
      | ((with_reducible apply r_build); exact rfl; exact rfl; exact rfl)
      | ((with_reducible apply r_extract); exact rfl; exact rfl; exact rfl)
      | ((with_reducible apply r_alloc); exact rfl)
      | ((with_reducible apply r_fieldv_s); exact rfl; exact rfl; exact rfl)
      | ((with_reducible apply r_fieldv_a); exact rfl; exact rfl; exact rfl)
      | (((with_reducible apply r_guard); exact rfl; exact rfl; exact rfl; exact rfl) <;> intro hg <;> (first | (exact absurd hg (by decide)) | ((try simp only [decide_eq_true_eq, decide_eq_false_iff_not, Bool.not_eq_true', Bool.not_eq_false', Bool.not_true, Bool.not_false, Bool.not_not, Int.not_lt, Int.not_le, Nat.not_lt, Nat.not_le, gt_iff_lt, ge_iff_le, List.cons.injEq, and_true] at hg); first | (exact absurd trivial hg) | (exfalso; omega) | (have hT : True := hg; clear hT hg) | skip)))
      | ((with_reducible apply r_guard_none); exact rfl; exact rfl; exact rfl; exact rfl)
      | (((with_reducible apply aw_cond); exact rfl) <;> intro hg <;> (first | (exact absurd hg (by decide)) | ((try simp only [decide_eq_true_eq, decide_eq_false_iff_not, Bool.not_eq_true', Bool.not_eq_false', Bool.not_true, Bool.not_false, Bool.not_not, Int.not_lt, Int.not_le, Nat.not_lt, Nat.not_le, gt_iff_lt, ge_iff_le, List.cons.injEq, and_true] at hg); first | (exact absurd trivial hg) | (exfalso; omega) | (have hT : True := hg; clear hT hg) | skip)))
      | (refine aw_drawq ?_ ?_; (kernel_rfl))
      | ((with_reducible apply ds_nil))
      | (((with_reducible apply rd_guard); exact rfl; exact rfl; exact rfl) <;> intro hg <;> (first | (exact absurd hg (by decide)) | ((try rw [hg]); (try simp only [decide_eq_true_eq, decide_eq_false_iff_not, Bool.not_eq_true', Bool.not_eq_false', Bool.not_true, Bool.not_false, Bool.not_not, Int.not_lt, Int.not_le, Nat.not_lt, Nat.not_le, gt_iff_lt, ge_iff_le, List.cons.injEq, and_true] at hg); first | (exact absurd trivial hg) | (exfalso; omega) | (have hT : True := hg; clear hT hg) | skip)))
      | ((with_reducible apply rd_guard_n); exact rfl; exact rfl; exact rfl)
      | ((with_reducible apply r_eqs); exact rfl; exact rfl; exact rfl; exact rfl; exact rfl; exact rfl; exact rfl)
      | ((with_reducible apply r_neqs); exact rfl; exact rfl; exact rfl; exact rfl; exact rfl; exact rfl; exact rfl)
      | ((with_reducible apply r_lit); exact rfl; exact rfl; exact rfl; exact rfl; exact rfl; exact rfl; exact rfl)
      | ((with_reducible apply r_litq); exact rfl; exact rfl; exact rfl; exact rfl; exact rfl; exact rfl; exact rfl)
      | ((with_reducible apply r_lit0); exact rfl)
      | ((with_reducible apply r_max3); exact rfl; exact rfl; exact rfl; exact rfl)
      | ((with_reducible apply r_pick); exact rfl; exact rfl; exact rfl; exact rfl)
      | ((with_reducible apply r_neg); exact rfl; exact (by first | assumption | (unfold fits; omega)); exact rfl)
      )
    all_goals first | exact ret_b rfl rfl | exact ret_b rfl (by simp) | trace_state
  · rw [valS_no hok] at hs
    have hcs := check_con (gl := gl) sec0
    rw [chk_of sec0_V] at hcs
    repeat' (first
      | (refine aw_drawS [2, 3] [0, 1, 2, 3] 4 ?_ rfl ?_; (decide +kernel); (simp only [pk, List.drop_succ_cons, List.drop_zero, List.map_cons, List.map_nil, List.cons_append, List.nil_append]))
      | ((with_reducible apply ds_nilS))
      | ((with_reducible apply d3_nil); (decide +kernel))
      | (first | (refine d3_step [4] (by decide +kernel) rfl ?_) | (refine d3_step [5] (by decide +kernel) rfl ?_) | (refine d3_step [6] (by decide +kernel) rfl ?_) | (refine d3_step [7] (by decide +kernel) rfl ?_) | (refine d3_step [4, 5] (by decide +kernel) rfl ?_) | (refine d3_step [4, 6] (by decide +kernel) rfl ?_) | (refine d3_step [4, 7] (by decide +kernel) rfl ?_) | (refine d3_step [5, 6] (by decide +kernel) rfl ?_) | (refine d3_step [5, 7] (by decide +kernel) rfl ?_) | (refine d3_step [6, 7] (by decide +kernel) rfl ?_) | (refine d3_step [4, 5, 6] (by decide +kernel) rfl ?_) | (refine d3_step [4, 5, 7] (by decide +kernel) rfl ?_) | (refine d3_step [4, 6, 7] (by decide +kernel) rfl ?_) | (refine d3_step [5, 6, 7] (by decide +kernel) rfl ?_))
      | ((with_reducible refine List.forall_mem_cons.2 ⟨?_, ?_⟩))
      | ((with_reducible exact d3_none))
      | ((with_reducible apply d3_a); exact rfl; exact inferInstance; exact rfl)
      | ((with_reducible apply d3_pa); exact rfl; exact inferInstance; exact rfl; exact rfl; exact rfl; exact rfl; exact rfl; exact rfl; exact rfl; exact rfl)
      | ((with_reducible apply d3_p); exact rfl; exact inferInstance; exact rfl; exact rfl; exact rfl; exact rfl; exact rfl; exact rfl; exact rfl; exact rfl)
      | ((with_reducible apply r_call); exact rfl; exact rfl; (first | exact hc | exact hm | exact hf | exact c0 | exact cm | exact cf | exact d0 | exact dm | exact o0 | exact of' | exact hs | exact hcs | exact awake14_con); exact rfl; exact rfl)
      | ((with_reducible apply aw_seq))
      | ((with_reducible apply aw_region))
      | ((with_reducible apply aw_block))
      | ((with_reducible apply thn_normal))
      | ((with_reducible apply thn_ret))
      | ((with_reducible apply thn_exit))
      | ((with_reducible apply inb_normal))
      | ((with_reducible apply inb_ret))
      | ((with_reducible apply inb_exit))
      | ((with_reducible apply inb_other); exact rfl)
      | ((with_reducible apply aw_skip))
      | ((with_reducible apply aw_exit))
      | ((with_reducible apply aw_ret))
      | ((with_reducible apply ao_nil))
      | ((with_reducible apply r_move); exact rfl; exact rfl)
      | ((with_reducible apply r_assign); exact rfl; exact rfl)
      | ((with_reducible apply r_field_p); exact rfl; exact rfl)
      | ((with_reducible apply r_load_p); exact rfl; exact rfl; exact rfl; exact rfl)
      | ((with_reducible apply r_load_pa); exact rfl; exact rfl; exact rfl; exact rfl; exact rfl)
      | ((with_reducible apply r_lss); exact rfl; exact rfl; exact rfl)
      | ((with_reducible apply r_leq); exact rfl; exact rfl; exact rfl)
      | ((with_reducible apply r_gtr); exact rfl; exact rfl; exact rfl)
      | ((with_reducible apply r_geq); exact rfl; exact rfl; exact rfl)
      | ((with_reducible apply r_eql); exact rfl; exact rfl; exact rfl)
      | ((with_reducible apply r_neq); exact rfl; exact rfl; exact rfl)
      | ((with_reducible apply r_add); exact rfl; exact rfl; exact (by first | assumption | (unfold fits; omega)); exact rfl)
      | ((with_reducible apply r_sub); exact rfl; exact rfl; exact (by first | assumption | (unfold fits; omega)); exact rfl)
      | ((with_reducible apply r_mul); exact rfl; exact rfl; exact (by first | assumption | (unfold fits; omega)); exact rfl)
      | ((with_reducible apply r_max); exact rfl; exact rfl; exact rfl)
      | ((with_reducible apply r_min); exact rfl; exact rfl; exact rfl)
      | ((with_reducible apply r_box_a); exact rfl; exact rfl)
      | ((with_reducible apply r_box); exact rfl; exact rfl; exact rfl)
      | ((with_reducible apply r_pick_t); exact rfl; exact rfl; exact rfl)
      | ((with_reducible apply r_pick_f); exact rfl; exact rfl; exact rfl)
      | ((with_reducible apply r_not); exact rfl; exact rfl)
      | ((with_reducible apply r_len_f); exact rfl; exact inferInstance; exact rfl)
      | ((with_reducible apply r_len_nil); exact rfl; exact rfl)
      | ((with_reducible apply r_index_f); exact rfl; exact inferInstance; exact rfl; exact rfl; (first | assumption | omega); exact rfl)
      | ((with_reducible apply r_index_f); exact rfl; exact inferInstance; exact rfl; exact (Int.toNat_of_nonneg (by omega)).symm; (first | assumption | omega); exact rfl)
      | ((with_reducible apply r_load_f0); exact rfl; exact inferInstance; exact List.getElem?_eq_getElem (by first | assumption | omega); exact rfl; exact rfl)
      | ((with_reducible apply r_load_f); exact rfl; exact inferInstance; exact List.getElem?_eq_getElem (by first | assumption | omega); exact rfl; exact rfl; exact rfl)
      | ((with_reducible apply r_load_fa0); exact rfl; exact inferInstance; exact List.getElem?_eq_getElem (by first | assumption | omega); exact rfl; exact rfl; exact rfl)
      | ((with_reducible apply r_load_fa); exact rfl; exact inferInstance; exact List.getElem?_eq_getElem (by first | assumption | omega); exact rfl; exact rfl; exact rfl)
      | ((with_reducible apply r_index_vf); exact rfl; exact rfl; exact inferInstance; (first | exact rfl | assumption | omega); exact rfl; exact rfl; (first | assumption | omega); exact rfl)
      | ((with_reducible apply r_index_vf); exact rfl; exact rfl; exact inferInstance; (first | exact rfl | assumption | omega); exact rfl; exact (Int.toNat_of_nonneg (by omega)).symm; (first | assumption | omega); exact rfl)
      | ((with_reducible apply r_load_vf0); exact rfl; exact rfl; exact inferInstance; (first | exact rfl | assumption | omega); exact List.getElem?_eq_getElem (by first | assumption | omega); exact rfl; exact rfl)
      | ((with_reducible apply r_load_vf); exact rfl; exact rfl; exact inferInstance; (first | exact rfl | assumption | omega); exact List.getElem?_eq_getElem (by first | assumption | omega); exact rfl; exact rfl; exact rfl)
      | ((with_reducible apply r_load_vfa0); exact rfl; exact rfl; exact inferInstance; (first | exact rfl | assumption | omega); exact List.getElem?_eq_getElem (by first | assumption | omega); exact rfl; exact rfl; exact rfl)
      | ((with_reducible apply r_load_vfa); exact rfl; exact rfl; exact inferInstance; (first | exact rfl | assumption | omega); exact List.getElem?_eq_getElem (by first | assumption | omega); exact rfl; exact rfl; exact rfl)
      | ((with_reducible apply r_field_vf); exact rfl; exact rfl; exact inferInstance; (first | exact rfl | assumption | omega); exact rfl)
      | ((with_reducible apply r_len_v); exact rfl; exact rfl; (first | (exact flat_len EncL.len _) | (rw [flat_len EncL.len]; first | assumption | omega | (congr 1; omega))); exact rfl)
      | ((with_reducible apply r_field_e); exact rfl; exact rfl)
      | ((with_reducible apply r_store_p); exact rfl; exact rfl; exact rfl; exact rfl; exact rfl; exact rfl)
      | ((with_reducible apply r_store_pa); exact rfl; exact rfl; exact rfl; exact rfl; exact rfl; exact rfl)
      | ((with_reducible apply r_build); exact rfl; exact rfl; exact rfl)
      | ((with_reducible apply r_extract); exact rfl; exact rfl; exact rfl)
      | ((with_reducible apply r_alloc); exact rfl)
      | ((with_reducible apply r_fieldv_s); exact rfl; exact rfl; exact rfl)
      | ((with_reducible apply r_fieldv_a); exact rfl; exact rfl; exact rfl)
      | (((with_reducible apply r_guard); exact rfl; exact rfl; exact rfl; exact rfl) <;> intro hg <;> (first | (exact absurd hg (by decide)) | ((try simp only [decide_eq_true_eq, decide_eq_false_iff_not, Bool.not_eq_true', Bool.not_eq_false', Bool.not_true, Bool.not_false, Bool.not_not, Int.not_lt, Int.not_le, Nat.not_lt, Nat.not_le, gt_iff_lt, ge_iff_le, List.cons.injEq, and_true] at hg); first | (exact absurd trivial hg) | (exfalso; omega) | (have hT : True := hg; clear hT hg) | skip)))
      | ((with_reducible apply r_guard_none); exact rfl; exact rfl; exact rfl; exact rfl)
      | (((with_reducible apply aw_cond); exact rfl) <;> intro hg <;> (first | (exact absurd hg (by decide)) | ((try simp only [decide_eq_true_eq, decide_eq_false_iff_not, Bool.not_eq_true', Bool.not_eq_false', Bool.not_true, Bool.not_false, Bool.not_not, Int.not_lt, Int.not_le, Nat.not_lt, Nat.not_le, gt_iff_lt, ge_iff_le, List.cons.injEq, and_true] at hg); first | (exact absurd trivial hg) | (exfalso; omega) | (have hT : True := hg; clear hT hg) | skip)))
      | (refine aw_drawq ?_ ?_; (kernel_rfl))
      | ((with_reducible apply ds_nil))
      | (((with_reducible apply rd_guard); exact rfl; exact rfl; exact rfl) <;> intro hg <;> (first | (exact absurd hg (by decide)) | ((try rw [hg]); (try simp only [decide_eq_true_eq, decide_eq_false_iff_not, Bool.not_eq_true', Bool.not_eq_false', Bool.not_true, Bool.not_false, Bool.not_not, Int.not_lt, Int.not_le, Nat.not_lt, Nat.not_le, gt_iff_lt, ge_iff_le, List.cons.injEq, and_true] at hg); first | (exact absurd trivial hg) | (exfalso; omega) | (have hT : True := hg; clear hT hg) | skip)))
      | ((with_reducible apply rd_guard_n); exact rfl; exact rfl; exact rfl)
      | ((with_reducible apply r_eqs); exact rfl; exact rfl; exact rfl; exact rfl; exact rfl; exact rfl; exact rfl)
      | ((with_reducible apply r_neqs); exact rfl; exact rfl; exact rfl; exact rfl; exact rfl; exact rfl; exact rfl)
      | ((with_reducible apply r_lit); exact rfl; exact rfl; exact rfl; exact rfl; exact rfl; exact rfl; exact rfl)
      | ((with_reducible apply r_litq); exact rfl; exact rfl; exact rfl; exact rfl; exact rfl; exact rfl; exact rfl)
      | ((with_reducible apply r_lit0); exact rfl)
      | ((with_reducible apply r_max3); exact rfl; exact rfl; exact rfl; exact rfl)
      | ((with_reducible apply r_pick); exact rfl; exact rfl; exact rfl; exact rfl)
      | ((with_reducible apply r_neg); exact rfl; exact (by first | assumption | (unfold fits; omega)); exact rfl)
      )
    all_goals first | exact ret_b rfl rfl | exact ret_b rfl (by simp) | trace_state
end Go.Proofs.Ytanlfjboahfanaa.Ge
