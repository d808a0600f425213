/- GD GE GF GS HA: texts laid together. -/
import Derived.Test.YtkhljpbkebnnmaaGreatDoorMrgG2
import Derived.Laws.Bits64b
set_option maxRecDepth 100000
/- Walks of geometry: solids: Within, At, Cut in both. -/
namespace Go.Proofs.YtkhljpbkebnnmaaGreatDoor.Ge
set_option linter.unusedVariables false
set_option linter.unusedSimpArgs false
open Go.RowKit Go.Proofs.YtkhljpbkebnnmaaGreatDoor.Ev
variable {gl : List (Nat × List CV)}
theorem cloneS_con (l : List Span) (hn : l.length ≤ 100000) : Con Tryz.prog gl 101 [LS l] (LS l) := by
  refine con_of Tryz.func101 rfl (by kernel_rfl) rfl ?_
  simp only [Tryz.ntmps101, Tryz.results101, argEnv, ofC, of1, List.map]
  repeat' (first
 | ((with_reducible apply r_eqnil); exact rfl; exact rfl; exact rfl; intro nb hnb)
 | ((with_reducible apply (r_appendl (enc := spC) (l := []) (l2 := l))); exact rfl; exact rfl; exact inferInstance; exact rfl; exact rfl; exact (by omega); exact (by omega); exact rfl)
 | ((with_reducible apply aw_seq))
 | ((with_reducible apply aw_region))
 | ((with_reducible apply thn_normal))
 | ((with_reducible apply thn_ret))
 | ((with_reducible apply aw_skip))
 | ((with_reducible apply aw_ret))
 | ((with_reducible apply ao_nil))
 | ((with_reducible apply r_move); exact rfl; exact rfl)
 | ((with_reducible apply r_assign); exact rfl; exact rfl)
 | (((with_reducible apply aw_cond); exact rfl) <;> intro hg <;> (first | (exact absurd hg (by decide)) | ((try simp only [decide_eq_true_eq, decide_eq_false_iff_not, Bool.not_eq_true', Bool.not_eq_false', Bool.not_true, Bool.not_false, Bool.not_not, Int.not_lt, Int.not_le, Nat.not_lt, Nat.not_le, gt_iff_lt, ge_iff_le, List.cons.injEq, and_true] at hg); first | (exact absurd trivial hg) | (exfalso; omega) | (have hT : True := hg; clear hT hg) | skip)))
 | ((with_reducible apply r_lit0); exact rfl)
 )
  · have : l = [] := by
      cases l with
      | nil => rfl
      | cons a l => have := hnb (by simp [spC]); subst this; cases hg
    subst this
    exact ret1 (.tmp rfl cl_none)
  · exact ret1 (.tmp rfl (cl_vec rfl (by rw [flat_len EncL.len]; simp)))
theorem clone_con (s : Sec) (hn : s.rows.length ≤ 100000) : Con Tryz.prog gl 79 [secC s] (secC s) := by
  have h := cloneS_con (gl := gl) s.rows hn
  refine con_of Tryz.func79 rfl (by kernel_rfl) rfl ?_
  simp only [Tryz.ntmps79, Tryz.results79, argEnv, ofC, of1, List.map]
  repeat' (first
 | (refine aw_drawt 6 ?_ ?_; (kernel_rfl); (simp only [List.take_succ_cons, List.take_zero, List.drop_succ_cons, List.drop_zero]))
 | ((with_reducible apply r_call); exact rfl; exact rfl; exact h; exact rfl; exact rfl)
 | ((with_reducible apply aw_seq))
 | ((with_reducible apply aw_region))
 | ((with_reducible apply thn_normal))
 | ((with_reducible apply aw_ret))
 | ((with_reducible apply ao_nil))
 | ((with_reducible apply r_field_p); exact rfl; exact rfl)
 | ((with_reducible apply r_load_p); exact rfl; exact rfl; exact rfl; exact rfl)
 | ((with_reducible apply r_box_a); exact rfl; exact rfl)
 | ((with_reducible apply r_store_pa); exact rfl; exact rfl; exact rfl; exact rfl; exact rfl; exact rfl)
 | ((with_reducible apply r_build); exact rfl; exact rfl; exact rfl)
 | ((with_reducible apply r_alloc); exact rfl)
 | ((with_reducible apply ds_nil))
 )
  exact ret1 (.cell_a inferInstance rfl rfl rfl rfl (cl_cons cl_c (cl_cons cl_c cl_nil)))
def ovZ (l : List Slc) (Z : Span) (i : Nat) : Int := ov (pos l i, pos l i + lenD l i) Z
theorem ovZ_bd {l : List Slc} (v : SolV l) {i : Nat} (hi : i < l.length) (Z : Span) : 0 ≤ ovZ l Z i ∧ ovZ l Z i ≤ l[i].len := by
  have := v.one i hi
  unfold ovZ ov; dsimp only; rw [lenD_eq hi]; omega
theorem ext_meet {l : List Slc} (v : SolV l) {j : Nat} (hj : j < l.length) (Z : Span) : Con Tryz.prog gl 77 [spV (meetS (pos l j, pos l j + lenD l j) Z)] (I (ovZ l Z j)) := by
  have h1 := pos_bd v (j := j) (by omega)
  have h2 := pos_bd v (j := j + 1) (by omega)
  have h3 := v.one j hj
  rw [pos_succ] at h2
  rw [← lenD_eq hj] at h3
  exact len_meet (by dsimp only; omega)
theorem part_con (a b c d : Int) (h : 0 ≤ c ∧ 0 ≤ d ∧ c + d ≤ 20000 ∧ fits a) : Con Tryz.prog gl 109 [.agg [I a, I b], I c, I d] (I (ov (c, c + d) (a, b))) := by
  have h' := h.2.2.2
  unfold fits at h'
  refine con_of Tryz.func109 rfl (by kernel_rfl) rfl ?_
  simp only [Tryz.ntmps109, Tryz.results109, argEnv, ofC, of1, List.map]
  by_cases h2 : max a c < min b (c + d)
  · skip
    repeat' (first
 | ((with_reducible apply aw_seq))
 | ((with_reducible apply aw_region))
 | ((with_reducible apply thn_normal))
 | ((with_reducible apply aw_skip))
 | ((with_reducible apply aw_ret))
 | ((with_reducible apply ao_nil))
 | ((with_reducible apply r_move); exact rfl; exact rfl)
 | ((with_reducible apply r_assign); exact rfl; exact rfl)
 | ((with_reducible apply r_field_p); exact rfl; exact rfl)
 | ((with_reducible apply r_load_p); exact rfl; exact rfl; exact rfl; exact rfl)
 | ((with_reducible apply r_geq); exact rfl; exact rfl; exact rfl)
 | ((with_reducible apply r_add); exact rfl; exact rfl; exact (by first | assumption | (unfold fits; omega)); exact rfl)
 | ((with_reducible apply r_sub); exact rfl; exact rfl; exact (by first | assumption | (unfold fits; omega)); exact rfl)
 | ((with_reducible apply r_max); exact rfl; exact rfl; exact rfl)
 | ((with_reducible apply r_min); exact rfl; exact rfl; exact rfl)
 | ((with_reducible apply r_box_a); exact rfl; exact rfl)
 | (((with_reducible apply aw_cond); exact rfl) <;> intro hg <;> (first | (exact absurd hg (by decide)) | ((try simp only [decide_eq_true_eq, decide_eq_false_iff_not, Bool.not_eq_true', Bool.not_eq_false', Bool.not_true, Bool.not_false, Bool.not_not, Int.not_lt, Int.not_le, Nat.not_lt, Nat.not_le, gt_iff_lt, ge_iff_le, List.cons.injEq, and_true] at hg); first | (exact absurd trivial hg) | (exfalso; omega) | (have hT : True := hg; clear hT hg) | skip)))
 | (refine aw_drawq ?_ ?_; (kernel_rfl))
 | ((with_reducible apply ds_nil))
 )
    exact ret_i rfl (by unfold ov; dsimp only; omega)
  · skip
    repeat' (first
 | ((with_reducible apply aw_seq))
 | ((with_reducible apply aw_region))
 | ((with_reducible apply thn_normal))
 | ((with_reducible apply thn_ret))
 | ((with_reducible apply aw_ret))
 | ((with_reducible apply ao_nil))
 | ((with_reducible apply r_move); exact rfl; exact rfl)
 | ((with_reducible apply r_assign); exact rfl; exact rfl)
 | ((with_reducible apply r_field_p); exact rfl; exact rfl)
 | ((with_reducible apply r_load_p); exact rfl; exact rfl; exact rfl; exact rfl)
 | ((with_reducible apply r_geq); exact rfl; exact rfl; exact rfl)
 | ((with_reducible apply r_add); exact rfl; exact rfl; exact (by first | assumption | (unfold fits; omega)); exact rfl)
 | ((with_reducible apply r_max); exact rfl; exact rfl; exact rfl)
 | ((with_reducible apply r_min); exact rfl; exact rfl; exact rfl)
 | ((with_reducible apply r_box_a); exact rfl; exact rfl)
 | (((with_reducible apply aw_cond); exact rfl) <;> intro hg <;> (first | (exact absurd hg (by decide)) | ((try simp only [decide_eq_true_eq, decide_eq_false_iff_not, Bool.not_eq_true', Bool.not_eq_false', Bool.not_true, Bool.not_false, Bool.not_not, Int.not_lt, Int.not_le, Nat.not_lt, Nat.not_le, gt_iff_lt, ge_iff_le, List.cons.injEq, and_true] at hg); first | (exact absurd trivial hg) | (exfalso; omega) | (have hT : True := hg; clear hT hg) | skip)))
 | (refine aw_drawq ?_ ?_; (kernel_rfl))
 | ((with_reducible apply ds_nil))
 )
    exact ret_i rfl (by unfold ov; dsimp only; omega)
theorem clip_ov {l : List Slc} (v : SolV l) {j : Nat} (hj : j < l.length) (Z : Span) : ov (pos l j, pos l j + lenD l j) (max Z.1 0, min Z.2 20000) = ovZ l Z j := by
  have h1 := pos_bd v (j := j) (by omega)
  have h2 := pos_bd v (j := j + 1) (by omega)
  rw [pos_succ] at h2
  unfold ovZ ov; dsimp only; omega
def cutN (l : List Slc) (Z : Span) : Nat → List Slc
  | 0 => []
  | j + 1 => if 0 < ovZ l Z j then cutN l Z j ++ [⟨ovZ l Z j, secD l j⟩] else cutN l Z j
def cutV (l : List Slc) (Z : Span) : List Slc := cutN l Z l.length
noncomputable def cutS (l : List Slc) (Z : Span) : List Slc := cutV (valL l) Z
theorem cutN_len (l : List Slc) (Z : Span) : ∀ j, (cutN l Z j).length ≤ j
  | 0 => Nat.le_refl _
  | j + 1 => by
    have := cutN_len l Z j
    unfold cutN; split
    · simp; omega
    · omega
theorem cutN_yes {l : List Slc} {Z : Span} {j : Nat} (h : 0 < ovZ l Z j) : cutN l Z j ++ [⟨ovZ l Z j, secD l j⟩] = cutN l Z (j + 1) := by
  show _ = if 0 < ovZ l Z j then cutN l Z j ++ [⟨ovZ l Z j, secD l j⟩] else cutN l Z j
  rw [if_pos h]
theorem cutN_no {l : List Slc} {Z : Span} {j : Nat} (h : ¬ 0 < ovZ l Z j) : cutN l Z j = cutN l Z (j + 1) := by
  show _ = if 0 < ovZ l Z j then cutN l Z j ++ [⟨ovZ l Z j, secD l j⟩] else cutN l Z j
  rw [if_neg h]
set_option maxHeartbeats 4000000 in
theorem scut_con (l : List Slc) (hn : l.length ≤ maxLen) (Z : Span) : Con Tryz.prog gl 46 [LL l, spV Z] (LL (cutS l Z)) := by
  have hv := svalid_con (gl := gl) l hn
  have v := valL_V l
  unfold cutS cutV
  generalize valL l = u at *
  have hu := v.n
  have he := extents_con (gl := gl) u v
  have hel := extL_len u
  refine con_of Tryz.func46 rfl (by kernel_rfl) rfl ?_
  simp only [Tryz.ntmps46, Tryz.results46, argEnv, ofC, of1, List.map]
  repeat' (first
 | ((with_reducible apply r_call); exact rfl; exact rfl; (first | exact hv | exact he); exact rfl; exact rfl)
 | ((with_reducible apply aw_seq))
 | ((with_reducible apply aw_region))
 | ((with_reducible apply aw_block))
 | ((with_reducible apply thn_normal))
 | ((with_reducible apply ao_nil))
 | ((with_reducible apply r_move); exact rfl; exact rfl)
 | ((with_reducible apply r_assign); exact rfl; exact rfl)
 | ((with_reducible apply r_box_a); exact rfl; exact rfl)
 | ((with_reducible apply r_len_f); exact rfl; exact inferInstance; exact rfl)
 )
  refine aw_nilvec 5 70 3 rfl rfl ?_
  refine aw_loopG (G := Nat × Nat) (fun ((j, k) : Nat × Nat) => j ≤ u.length ∧ (cutN u Z j).length = k) (fun ((j, k) : Nat × Nat) => u.length - j) (fun ((j, k) : Nat × Nat) => [(0, .c (LL u)), (3, .ptr 0 0), (5, .vec 1 k), (12, .c (LS (extL u))), (13, A (extL u).length), (14, A j)]) (fun ((j, k) : Nat × Nat) => [(0, some (.cells 68 [A Z.1, A Z.2])), (1, some (.vec 70 3 ((cutN u Z j).flatMap slcC)))]) 2 (0, 0) ?_ (by refine weak_mk rfl ?_ ?_ <;> repeat (first | exact envW_nil | exact heapW_nil | refine envW_cons rfl rfl ?_ | refine heapW_cons rfl rfl rfl ?_)) rfl ?_
  · exact ⟨Nat.zero_le _, rfl⟩
  rintro ⟨j, k⟩ hI
  try dsimp only at hI
  try dsimp only
  obtain ⟨hj, hk⟩ := hI
  have hcl := cutN_len u Z j
  by_cases hjl : j < u.length
  · have hg0 := extL_get u j (by omega)
    have h1 := meet_con (gl := gl) ((extL u)[j]'(by omega)).1 ((extL u)[j]'(by omega)).2 Z.1 Z.2
    have h2 := ext_meet (gl := gl) v hjl Z
    rw [← hg0] at h2
    have h3 := clone_con (gl := gl) u[j].sec (by have := (chk_is (v.chk j hjl)).len; omega)
    have hsd := secD_eq hjl
    by_cases hpo : 0 < ovZ u Z j
    · skip
      repeat' (first
 | ((with_reducible apply r_call); exact rfl; exact rfl; (first | exact h1 | exact h2 | exact h3); exact rfl; exact rfl)
 | ((with_reducible apply (r_push (enc := slcC) (l := cutN u Z j) (x0 := (⟨ovZ u Z j, u[j].sec⟩ : Slc)))); exact rfl; exact rfl; exact inferInstance; exact hk; exact rfl; exact rfl; exact rfl; exact (by omega); exact (by omega); exact rfl)
 | ((with_reducible apply aw_seq))
 | ((with_reducible apply aw_region))
 | ((with_reducible apply aw_block))
 | ((with_reducible apply thn_normal))
 | ((with_reducible apply inb_normal))
 | ((with_reducible apply aw_skip))
 | ((with_reducible apply ao_nil))
 | ((with_reducible apply r_move); exact rfl; exact rfl)
 | ((with_reducible apply r_assign); exact rfl; exact rfl)
 | ((with_reducible apply r_load_pa); exact rfl; exact rfl; exact rfl; exact rfl; exact rfl)
 | ((with_reducible apply r_lss); exact rfl; exact rfl; exact rfl)
 | ((with_reducible apply r_gtr); exact rfl; exact rfl; exact rfl)
 | ((with_reducible apply r_add); exact rfl; exact rfl; exact (by first | assumption | (unfold fits; omega)); exact rfl)
 | ((with_reducible apply r_index_f); exact rfl; exact inferInstance; exact rfl; exact rfl; (first | assumption | omega); exact rfl)
 | ((with_reducible apply r_load_fa0); exact rfl; exact inferInstance; exact List.getElem?_eq_getElem (by first | assumption | omega); exact rfl; exact rfl; exact rfl)
 | ((with_reducible apply r_load_fa); exact rfl; exact inferInstance; exact List.getElem?_eq_getElem (by first | assumption | omega); exact rfl; exact rfl; exact rfl)
 | ((with_reducible apply r_field_e); exact rfl; exact rfl)
 | ((with_reducible apply r_store_pa); exact rfl; exact rfl; exact rfl; exact rfl; exact rfl; exact rfl)
 | ((with_reducible apply r_build); exact rfl; exact rfl; exact rfl)
 | ((with_reducible apply r_alloc); exact rfl)
 | (((with_reducible apply aw_cond); exact rfl) <;> intro hg <;> (first | (exact absurd hg (by decide)) | ((try simp only [decide_eq_true_eq, decide_eq_false_iff_not, Bool.not_eq_true', Bool.not_eq_false', Bool.not_true, Bool.not_false, Bool.not_not, Int.not_lt, Int.not_le, Nat.not_lt, Nat.not_le, gt_iff_lt, ge_iff_le, List.cons.injEq, and_true] at hg); first | (exact absurd trivial hg) | (exfalso; omega) | (have hT : True := hg; clear hT hg) | skip)))
 | ((with_reducible apply r_lit); exact rfl; exact rfl; exact rfl; exact rfl; exact rfl; exact rfl; exact rfl)
 )
      rw [← hsd, cutN_yes hpo]
      refine ⟨(j + 1, k + 1), ?_, ?_, by refine weak_mk rfl ?_ ?_ <;> repeat (first | exact envW_nil | exact heapW_nil | refine envW_cons rfl rfl ?_ | refine heapW_cons rfl rfl rfl ?_)⟩
      · show _ - (j + 1) < _ - j; omega
      · exact ⟨by show j + 1 ≤ _; omega, by show (cutN u Z (j + 1)).length = k + 1; rw [← cutN_yes hpo]; simp [hk]⟩
    · skip
      repeat' (first
 | ((with_reducible apply r_call); exact rfl; exact rfl; (first | exact h1 | exact h2 | exact h3); exact rfl; exact rfl)
 | ((with_reducible apply aw_seq))
 | ((with_reducible apply aw_region))
 | ((with_reducible apply aw_block))
 | ((with_reducible apply thn_normal))
 | ((with_reducible apply inb_normal))
 | ((with_reducible apply aw_skip))
 | ((with_reducible apply ao_nil))
 | ((with_reducible apply r_move); exact rfl; exact rfl)
 | ((with_reducible apply r_assign); exact rfl; exact rfl)
 | ((with_reducible apply r_load_pa); exact rfl; exact rfl; exact rfl; exact rfl; exact rfl)
 | ((with_reducible apply r_lss); exact rfl; exact rfl; exact rfl)
 | ((with_reducible apply r_gtr); exact rfl; exact rfl; exact rfl)
 | ((with_reducible apply r_add); exact rfl; exact rfl; exact (by first | assumption | (unfold fits; omega)); exact rfl)
 | ((with_reducible apply r_index_f); exact rfl; exact inferInstance; exact rfl; exact rfl; (first | assumption | omega); exact rfl)
 | ((with_reducible apply r_load_fa0); exact rfl; exact inferInstance; exact List.getElem?_eq_getElem (by first | assumption | omega); exact rfl; exact rfl; exact rfl)
 | ((with_reducible apply r_store_pa); exact rfl; exact rfl; exact rfl; exact rfl; exact rfl; exact rfl)
 | ((with_reducible apply r_alloc); exact rfl)
 | (((with_reducible apply aw_cond); exact rfl) <;> intro hg <;> (first | (exact absurd hg (by decide)) | ((try simp only [decide_eq_true_eq, decide_eq_false_iff_not, Bool.not_eq_true', Bool.not_eq_false', Bool.not_true, Bool.not_false, Bool.not_not, Int.not_lt, Int.not_le, Nat.not_lt, Nat.not_le, gt_iff_lt, ge_iff_le, List.cons.injEq, and_true] at hg); first | (exact absurd trivial hg) | (exfalso; omega) | (have hT : True := hg; clear hT hg) | skip)))
 )
      rw [cutN_no hpo]
      refine ⟨(j + 1, k), ?_, ?_, by refine weak_mk rfl ?_ ?_ <;> repeat (first | exact envW_nil | exact heapW_nil | refine envW_cons rfl rfl ?_ | refine heapW_cons rfl rfl rfl ?_)⟩
      · show _ - (j + 1) < _ - j; omega
      · exact ⟨by show j + 1 ≤ _; omega, by show (cutN u Z (j + 1)).length = k; rw [← cutN_no hpo]; exact hk⟩
  · obtain rfl : j = u.length := by omega
    repeat' (first
 | ((with_reducible apply aw_seq))
 | ((with_reducible apply aw_region))
 | ((with_reducible apply thn_normal))
 | ((with_reducible apply thn_exit))
 | ((with_reducible apply inb_exit))
 | ((with_reducible apply aw_exit))
 | ((with_reducible apply aw_ret))
 | ((with_reducible apply ao_nil))
 | ((with_reducible apply r_move); exact rfl; exact rfl)
 | ((with_reducible apply r_assign); exact rfl; exact rfl)
 | ((with_reducible apply r_lss); exact rfl; exact rfl; exact rfl)
 | (((with_reducible apply aw_cond); exact rfl) <;> intro hg <;> (first | (exact absurd hg (by decide)) | ((try simp only [decide_eq_true_eq, decide_eq_false_iff_not, Bool.not_eq_true', Bool.not_eq_false', Bool.not_true, Bool.not_false, Bool.not_not, Int.not_lt, Int.not_le, Nat.not_lt, Nat.not_le, gt_iff_lt, ge_iff_le, List.cons.injEq, and_true] at hg); first | (exact absurd trivial hg) | (exfalso; omega) | (have hT : True := hg; clear hT hg) | skip)))
 )
    exact ret1 (.tmp rfl (cl_vec rfl (by rw [flat_len EncL.len, hk])))
set_option maxHeartbeats 4000000 in
theorem rscut_con (l : List Slc) (hn : l.length ≤ maxLen) (Z : Span) (hZ : fits Z.1 ∧ fits Z.2) : Con Tryz.prog gl 84 [LL l, spV Z] (LL (cutS l Z)) := by
  have hc := rscheck_con (gl := gl) l hn
  refine con_of Tryz.func84 rfl (by kernel_rfl) rfl ?_
  simp only [Tryz.ntmps84, Tryz.results84, argEnv, ofC, of1, List.map]
  by_cases h : solChk l = 0
  rotate_left
  · have e : cutS l Z = [] := by unfold cutS; rw [valL_no h]; rfl
    rw [e]
    repeat' (first
 | ((with_reducible apply r_call); exact rfl; exact rfl; exact hc; exact rfl; exact rfl)
 | ((with_reducible apply aw_seq))
 | ((with_reducible apply aw_region))
 | ((with_reducible apply thn_normal))
 | ((with_reducible apply thn_ret))
 | ((with_reducible apply aw_ret))
 | ((with_reducible apply ao_nil))
 | ((with_reducible apply r_move); exact rfl; exact rfl)
 | ((with_reducible apply r_assign); exact rfl; exact rfl)
 | ((with_reducible apply r_neq); exact rfl; exact rfl; exact rfl)
 | ((with_reducible apply r_box_a); exact rfl; exact rfl)
 | (((with_reducible apply aw_cond); exact rfl) <;> intro hg <;> (first | (exact absurd hg (by decide)) | ((try simp only [decide_eq_true_eq, decide_eq_false_iff_not, Bool.not_eq_true', Bool.not_eq_false', Bool.not_true, Bool.not_false, Bool.not_not, Int.not_lt, Int.not_le, Nat.not_lt, Nat.not_le, gt_iff_lt, ge_iff_le, List.cons.injEq, and_true] at hg); first | (exact absurd trivial hg) | (exfalso; omega) | (have hT : True := hg; clear hT hg) | skip)))
 )
    exact ret1 (.tmp rfl cl_none)
  unfold cutS cutV
  rw [valL_ok h]
  have v := sol_V h
  have hu := v.n
  have hZ' := hZ
  unfold fits at hZ'
  repeat' (first
 | ((with_reducible apply r_call); exact rfl; exact rfl; exact hc; exact rfl; exact rfl)
 | ((with_reducible apply aw_seq))
 | ((with_reducible apply aw_region))
 | ((with_reducible apply aw_block))
 | ((with_reducible apply thn_normal))
 | ((with_reducible apply aw_skip))
 | ((with_reducible apply ao_nil))
 | ((with_reducible apply r_move); exact rfl; exact rfl)
 | ((with_reducible apply r_assign); exact rfl; exact rfl)
 | ((with_reducible apply r_field_p); exact rfl; exact rfl)
 | ((with_reducible apply r_load_p); exact rfl; exact rfl; exact rfl; exact rfl)
 | ((with_reducible apply r_neq); exact rfl; exact rfl; exact rfl)
 | ((with_reducible apply r_max); exact rfl; exact rfl; exact rfl)
 | ((with_reducible apply r_min); exact rfl; exact rfl; exact rfl)
 | ((with_reducible apply r_box_a); exact rfl; exact rfl)
 | ((with_reducible apply r_store_pa); exact rfl; exact rfl; exact rfl; exact rfl; exact rfl; exact rfl)
 | ((with_reducible apply r_build); exact rfl; exact rfl; exact rfl)
 | (((with_reducible apply aw_cond); exact rfl) <;> intro hg <;> (first | (exact absurd hg (by decide)) | ((try simp only [decide_eq_true_eq, decide_eq_false_iff_not, Bool.not_eq_true', Bool.not_eq_false', Bool.not_true, Bool.not_false, Bool.not_not, Int.not_lt, Int.not_le, Nat.not_lt, Nat.not_le, gt_iff_lt, ge_iff_le, List.cons.injEq, and_true] at hg); first | (exact absurd trivial hg) | (exfalso; omega) | (have hT : True := hg; clear hT hg) | skip)))
 )
  refine aw_nilvec 5 70 3 rfl rfl ?_
  refine aw_loopG (G := Nat × Nat × Int) (fun ((j, k, p) : Nat × Nat × Int) => j ≤ l.length ∧ (cutN l Z j).length = k ∧ p = pos l j) (fun ((j, k, p) : Nat × Nat × Int) => l.length - j) (fun ((j, k, p) : Nat × Nat × Int) => [(0, .c (LL l)), (3, .ptr 0 0), (5, .vec 1 k), (6, A p), (7, A j)]) (fun ((j, k, p) : Nat × Nat × Int) => [(0, some (.cells 68 [A (max Z.1 0), A (min Z.2 20000)])), (1, some (.vec 70 3 ((cutN l Z j).flatMap slcC)))]) 2 (0, 0, 0) ?_ (by refine weak_mk rfl ?_ ?_ <;> repeat (first | exact envW_nil | exact heapW_nil | refine envW_cons rfl rfl ?_ | refine heapW_cons rfl rfl rfl ?_)) rfl ?_
  · exact ⟨Nat.zero_le _, rfl, rfl⟩
  rintro ⟨j, k, p⟩ hI
  try dsimp only at hI
  try dsimp only
  obtain ⟨hj, hk, hp⟩ := hI
  have hcl := cutN_len l Z j
  by_cases hjl : j < l.length
  · have hp1 := pos_bd v (j := j) (by omega)
    have hp2 := pos_bd v (j := j + 1) (by omega)
    rw [pos_succ, lenD_eq hjl] at hp2
    have h1 := part_con (gl := gl) (max Z.1 0) (min Z.2 20000) p l[j].len (by have := v.one j hjl; unfold fits; omega)
    have hco := clip_ov v hjl Z
    rw [← hp, lenD_eq hjl] at hco
    rw [hco] at h1
    have hsd := secD_eq hjl
    have hps : p + l[j].len = pos l (j + 1) := by rw [pos_succ, lenD_eq hjl, hp]
    by_cases hpo : 0 < ovZ l Z j
    · skip
      repeat' (first
 | ((with_reducible apply r_call); exact rfl; exact rfl; exact h1; exact rfl; exact rfl)
 | ((with_reducible apply (r_push (enc := slcC) (l := cutN l Z j) (x0 := (⟨ovZ l Z j, l[j].sec⟩ : Slc)))); exact rfl; exact rfl; exact inferInstance; exact hk; exact rfl; exact rfl; exact rfl; exact (by omega); exact (by omega); exact rfl)
 | ((with_reducible apply aw_seq))
 | ((with_reducible apply aw_region))
 | ((with_reducible apply aw_block))
 | ((with_reducible apply thn_normal))
 | ((with_reducible apply inb_normal))
 | ((with_reducible apply aw_skip))
 | ((with_reducible apply ao_nil))
 | ((with_reducible apply r_move); exact rfl; exact rfl)
 | ((with_reducible apply r_assign); exact rfl; exact rfl)
 | ((with_reducible apply r_load_pa); exact rfl; exact rfl; exact rfl; exact rfl; exact rfl)
 | ((with_reducible apply r_lss); exact rfl; exact rfl; exact rfl)
 | ((with_reducible apply r_gtr); exact rfl; exact rfl; exact rfl)
 | ((with_reducible apply r_add); exact rfl; exact rfl; exact (by first | assumption | (unfold fits; omega)); exact rfl)
 | ((with_reducible apply r_len_f); exact rfl; exact inferInstance; exact rfl)
 | ((with_reducible apply r_index_f); exact rfl; exact inferInstance; exact rfl; exact rfl; (first | assumption | omega); exact rfl)
 | ((with_reducible apply r_load_f0); exact rfl; exact inferInstance; exact List.getElem?_eq_getElem (by first | assumption | omega); exact rfl; exact rfl)
 | ((with_reducible apply r_load_fa); exact rfl; exact inferInstance; exact List.getElem?_eq_getElem (by first | assumption | omega); exact rfl; exact rfl; exact rfl)
 | ((with_reducible apply r_field_e); exact rfl; exact rfl)
 | ((with_reducible apply r_build); exact rfl; exact rfl; exact rfl)
 | (((with_reducible apply aw_cond); exact rfl) <;> intro hg <;> (first | (exact absurd hg (by decide)) | ((try simp only [decide_eq_true_eq, decide_eq_false_iff_not, Bool.not_eq_true', Bool.not_eq_false', Bool.not_true, Bool.not_false, Bool.not_not, Int.not_lt, Int.not_le, Nat.not_lt, Nat.not_le, gt_iff_lt, ge_iff_le, List.cons.injEq, and_true] at hg); first | (exact absurd trivial hg) | (exfalso; omega) | (have hT : True := hg; clear hT hg) | skip)))
 | (refine aw_drawq ?_ ?_; (kernel_rfl))
 | ((with_reducible apply ds_nil))
 | ((with_reducible apply r_lit); exact rfl; exact rfl; exact rfl; exact rfl; exact rfl; exact rfl; exact rfl)
 )
      rw [← hsd, cutN_yes hpo]
      refine ⟨(j + 1, k + 1, p + l[j].len), ?_, ?_, by refine weak_mk rfl ?_ ?_ <;> repeat (first | exact envW_nil | exact heapW_nil | refine envW_cons rfl rfl ?_ | refine heapW_cons rfl rfl rfl ?_)⟩
      · show _ - (j + 1) < _ - j; omega
      · exact ⟨by show j + 1 ≤ _; omega, by show (cutN l Z (j + 1)).length = k + 1; rw [← cutN_yes hpo]; simp [hk], hps⟩
    · skip
      repeat' (first
 | ((with_reducible apply r_call); exact rfl; exact rfl; exact h1; exact rfl; exact rfl)
 | ((with_reducible apply aw_seq))
 | ((with_reducible apply aw_region))
 | ((with_reducible apply aw_block))
 | ((with_reducible apply thn_normal))
 | ((with_reducible apply inb_normal))
 | ((with_reducible apply aw_skip))
 | ((with_reducible apply ao_nil))
 | ((with_reducible apply r_move); exact rfl; exact rfl)
 | ((with_reducible apply r_assign); exact rfl; exact rfl)
 | ((with_reducible apply r_load_pa); exact rfl; exact rfl; exact rfl; exact rfl; exact rfl)
 | ((with_reducible apply r_lss); exact rfl; exact rfl; exact rfl)
 | ((with_reducible apply r_gtr); exact rfl; exact rfl; exact rfl)
 | ((with_reducible apply r_add); exact rfl; exact rfl; exact (by first | assumption | (unfold fits; omega)); exact rfl)
 | ((with_reducible apply r_len_f); exact rfl; exact inferInstance; exact rfl)
 | ((with_reducible apply r_index_f); exact rfl; exact inferInstance; exact rfl; exact rfl; (first | assumption | omega); exact rfl)
 | ((with_reducible apply r_load_f0); exact rfl; exact inferInstance; exact List.getElem?_eq_getElem (by first | assumption | omega); exact rfl; exact rfl)
 | ((with_reducible apply r_field_e); exact rfl; exact rfl)
 | (((with_reducible apply aw_cond); exact rfl) <;> intro hg <;> (first | (exact absurd hg (by decide)) | ((try simp only [decide_eq_true_eq, decide_eq_false_iff_not, Bool.not_eq_true', Bool.not_eq_false', Bool.not_true, Bool.not_false, Bool.not_not, Int.not_lt, Int.not_le, Nat.not_lt, Nat.not_le, gt_iff_lt, ge_iff_le, List.cons.injEq, and_true] at hg); first | (exact absurd trivial hg) | (exfalso; omega) | (have hT : True := hg; clear hT hg) | skip)))
 | (refine aw_drawq ?_ ?_; (kernel_rfl))
 | ((with_reducible apply ds_nil))
 )
      rw [cutN_no hpo]
      refine ⟨(j + 1, k, p + l[j].len), ?_, ?_, by refine weak_mk rfl ?_ ?_ <;> repeat (first | exact envW_nil | exact heapW_nil | refine envW_cons rfl rfl ?_ | refine heapW_cons rfl rfl rfl ?_)⟩
      · show _ - (j + 1) < _ - j; omega
      · exact ⟨by show j + 1 ≤ _; omega, by show (cutN l Z (j + 1)).length = k; rw [← cutN_no hpo]; exact hk, hps⟩
  · obtain rfl : j = l.length := by omega
    repeat' (first
 | ((with_reducible apply aw_seq))
 | ((with_reducible apply aw_region))
 | ((with_reducible apply thn_normal))
 | ((with_reducible apply thn_exit))
 | ((with_reducible apply inb_exit))
 | ((with_reducible apply aw_exit))
 | ((with_reducible apply aw_ret))
 | ((with_reducible apply ao_nil))
 | ((with_reducible apply r_move); exact rfl; exact rfl)
 | ((with_reducible apply r_assign); exact rfl; exact rfl)
 | ((with_reducible apply r_lss); exact rfl; exact rfl; exact rfl)
 | ((with_reducible apply r_len_f); exact rfl; exact inferInstance; exact rfl)
 | (((with_reducible apply aw_cond); exact rfl) <;> intro hg <;> (first | (exact absurd hg (by decide)) | ((try simp only [decide_eq_true_eq, decide_eq_false_iff_not, Bool.not_eq_true', Bool.not_eq_false', Bool.not_true, Bool.not_false, Bool.not_not, Int.not_lt, Int.not_le, Nat.not_lt, Nat.not_le, gt_iff_lt, ge_iff_le, List.cons.injEq, and_true] at hg); first | (exact absurd trivial hg) | (exfalso; omega) | (have hT : True := hg; clear hT hg) | skip)))
 )
    exact ret1 (.tmp rfl (cl_vec rfl (by rw [flat_len EncL.len, hk])))
end Go.Proofs.YtkhljpbkebnnmaaGreatDoor.Ge
/- Walks of geometry: sections: at, Meet; solids: Common. -/
namespace Go.Proofs.YtkhljpbkebnnmaaGreatDoor.Ge
set_option linter.unusedVariables false
set_option linter.unusedSimpArgs false
open Go.RowKit Go.Proofs.YtkhljpbkebnnmaaGreatDoor.Ev
variable {gl : List (Nat × List CV)}
def atR (s : Sec) (r : Int) : Span := if r < s.low ∨ s.low + s.rows.length ≤ r then (0, 0) else rowD s (r - s.low).toNat
end Go.Proofs.YtkhljpbkebnnmaaGreatDoor.Ge
/- Walks of geometry: Common of solids, Bounds in both; what is the same. -/
namespace Go.Proofs.YtkhljpbkebnnmaaGreatDoor.Ge
set_option linter.unusedVariables false
set_option linter.unusedSimpArgs false
open Go.RowKit Go.Proofs.YtkhljpbkebnnmaaGreatDoor.Ev
variable {gl : List (Nat × List CV)}
theorem cutS_len (l : List Slc) (Z : Span) : (cutS l Z).length ≤ 24 := by
  have h1 := cutN_len (valL l) Z (valL l).length
  have h2 := (valL_V l).n
  unfold cutS cutV; omega
abbrev Rect := Span × Span
abbrev rectC (r : Rect) : CV := .agg [I r.1.1, I r.1.2, I r.2.1, I r.2.2]
def joinS (a b : Span) : Span := (min a.1 b.1, max a.2 b.2)
def bxN (s : Sec) : Nat → Span
  | 0 => rowD s 0
  | j + 1 => if emptyS (rowD s j) = true then bxN s j else joinS (bxN s j) (rowD s j)
def bdV (s : Sec) : Rect := if s.rows.length = 0 then ((0, 0), (0, 0)) else (bxN s s.rows.length, (10 * s.low, 10 * (s.low + s.rows.length)))
noncomputable def bdS (s : Sec) : Rect := bdV (valS s)
set_option maxHeartbeats 4000000 in
theorem bounds_con (s : Sec) : Con Tryz.prog gl 127 [secC s] (rectC (bdS s)) := by
  have hv := valid_con (gl := gl) s
  have v := valS_V s
  unfold bdS bdV
  generalize valS s = u at *
  have h1 := v.len
  have h2 := v.low
  have h3 := v.high
  refine con_of Tryz.func127 rfl (by kernel_rfl) rfl ?_
  simp only [Tryz.ntmps127, Tryz.results127, argEnv, ofC, of1, List.map]
  by_cases h0 : u.rows.length = 0
  · rw [if_pos h0]
    repeat' (first
 | ((with_reducible apply r_call); exact rfl; exact rfl; exact hv; exact rfl; exact rfl)
 | ((with_reducible apply aw_seq))
 | ((with_reducible apply aw_region))
 | ((with_reducible apply thn_normal))
 | ((with_reducible apply thn_ret))
 | ((with_reducible apply aw_ret))
 | ((with_reducible apply ao_nil))
 | ((with_reducible apply r_field_p); exact rfl; exact rfl)
 | ((with_reducible apply r_load_p); exact rfl; exact rfl; exact rfl; exact rfl)
 | ((with_reducible apply r_load_pa); exact rfl; exact rfl; exact rfl; exact rfl; exact rfl)
 | ((with_reducible apply r_eql); exact rfl; exact rfl; exact rfl)
 | ((with_reducible apply r_box_a); exact rfl; exact rfl)
 | ((with_reducible apply r_len_f); exact rfl; exact inferInstance; exact rfl)
 | ((with_reducible apply r_store_pa); exact rfl; exact rfl; exact rfl; exact rfl; exact rfl; exact rfl)
 | ((with_reducible apply r_build); exact rfl; exact rfl; exact rfl)
 | ((with_reducible apply r_alloc); exact rfl)
 | (((with_reducible apply aw_cond); exact rfl) <;> intro hg <;> (first | (exact absurd hg (by decide)) | ((try simp only [decide_eq_true_eq, decide_eq_false_iff_not, Bool.not_eq_true', Bool.not_eq_false', Bool.not_true, Bool.not_false, Bool.not_not, Int.not_lt, Int.not_le, Nat.not_lt, Nat.not_le, gt_iff_lt, ge_iff_le, List.cons.injEq, and_true] at hg); first | (exact absurd trivial hg) | (exfalso; omega) | (have hT : True := hg; clear hT hg) | skip)))
 )
    exact ret1 (.cell_a inferInstance rfl rfl rfl rfl (cl_cons cl_c (cl_cons cl_c (cl_cons cl_c (cl_cons cl_c cl_nil)))))
  rw [if_neg h0]
  have hr0 : rowD u 0 = u.rows[0]'(by omega) := rowD_eq (by omega)
  have hh := heights_con (gl := gl) u.low (u.low + u.rows.length) (by omega)
  repeat' (first
 | ((with_reducible apply r_call); exact rfl; exact rfl; exact hv; exact rfl; exact rfl)
 | ((with_reducible apply (r_index_f (k := 0))); exact rfl; exact inferInstance; exact rfl; exact rfl; (omega); exact rfl)
 | ((with_reducible apply aw_seq))
 | ((with_reducible apply aw_region))
 | ((with_reducible apply aw_block))
 | ((with_reducible apply thn_normal))
 | ((with_reducible apply aw_skip))
 | ((with_reducible apply ao_nil))
 | ((with_reducible apply r_move); exact rfl; exact rfl)
 | ((with_reducible apply r_field_p); exact rfl; exact rfl)
 | ((with_reducible apply r_load_p); exact rfl; exact rfl; exact rfl; exact rfl)
 | ((with_reducible apply r_load_pa); exact rfl; exact rfl; exact rfl; exact rfl; exact rfl)
 | ((with_reducible apply r_eql); exact rfl; exact rfl; exact rfl)
 | ((with_reducible apply r_box_a); exact rfl; exact rfl)
 | ((with_reducible apply r_len_f); exact rfl; exact inferInstance; exact rfl)
 | ((with_reducible apply r_load_fa0); exact rfl; exact inferInstance; exact List.getElem?_eq_getElem (by first | assumption | omega); exact rfl; exact rfl; exact rfl)
 | ((with_reducible apply r_store_pa); exact rfl; exact rfl; exact rfl; exact rfl; exact rfl; exact rfl)
 | ((with_reducible apply r_alloc); exact rfl)
 | (((with_reducible apply aw_cond); exact rfl) <;> intro hg <;> (first | (exact absurd hg (by decide)) | ((try simp only [decide_eq_true_eq, decide_eq_false_iff_not, Bool.not_eq_true', Bool.not_eq_false', Bool.not_true, Bool.not_false, Bool.not_not, Int.not_lt, Int.not_le, Nat.not_lt, Nat.not_le, gt_iff_lt, ge_iff_le, List.cons.injEq, and_true] at hg); first | (exact absurd trivial hg) | (exfalso; omega) | (have hT : True := hg; clear hT hg) | skip)))
 )
  refine aw_loopG (G := Nat × Span) (fun ((j, b) : Nat × Span) => j ≤ u.rows.length ∧ b = bxN u j) (fun ((j, b) : Nat × Span) => u.rows.length - j) (fun ((j, b) : Nat × Span) => [(1, .ptr 0 0), (2, .ptr 1 0), (3, .ptr 2 0), (18, .c (LS u.rows)), (19, A u.rows.length), (20, A j)]) (fun ((j, b) : Nat × Span) => [(0, some (secB u)), (1, some (.cells 147 [A 0, A 0, A 0, A 0])), (2, some (.cells 68 [A b.1, A b.2]))]) 3 (0, u.rows[0]'(by omega)) ?_ (by refine weak_mk rfl ?_ ?_ <;> repeat (first | exact envW_nil | exact heapW_nil | refine envW_cons rfl rfl ?_ | refine heapW_cons rfl rfl rfl ?_)) rfl ?_
  · exact ⟨Nat.zero_le _, hr0.symm⟩
  rintro ⟨j, b⟩ hI
  try dsimp only at hI
  try dsimp only
  obtain ⟨hj, hb⟩ := hI
  by_cases hjl : j < u.rows.length
  · have hc := isEmpty_con (gl := gl) u.rows[j].1 u.rows[j].2
    have hrj := rowD_eq hjl
    cases he : emptyS u.rows[j] with
    | true =>
      rw [show emptyS (u.rows[j].1, u.rows[j].2) = true from he] at hc
      repeat' (first
 | ((with_reducible apply r_call); exact rfl; exact rfl; exact hc; exact rfl; exact rfl)
 | ((with_reducible apply aw_seq))
 | ((with_reducible apply aw_region))
 | ((with_reducible apply aw_block))
 | ((with_reducible apply thn_normal))
 | ((with_reducible apply inb_normal))
 | ((with_reducible apply aw_skip))
 | ((with_reducible apply ao_nil))
 | ((with_reducible apply r_move); exact rfl; exact rfl)
 | ((with_reducible apply r_load_pa); exact rfl; exact rfl; exact rfl; exact rfl; exact rfl)
 | ((with_reducible apply r_lss); exact rfl; exact rfl; exact rfl)
 | ((with_reducible apply r_add); exact rfl; exact rfl; exact (by first | assumption | (unfold fits; omega)); exact rfl)
 | ((with_reducible apply r_not); exact rfl; exact rfl)
 | ((with_reducible apply r_index_f); exact rfl; exact inferInstance; exact rfl; exact rfl; (first | assumption | omega); exact rfl)
 | ((with_reducible apply r_load_fa0); exact rfl; exact inferInstance; exact List.getElem?_eq_getElem (by first | assumption | omega); exact rfl; exact rfl; exact rfl)
 | ((with_reducible apply r_store_pa); exact rfl; exact rfl; exact rfl; exact rfl; exact rfl; exact rfl)
 | ((with_reducible apply r_alloc); exact rfl)
 | (((with_reducible apply aw_cond); exact rfl) <;> intro hg <;> (first | (exact absurd hg (by decide)) | ((try simp only [decide_eq_true_eq, decide_eq_false_iff_not, Bool.not_eq_true', Bool.not_eq_false', Bool.not_true, Bool.not_false, Bool.not_not, Int.not_lt, Int.not_le, Nat.not_lt, Nat.not_le, gt_iff_lt, ge_iff_le, List.cons.injEq, and_true] at hg); first | (exact absurd trivial hg) | (exfalso; omega) | (have hT : True := hg; clear hT hg) | skip)))
 )
      refine ⟨(j + 1, b), ?_, ?_, by refine weak_mk rfl ?_ ?_ <;> repeat (first | exact envW_nil | exact heapW_nil | refine envW_cons rfl rfl ?_ | refine heapW_cons rfl rfl rfl ?_)⟩
      · show _ - (j + 1) < _ - j; omega
      · exact ⟨by show j + 1 ≤ _; omega, by show b = if emptyS (rowD u j) = true then bxN u j else _; rw [hrj, if_pos he, hb]⟩
    | false =>
      rw [show emptyS (u.rows[j].1, u.rows[j].2) = false from he] at hc
      repeat' (first
 | ((with_reducible apply r_call); exact rfl; exact rfl; exact hc; exact rfl; exact rfl)
 | ((with_reducible apply aw_seq))
 | ((with_reducible apply aw_region))
 | ((with_reducible apply aw_block))
 | ((with_reducible apply thn_normal))
 | ((with_reducible apply inb_normal))
 | ((with_reducible apply aw_skip))
 | ((with_reducible apply ao_nil))
 | ((with_reducible apply r_move); exact rfl; exact rfl)
 | ((with_reducible apply r_field_p); exact rfl; exact rfl)
 | ((with_reducible apply r_load_p); exact rfl; exact rfl; exact rfl; exact rfl)
 | ((with_reducible apply r_load_pa); exact rfl; exact rfl; exact rfl; exact rfl; exact rfl)
 | ((with_reducible apply r_lss); exact rfl; exact rfl; exact rfl)
 | ((with_reducible apply r_add); exact rfl; exact rfl; exact (by first | assumption | (unfold fits; omega)); exact rfl)
 | ((with_reducible apply r_max); exact rfl; exact rfl; exact rfl)
 | ((with_reducible apply r_min); exact rfl; exact rfl; exact rfl)
 | ((with_reducible apply r_not); exact rfl; exact rfl)
 | ((with_reducible apply r_index_f); exact rfl; exact inferInstance; exact rfl; exact rfl; (first | assumption | omega); exact rfl)
 | ((with_reducible apply r_load_fa0); exact rfl; exact inferInstance; exact List.getElem?_eq_getElem (by first | assumption | omega); exact rfl; exact rfl; exact rfl)
 | ((with_reducible apply r_store_pa); exact rfl; exact rfl; exact rfl; exact rfl; exact rfl; exact rfl)
 | ((with_reducible apply r_build); exact rfl; exact rfl; exact rfl)
 | ((with_reducible apply r_alloc); exact rfl)
 | (((with_reducible apply aw_cond); exact rfl) <;> intro hg <;> (first | (exact absurd hg (by decide)) | ((try simp only [decide_eq_true_eq, decide_eq_false_iff_not, Bool.not_eq_true', Bool.not_eq_false', Bool.not_true, Bool.not_false, Bool.not_not, Int.not_lt, Int.not_le, Nat.not_lt, Nat.not_le, gt_iff_lt, ge_iff_le, List.cons.injEq, and_true] at hg); first | (exact absurd trivial hg) | (exfalso; omega) | (have hT : True := hg; clear hT hg) | skip)))
 )
      refine ⟨(j + 1, joinS b u.rows[j]), ?_, ?_, by refine weak_mk rfl ?_ ?_ <;> repeat (first | exact envW_nil | exact heapW_nil | refine envW_cons rfl rfl ?_ | refine heapW_cons rfl rfl rfl ?_)⟩
      · show _ - (j + 1) < _ - j; omega
      · exact ⟨by show j + 1 ≤ _; omega, by show joinS b u.rows[j] = if emptyS (rowD u j) = true then bxN u j else joinS (bxN u j) (rowD u j); rw [hrj, if_neg (by rw [he]; simp), hb]⟩
  · obtain rfl : j = u.rows.length := by omega
    rw [← hb]
    repeat' (first
 | (refine aw_drawt 11 ?_ ?_; (kernel_rfl); (simp only [List.take_succ_cons, List.take_zero, List.drop_succ_cons, List.drop_zero]))
 | ((with_reducible apply r_call); exact rfl; exact rfl; exact hh; exact rfl; exact rfl)
 | ((with_reducible apply aw_seq))
 | ((with_reducible apply aw_region))
 | ((with_reducible apply thn_normal))
 | ((with_reducible apply thn_exit))
 | ((with_reducible apply inb_exit))
 | ((with_reducible apply aw_exit))
 | ((with_reducible apply aw_ret))
 | ((with_reducible apply ao_nil))
 | ((with_reducible apply r_field_p); exact rfl; exact rfl)
 | ((with_reducible apply r_load_p); exact rfl; exact rfl; exact rfl; exact rfl)
 | ((with_reducible apply r_load_pa); exact rfl; exact rfl; exact rfl; exact rfl; exact rfl)
 | ((with_reducible apply r_lss); exact rfl; exact rfl; exact rfl)
 | ((with_reducible apply r_add); exact rfl; exact rfl; exact (by first | assumption | (unfold fits; omega)); exact rfl)
 | ((with_reducible apply r_len_f); exact rfl; exact inferInstance; exact rfl)
 | ((with_reducible apply r_store_pa); exact rfl; exact rfl; exact rfl; exact rfl; exact rfl; exact rfl)
 | ((with_reducible apply r_build); exact rfl; exact rfl; exact rfl)
 | (((with_reducible apply aw_cond); exact rfl) <;> intro hg <;> (first | (exact absurd hg (by decide)) | ((try simp only [decide_eq_true_eq, decide_eq_false_iff_not, Bool.not_eq_true', Bool.not_eq_false', Bool.not_true, Bool.not_false, Bool.not_not, Int.not_lt, Int.not_le, Nat.not_lt, Nat.not_le, gt_iff_lt, ge_iff_le, List.cons.injEq, and_true] at hg); first | (exact absurd trivial hg) | (exfalso; omega) | (have hT : True := hg; clear hT hg) | skip)))
 | ((with_reducible apply ds_nil))
 )
    exact ret1 (.cell_a inferInstance rfl rfl rfl rfl (cl_cons cl_c (cl_cons cl_c (cl_cons cl_c (cl_cons cl_c cl_nil)))))
set_option maxHeartbeats 4000000 in
theorem rbounds_con (s : Sec) : Con Tryz.prog gl 133 [secC s] (rectC (bdS s)) := by
  have hv := rvalid_con (gl := gl) s
  have v := valS_V s
  unfold bdS bdV
  generalize valS s = u at *
  have h1 := v.len
  have h2 := v.low
  have h3 := v.high
  refine con_of Tryz.func133 rfl (by kernel_rfl) rfl ?_
  simp only [Tryz.ntmps133, Tryz.results133, argEnv, ofC, of1, List.map]
  by_cases h0 : u.rows.length = 0
  · rw [if_pos h0]
    repeat' (first
 | ((with_reducible apply r_call); exact rfl; exact rfl; exact hv; exact rfl; exact rfl)
 | ((with_reducible apply aw_seq))
 | ((with_reducible apply aw_region))
 | ((with_reducible apply thn_normal))
 | ((with_reducible apply thn_ret))
 | ((with_reducible apply aw_ret))
 | ((with_reducible apply ao_nil))
 | ((with_reducible apply r_field_p); exact rfl; exact rfl)
 | ((with_reducible apply r_load_p); exact rfl; exact rfl; exact rfl; exact rfl)
 | ((with_reducible apply r_load_pa); exact rfl; exact rfl; exact rfl; exact rfl; exact rfl)
 | ((with_reducible apply r_eql); exact rfl; exact rfl; exact rfl)
 | ((with_reducible apply r_box_a); exact rfl; exact rfl)
 | ((with_reducible apply r_len_f); exact rfl; exact inferInstance; exact rfl)
 | ((with_reducible apply r_store_pa); exact rfl; exact rfl; exact rfl; exact rfl; exact rfl; exact rfl)
 | ((with_reducible apply r_build); exact rfl; exact rfl; exact rfl)
 | ((with_reducible apply r_alloc); exact rfl)
 | (((with_reducible apply aw_cond); exact rfl) <;> intro hg <;> (first | (exact absurd hg (by decide)) | ((try simp only [decide_eq_true_eq, decide_eq_false_iff_not, Bool.not_eq_true', Bool.not_eq_false', Bool.not_true, Bool.not_false, Bool.not_not, Int.not_lt, Int.not_le, Nat.not_lt, Nat.not_le, gt_iff_lt, ge_iff_le, List.cons.injEq, and_true] at hg); first | (exact absurd trivial hg) | (exfalso; omega) | (have hT : True := hg; clear hT hg) | skip)))
 )
    exact ret1 (.cell_a inferInstance rfl rfl rfl rfl (cl_cons cl_c (cl_cons cl_c (cl_cons cl_c (cl_cons cl_c cl_nil)))))
  rw [if_neg h0]
  have hr0 : rowD u 0 = u.rows[0]'(by omega) := rowD_eq (by omega)
  repeat' (first
 | ((with_reducible apply r_call); exact rfl; exact rfl; exact hv; exact rfl; exact rfl)
 | ((with_reducible apply (r_index_f (k := 0))); exact rfl; exact inferInstance; exact rfl; exact rfl; (omega); exact rfl)
 | ((with_reducible apply aw_seq))
 | ((with_reducible apply aw_region))
 | ((with_reducible apply aw_block))
 | ((with_reducible apply thn_normal))
 | ((with_reducible apply aw_skip))
 | ((with_reducible apply ao_nil))
 | ((with_reducible apply r_assign); exact rfl; exact rfl)
 | ((with_reducible apply r_field_p); exact rfl; exact rfl)
 | ((with_reducible apply r_load_p); exact rfl; exact rfl; exact rfl; exact rfl)
 | ((with_reducible apply r_load_pa); exact rfl; exact rfl; exact rfl; exact rfl; exact rfl)
 | ((with_reducible apply r_eql); exact rfl; exact rfl; exact rfl)
 | ((with_reducible apply r_box_a); exact rfl; exact rfl)
 | ((with_reducible apply r_len_f); exact rfl; exact inferInstance; exact rfl)
 | ((with_reducible apply r_load_fa0); exact rfl; exact inferInstance; exact List.getElem?_eq_getElem (by first | assumption | omega); exact rfl; exact rfl; exact rfl)
 | ((with_reducible apply r_store_pa); exact rfl; exact rfl; exact rfl; exact rfl; exact rfl; exact rfl)
 | ((with_reducible apply r_alloc); exact rfl)
 | (((with_reducible apply aw_cond); exact rfl) <;> intro hg <;> (first | (exact absurd hg (by decide)) | ((try simp only [decide_eq_true_eq, decide_eq_false_iff_not, Bool.not_eq_true', Bool.not_eq_false', Bool.not_true, Bool.not_false, Bool.not_not, Int.not_lt, Int.not_le, Nat.not_lt, Nat.not_le, gt_iff_lt, ge_iff_le, List.cons.injEq, and_true] at hg); first | (exact absurd trivial hg) | (exfalso; omega) | (have hT : True := hg; clear hT hg) | skip)))
 )
  refine aw_loopG (G := Nat × Span) (fun ((j, b) : Nat × Span) => j ≤ u.rows.length ∧ b = bxN u j) (fun ((j, b) : Nat × Span) => u.rows.length - j) (fun ((j, b) : Nat × Span) => [(1, .ptr 0 0), (2, .ptr 1 0), (3, .ptr 2 0), (4, A j)]) (fun ((j, b) : Nat × Span) => [(0, some (secB u)), (1, some (.cells 147 [A 0, A 0, A 0, A 0])), (2, some (.cells 68 [A b.1, A b.2]))]) 3 (0, u.rows[0]'(by omega)) ?_ (by refine weak_mk rfl ?_ ?_ <;> repeat (first | exact envW_nil | exact heapW_nil | refine envW_cons rfl rfl ?_ | refine heapW_cons rfl rfl rfl ?_)) rfl ?_
  · exact ⟨Nat.zero_le _, hr0.symm⟩
  rintro ⟨j, b⟩ hI
  try dsimp only at hI
  try dsimp only
  obtain ⟨hj, hb⟩ := hI
  by_cases hjl : j < u.rows.length
  · have hc := empty_con (gl := gl) u.rows[j].1 u.rows[j].2
    have hrj := rowD_eq hjl
    cases he : emptyS u.rows[j] with
    | true =>
      rw [show emptyS (u.rows[j].1, u.rows[j].2) = true from he] at hc
      repeat' (first
 | ((with_reducible apply r_call); exact rfl; exact rfl; exact hc; exact rfl; exact rfl)
 | ((with_reducible apply aw_seq))
 | ((with_reducible apply aw_region))
 | ((with_reducible apply aw_block))
 | ((with_reducible apply thn_normal))
 | ((with_reducible apply inb_normal))
 | ((with_reducible apply aw_skip))
 | ((with_reducible apply ao_nil))
 | ((with_reducible apply r_move); exact rfl; exact rfl)
 | ((with_reducible apply r_assign); exact rfl; exact rfl)
 | ((with_reducible apply r_field_p); exact rfl; exact rfl)
 | ((with_reducible apply r_load_p); exact rfl; exact rfl; exact rfl; exact rfl)
 | ((with_reducible apply r_lss); exact rfl; exact rfl; exact rfl)
 | ((with_reducible apply r_add); exact rfl; exact rfl; exact (by first | assumption | (unfold fits; omega)); exact rfl)
 | ((with_reducible apply r_not); exact rfl; exact rfl)
 | ((with_reducible apply r_len_f); exact rfl; exact inferInstance; exact rfl)
 | ((with_reducible apply r_index_f); exact rfl; exact inferInstance; exact rfl; exact rfl; (first | assumption | omega); exact rfl)
 | ((with_reducible apply r_load_fa0); exact rfl; exact inferInstance; exact List.getElem?_eq_getElem (by first | assumption | omega); exact rfl; exact rfl; exact rfl)
 | (((with_reducible apply aw_cond); exact rfl) <;> intro hg <;> (first | (exact absurd hg (by decide)) | ((try simp only [decide_eq_true_eq, decide_eq_false_iff_not, Bool.not_eq_true', Bool.not_eq_false', Bool.not_true, Bool.not_false, Bool.not_not, Int.not_lt, Int.not_le, Nat.not_lt, Nat.not_le, gt_iff_lt, ge_iff_le, List.cons.injEq, and_true] at hg); first | (exact absurd trivial hg) | (exfalso; omega) | (have hT : True := hg; clear hT hg) | skip)))
 )
      refine ⟨(j + 1, b), ?_, ?_, by refine weak_mk rfl ?_ ?_ <;> repeat (first | exact envW_nil | exact heapW_nil | refine envW_cons rfl rfl ?_ | refine heapW_cons rfl rfl rfl ?_)⟩
      · show _ - (j + 1) < _ - j; omega
      · exact ⟨by show j + 1 ≤ _; omega, by show b = if emptyS (rowD u j) = true then bxN u j else _; rw [hrj, if_pos he, hb]⟩
    | false =>
      rw [show emptyS (u.rows[j].1, u.rows[j].2) = false from he] at hc
      repeat' (first
 | (refine aw_drawt 19 ?_ ?_; (kernel_rfl); (simp only [List.take_succ_cons, List.take_zero, List.drop_succ_cons, List.drop_zero]))
 | ((with_reducible apply r_call); exact rfl; exact rfl; exact hc; exact rfl; exact rfl)
 | ((with_reducible apply aw_seq))
 | ((with_reducible apply aw_region))
 | ((with_reducible apply aw_block))
 | ((with_reducible apply thn_normal))
 | ((with_reducible apply inb_normal))
 | ((with_reducible apply aw_skip))
 | ((with_reducible apply ao_nil))
 | ((with_reducible apply r_move); exact rfl; exact rfl)
 | ((with_reducible apply r_assign); exact rfl; exact rfl)
 | ((with_reducible apply r_field_p); exact rfl; exact rfl)
 | ((with_reducible apply r_load_p); exact rfl; exact rfl; exact rfl; exact rfl)
 | ((with_reducible apply r_lss); exact rfl; exact rfl; exact rfl)
 | ((with_reducible apply r_add); exact rfl; exact rfl; exact (by first | assumption | (unfold fits; omega)); exact rfl)
 | ((with_reducible apply r_max); exact rfl; exact rfl; exact rfl)
 | ((with_reducible apply r_min); exact rfl; exact rfl; exact rfl)
 | ((with_reducible apply r_not); exact rfl; exact rfl)
 | ((with_reducible apply r_len_f); exact rfl; exact inferInstance; exact rfl)
 | ((with_reducible apply r_index_f); exact rfl; exact inferInstance; exact rfl; exact rfl; (first | assumption | omega); exact rfl)
 | ((with_reducible apply r_load_f0); exact rfl; exact inferInstance; exact List.getElem?_eq_getElem (by first | assumption | omega); exact rfl; exact rfl)
 | ((with_reducible apply r_load_f); exact rfl; exact inferInstance; exact List.getElem?_eq_getElem (by first | assumption | omega); exact rfl; exact rfl; exact rfl)
 | ((with_reducible apply r_load_fa0); exact rfl; exact inferInstance; exact List.getElem?_eq_getElem (by first | assumption | omega); exact rfl; exact rfl; exact rfl)
 | ((with_reducible apply r_field_e); exact rfl; exact rfl)
 | ((with_reducible apply r_store_pa); exact rfl; exact rfl; exact rfl; exact rfl; exact rfl; exact rfl)
 | ((with_reducible apply r_build); exact rfl; exact rfl; exact rfl)
 | (((with_reducible apply aw_cond); exact rfl) <;> intro hg <;> (first | (exact absurd hg (by decide)) | ((try simp only [decide_eq_true_eq, decide_eq_false_iff_not, Bool.not_eq_true', Bool.not_eq_false', Bool.not_true, Bool.not_false, Bool.not_not, Int.not_lt, Int.not_le, Nat.not_lt, Nat.not_le, gt_iff_lt, ge_iff_le, List.cons.injEq, and_true] at hg); first | (exact absurd trivial hg) | (exfalso; omega) | (have hT : True := hg; clear hT hg) | skip)))
 | ((with_reducible apply ds_nil))
 )
      refine ⟨(j + 1, joinS b u.rows[j]), ?_, ?_, by refine weak_mk rfl ?_ ?_ <;> repeat (first | exact envW_nil | exact heapW_nil | refine envW_cons rfl rfl ?_ | refine heapW_cons rfl rfl rfl ?_)⟩
      · show _ - (j + 1) < _ - j; omega
      · exact ⟨by show j + 1 ≤ _; omega, by show joinS b u.rows[j] = if emptyS (rowD u j) = true then bxN u j else joinS (bxN u j) (rowD u j); rw [hrj, if_neg (by rw [he]; simp), hb]⟩
  · obtain rfl : j = u.rows.length := by omega
    rw [← hb]
    repeat' (first
 | ((with_reducible apply aw_seq))
 | ((with_reducible apply aw_region))
 | ((with_reducible apply thn_normal))
 | ((with_reducible apply thn_exit))
 | ((with_reducible apply inb_exit))
 | ((with_reducible apply aw_exit))
 | ((with_reducible apply aw_ret))
 | ((with_reducible apply ao_nil))
 | ((with_reducible apply r_move); exact rfl; exact rfl)
 | ((with_reducible apply r_field_p); exact rfl; exact rfl)
 | ((with_reducible apply r_load_p); exact rfl; exact rfl; exact rfl; exact rfl)
 | ((with_reducible apply r_load_pa); exact rfl; exact rfl; exact rfl; exact rfl; exact rfl)
 | ((with_reducible apply r_lss); exact rfl; exact rfl; exact rfl)
 | ((with_reducible apply r_add); exact rfl; exact rfl; exact (by first | assumption | (unfold fits; omega)); exact rfl)
 | ((with_reducible apply r_mul); exact rfl; exact rfl; exact (by first | assumption | (unfold fits; omega)); exact rfl)
 | ((with_reducible apply r_len_f); exact rfl; exact inferInstance; exact rfl)
 | ((with_reducible apply r_store_pa); exact rfl; exact rfl; exact rfl; exact rfl; exact rfl; exact rfl)
 | ((with_reducible apply r_build); exact rfl; exact rfl; exact rfl)
 | (((with_reducible apply aw_cond); exact rfl) <;> intro hg <;> (first | (exact absurd hg (by decide)) | ((try simp only [decide_eq_true_eq, decide_eq_false_iff_not, Bool.not_eq_true', Bool.not_eq_false', Bool.not_true, Bool.not_false, Bool.not_not, Int.not_lt, Int.not_le, Nat.not_lt, Nat.not_le, gt_iff_lt, ge_iff_le, List.cons.injEq, and_true] at hg); first | (exact absurd trivial hg) | (exfalso; omega) | (have hT : True := hg; clear hT hg) | skip)))
 )
    exact ret1 (.cell_a inferInstance rfl rfl rfl rfl (cl_cons cl_c (cl_cons cl_c (cl_cons cl_c (cl_cons cl_c cl_nil)))))
end Go.Proofs.YtkhljpbkebnnmaaGreatDoor.Ge
/- Sections by their rows: plain. -/
namespace Go.Proofs.YtkhljpbkebnnmaaGreatDoor.Ge
set_option linter.unusedVariables false
set_option linter.unusedSimpArgs false
open Go.RowKit Go.Proofs.YtkhljpbkebnnmaaGreatDoor.Ev
def nf (x : Span) : Span := if emptyS x = true then (0, 0) else x
def gd (l : List Span) (i : Nat) : Span := l.getD i (0, 0)
structure Bld (f : Int → Span) (r : Int) (lo : Int) (rows : List Span) (used : Nat) : Prop where
  le : used ≤ rows.length
  zero : used = 0 → lo = 0 ∧ rows = [] ∧ ∀ q, -60 ≤ q → q < r → emptyS (f q) = true
  pos : 0 < used → lo + rows.length = r ∧ -60 ≤ lo ∧ (∀ q, -60 ≤ q → q < lo → emptyS (f q) = true) ∧ (∀ i : Nat, i < rows.length → gd rows i = nf (f (lo + i))) ∧ emptyS (gd rows 0) = false ∧ emptyS (gd rows (used - 1)) = false ∧ ∀ i, used ≤ i → i < rows.length → gd rows i = (0, 0)
structure RowsOf (s : Sec) (f : Int → Span) : Prop where
  v : SecV s
  at' : ∀ r, -60 ≤ r → r < 60 → atR s r = nf (f r)
end Go.Proofs.YtkhljpbkebnnmaaGreatDoor.Ge
/- Measures of logs: roots, diameters, centers: plain. -/
namespace Go.Proofs.YtkhljpbkebnnmaaGreatDoor.Ge
set_option linter.unusedVariables false
set_option linter.unusedSimpArgs false
open Go.RowKit Go.Proofs.YtkhljpbkebnnmaaGreatDoor.Ev
def IsRoot (n r : Int) : Prop := 0 ≤ r ∧ r * r ≤ n ∧ n < (r + 1) * (r + 1)
def bitAt (k : Nat) : Int := if k < 32 then 2 ^ (31 - k) else 0
theorem or_bit (m j : Nat) (hj : j ≤ 31) (hm : m < 2 ^ (31 - j)) : bits .or .u64 ((m : Int) * 2 ^ (j + 1)) (2 ^ j) = (m : Int) * 2 ^ (j + 1) + 2 ^ j := by
  have h2 : 2 ^ (31 - j) * 2 ^ (j + 1) = (4294967296 : Nat) := by
    rw [← Nat.pow_add, show 31 - j + (j + 1) = 32 by omega]
  have h3 : m * 2 ^ (j + 1) < 4294967296 := by
    rw [← h2]; exact Nat.mul_lt_mul_of_pos_right hm (Nat.pow_pos (by omega))
  have h4 : 2 ^ j ≤ (2147483648 : Nat) := Nat.pow_le_pow_right (n := 2) (by omega) hj
  have e1 : ((m : Int) * 2 ^ (j + 1)) = ((m * 2 ^ (j + 1) : Nat) : Int) := by push_cast; rfl
  have e2 : ((2 : Int) ^ j) = ((2 ^ j : Nat) : Int) := by push_cast; rfl
  rw [e1, e2, bits_or_u64_nat _ _ (by omega) (by omega)]
  have h5 : 2 ^ j < 2 ^ (j + 1) := Nat.pow_lt_pow_right (by omega) (by omega)
  have h6 := Nat.two_pow_add_eq_or_of_lt (b := 2 ^ j) (i := j + 1) h5 m
  rw [Nat.mul_comm m, ← h6]
  push_cast
  rfl
def RInv (n : Int) (k : Nat) (R : Int) : Prop := ∃ m : Nat, R = (m : Int) * 2 ^ (32 - k) ∧ m < 2 ^ k ∧ R * R ≤ n ∧ n < (R + 2 ^ (32 - k)) * (R + 2 ^ (32 - k))
theorem root_step {n : Int} {k : Nat} {R : Int} (hk : k < 32) (h : RInv n k R) : ∃ B : Int, bitAt k = B ∧ 0 < B ∧ B ≤ 2147483648 ∧ 0 ≤ R ∧ R + B < 4294967296 ∧ bits .or .u64 R B = R + B ∧ B / 2 = bitAt (k + 1) ∧ ((R + B) * (R + B) ≤ n → RInv n (k + 1) (R + B)) ∧ (n < (R + B) * (R + B) → RInv n (k + 1) R) := by
  obtain ⟨m, hR, hm, hlo, hhi⟩ := h
  obtain ⟨j, hj⟩ : ∃ j, k = 31 - j ∧ j ≤ 31 := ⟨31 - k, by omega, by omega⟩
  obtain ⟨rfl, hj⟩ := hj
  have e1 : 32 - (31 - j) = j + 1 := by omega
  have e2 : 32 - (31 - j + 1) = j := by omega
  have e3 : 31 - (31 - j) = j := by omega
  rw [e1] at hR hhi
  have hpN : (2 : Int) ^ j = ((2 ^ j : Nat) : Int) := by push_cast; rfl
  have hpos : 0 < 2 ^ j := Nat.pow_pos (n := j) (show 0 < 2 by omega)
  have hle : 2 ^ j ≤ (2147483648 : Nat) := Nat.pow_le_pow_right (n := 2) (by omega) hj
  have h2 : 2 ^ (31 - j) * 2 ^ (j + 1) = (4294967296 : Nat) := by
    rw [← Nat.pow_add, show 31 - j + (j + 1) = 32 by omega]
  have h3 : (m + 1) * 2 ^ (j + 1) ≤ 4294967296 := by
    rw [← h2]; exact Nat.mul_le_mul_right _ (by omega)
  have hs : (2 : Int) ^ (j + 1) = 2 * 2 ^ j := by rw [Int.pow_succ]; omega
  have hsN : (2 : Nat) ^ (j + 1) = 2 * 2 ^ j := by rw [Nat.pow_succ]; omega
  have hor := or_bit m j hj hm
  rw [← hR] at hor
  have hRN : R = ((m * 2 ^ (j + 1) : Nat) : Int) := by rw [hR]; push_cast; rfl
  rw [Nat.add_mul] at h3
  refine ⟨2 ^ j, ?_, by omega, by omega, by omega, by omega, hor, ?_, fun hc => ⟨2 * m + 1, ?_, ?_, hc, ?_⟩, fun hc => ⟨2 * m, ?_, ?_, hlo, ?_⟩⟩
  · unfold bitAt; rw [if_pos hk, e3]
  · unfold bitAt
    by_cases h0 : j = 0
    · subst h0; rw [if_neg (by omega)]; rfl
    · rw [if_pos (by omega), show 31 - (31 - j + 1) = j - 1 by omega]
      obtain ⟨i, rfl⟩ : ∃ i, j = i + 1 := ⟨j - 1, by omega⟩
      rw [Int.pow_succ, show i + 1 - 1 = i by omega]
      omega
  · rw [e2, hR, hs]; push_cast; rw [Int.add_mul, Int.mul_assoc, Int.mul_left_comm (m : Int) 2, Int.one_mul]
  · rw [Nat.pow_succ]; omega
  · rw [e2]; rw [hs] at hhi; rw [show R + 2 ^ j + 2 ^ j = R + 2 * 2 ^ j by omega]; exact hhi
  · rw [e2, hR, hs]; push_cast; rw [Int.mul_comm 2 (m : Int), Int.mul_assoc]
  · rw [Nat.pow_succ]; omega
  · rw [e2]; exact hc
theorem RInv.start {n : Int} (h0 : 0 ≤ n) (h1 : n < 9223372036854775808) : RInv n 0 0 := ⟨0, by simp, by simp, by simpa using h0, by simp; omega⟩
theorem RInv.done {n R : Int} (h : RInv n 32 R) : 0 ≤ R ∧ R < 4294967296 ∧ IsRoot n R := by
  obtain ⟨m, rfl, hm, q1, q2⟩ := h
  have hm' : m < 4294967296 := hm
  simp only [Nat.sub_self, Int.pow_zero, Int.mul_one] at q1 q2 ⊢
  exact ⟨by omega, by omega, by omega, q1, q2⟩
theorem IsRoot.uniq {n a b : Int} (h1 : IsRoot n a) (h2 : IsRoot n b) : a = b := by
  obtain ⟨p1, q1, r1⟩ := h1
  obtain ⟨p2, q2, r2⟩ := h2
  rcases Int.lt_trichotomy a b with h | h | h
  · have : (a + 1) * (a + 1) ≤ b * b := Int.mul_le_mul (by omega) (by omega) (by omega) (by omega)
    omega
  · exact h
  · have : (b + 1) * (b + 1) ≤ a * a := Int.mul_le_mul (by omega) (by omega) (by omega) (by omega)
    omega
open Classical in
noncomputable def rootI (n : Int) : Int := if h : ∃ r, IsRoot n r then Classical.choose h else 0
theorem IsRoot.eq {n r : Int} (h : IsRoot n r) : rootI n = r := by
  unfold rootI
  rw [dif_pos ⟨r, h⟩]
  exact (Classical.choose_spec (⟨r, h⟩ : ∃ r, IsRoot n r)).uniq h
theorem root_ex : ∀ n : Nat, ∃ r, IsRoot (n : Int) r
  | 0 => ⟨0, by decide, by decide, by decide⟩
  | n + 1 => by
    obtain ⟨r, h1, h2, h3⟩ := root_ex n
    by_cases h : ((n + 1 : Nat) : Int) < (r + 1) * (r + 1)
    · exact ⟨r, h1, by omega, h⟩
    · refine ⟨r + 1, by omega, by omega, ?_⟩
      have : (r + 1 + 1) * (r + 1 + 1) = (r + 1) * (r + 1) + 2 * (r + 1) + 1 := by rw [Int.add_mul, Int.mul_add]; omega
      omega
theorem root_is {n : Int} (h : 0 ≤ n) : IsRoot n (rootI n) := by
  obtain ⟨m, rfl⟩ : ∃ m : Nat, n = m := ⟨n.toNat, by omega⟩
  obtain ⟨r, hr⟩ := root_ex m
  rw [hr.eq]; exact hr
noncomputable def diaS (s : Sec) : Int := rootI (452 * areaS s / 355)
theorem areaS_bd (s : Sec) : 0 ≤ areaS s ∧ areaS s ≤ 1440000 := area_V (valS_V s)
theorem dia_is (s : Sec) : IsRoot (452 * areaS s / 355) (diaS s) := root_is (by have := areaS_bd s; omega)
theorem dia_bd (s : Sec) : 0 ≤ diaS s ∧ diaS s ≤ 1354 := by
  obtain ⟨h1, h2, h3⟩ := dia_is s
  have ha := areaS_bd s
  refine ⟨h1, Int.not_lt.1 fun hh => ?_⟩
  have : (1355 : Int) * 1355 ≤ diaS s * diaS s := Int.mul_le_mul (by omega) (by omega) (by omega) (by omega)
  omega
theorem area_no {s : Sec} (h : ¬ secChk s = 0) : areaS s = 0 := by unfold areaS; rw [valS_no h]; rfl
theorem bd_no {s : Sec} (h : ¬ secChk s = 0) : bdS s = ((0, 0), (0, 0)) := by unfold bdS; rw [valS_no h]; rfl
noncomputable def cenX (s : Sec) : Int := (bdS s).1.1 + (bdS s).1.2
noncomputable def cenY (s : Sec) : Int := (bdS s).2.1 + (bdS s).2.2
theorem bx_bd {s : Sec} (v : SecV s) : ∀ j, j ≤ s.rows.length → -600 ≤ (bxN s j).1 ∧ (bxN s j).1 ≤ 600 ∧ -600 ≤ (bxN s j).2 ∧ (bxN s j).2 ≤ 600
  | 0, _ => by
    by_cases h : 0 < s.rows.length
    · have := v.row 0 h
      show -600 ≤ (rowD s 0).1 ∧ _
      rw [show bxN s 0 = rowD s 0 from rfl, rowD_eq h]; omega
    · have : s.rows = [] := List.eq_nil_of_length_eq_zero (by omega)
      show -600 ≤ (rowD s 0).1 ∧ _
      rw [show bxN s 0 = rowD s 0 from rfl]
      unfold rowD; rw [this]; decide
  | j + 1, hj => by
    have ih := bx_bd v j (by omega)
    have := v.row j (by omega)
    unfold bxN
    split
    · exact ih
    · rw [rowD_eq (by omega)]; unfold joinS; dsimp only; omega
theorem bd_bd (s : Sec) : (-600 ≤ (bdS s).1.1 ∧ (bdS s).1.1 ≤ 600 ∧ -600 ≤ (bdS s).1.2 ∧ (bdS s).1.2 ≤ 600) ∧ (-600 ≤ (bdS s).2.1 ∧ (bdS s).2.1 ≤ 600 ∧ -600 ≤ (bdS s).2.2 ∧ (bdS s).2.2 ≤ 600) := by
  have v := valS_V s
  unfold bdS bdV
  generalize valS s = u at *
  have h1 := bx_bd v _ (Nat.le_refl _)
  have h2 := v.low
  have h3 := v.high
  split
  · decide
  · exact ⟨h1, by dsimp only; omega⟩
theorem cen_bd (s : Sec) : -1200 ≤ cenX s ∧ cenX s ≤ 1200 ∧ -1200 ≤ cenY s ∧ cenY s ≤ 1200 := by
  have := bd_bd s
  unfold cenX cenY; omega
noncomputable def topS (l : List Slc) : Int := if solChk l = 0 then diaS (secD l (l.length - 1)) else 0
noncomputable def taperS (l : List Slc) : Int := if solChk l = 0 then max 0 (diaS (secD l 0) - diaS (secD l (l.length - 1))) * 10000 / pos l l.length else 0
def midS (l : List Slc) (i : Nat) : Int := 2 * pos l i + lenD l i
def alongS (a b s t m : Int) : Int := a + (b - a) * (m - s) / (t - s)
def distS (a b : Int) : Int := max (a - b) (b - a)
noncomputable def devS (l : List Slc) (i : Nat) : Int × Int :=
  (distS (cenX (secD l i)) (alongS (cenX (secD l 0)) (cenX (secD l (l.length - 1))) (midS l 0) (midS l (l.length - 1)) (midS l i)),
   distS (cenY (secD l i)) (alongS (cenY (secD l 0)) (cenY (secD l (l.length - 1))) (midS l 0) (midS l (l.length - 1)) (midS l i)))
noncomputable def swN (l : List Slc) : Nat → Int
  | 0 => 0
  | j + 1 => max (max (swN l j) (devS l j).1) (devS l j).2
noncomputable def sweepS (l : List Slc) : Int := if solChk l = 0 ∧ 3 ≤ l.length then swN l l.length else 0
theorem sol_pos {l : List Slc} (h : solChk l = 0) : 0 < l.length := Nat.pos_of_ne_zero fun hh => by rw [← sol_0 hh] at h; cases h
theorem mid_bd {l : List Slc} (v : SolV l) {i : Nat} (hi : i < l.length) : 1 ≤ midS l i ∧ midS l i ≤ 40000 := by
  have h1 := pos_bd v (j := i) (by omega)
  have h2 := pos_bd v (j := i + 1) (by omega)
  have h3 := v.one i hi
  rw [pos_succ, lenD_eq hi] at h2
  unfold midS; rw [lenD_eq hi]; omega
theorem mid_lt {l : List Slc} (v : SolV l) {i j : Nat} (hij : i < j) (hj : j < l.length) : midS l i + 2 ≤ midS l j := by
  have h0 := pos_mono v (j - (i + 1)) (i + 1) (by omega)
  rw [show i + 1 + (j - (i + 1)) = j by omega, pos_succ, lenD_eq (show i < l.length by omega)] at h0
  have h3 := v.one i (by omega)
  have h4 := v.one j hj
  unfold midS; rw [lenD_eq hj, lenD_eq (show i < l.length by omega)]; omega
theorem along_bd {a b s t m : Int} (h : s < t) (h1 : s ≤ m) (h2 : m ≤ t) (ha : -1200 ≤ a ∧ a ≤ 1200) (hb : -1200 ≤ b ∧ b ≤ 1200) : -1200 ≤ alongS a b s t m ∧ alongS a b s t m ≤ 1200 := by
  unfold alongS
  have hd : 0 < t - s := by omega
  have hp : 0 ≤ m - s := by omega
  have hq : 0 ≤ t - m := by omega
  refine ⟨?_, ?_⟩
  · have : -1200 - a ≤ (b - a) * (m - s) / (t - s) := by
      rw [Int.le_ediv_iff_mul_le hd]
      have e1 : (-1200 - a) * (t - s) = (-1200 - a) * (m - s) + (-1200 - a) * (t - m) := by rw [← Int.mul_add]; congr 1; omega
      have e2 : (-1200 - a) * (m - s) ≤ (b - a) * (m - s) := Int.mul_le_mul_of_nonneg_right (by omega) hp
      have e3 : (-1200 - a) * (t - m) ≤ 0 * (t - m) := Int.mul_le_mul_of_nonneg_right (by omega) hq
      omega
    omega
  · have : (b - a) * (m - s) / (t - s) < 1200 - a + 1 := by
      rw [Int.ediv_lt_iff_lt_mul hd]
      have e1 : (1200 - a + 1) * (t - s) = (1200 - a) * (m - s) + (1200 - a) * (t - m) + (t - s) := by
        rw [← Int.mul_add, Int.add_mul, Int.one_mul, show m - s + (t - m) = t - s by omega]
      have e2 : (b - a) * (m - s) ≤ (1200 - a) * (m - s) := Int.mul_le_mul_of_nonneg_right (by omega) hp
      have e3 : 0 * (t - m) ≤ (1200 - a) * (t - m) := Int.mul_le_mul_of_nonneg_right (by omega) hq
      omega
    omega
theorem prod_bd {x y : Int} (hx : -2400 ≤ x ∧ x ≤ 2400) (hy : 0 ≤ y ∧ y ≤ 40000) : -96000000 ≤ x * y ∧ x * y ≤ 96000000 := by
  have h1 : x * y ≤ 2400 * y := Int.mul_le_mul_of_nonneg_right hx.2 hy.1
  have h2 : -2400 * y ≤ x * y := Int.mul_le_mul_of_nonneg_right hx.1 hy.1
  omega
end Go.Proofs.YtkhljpbkebnnmaaGreatDoor.Ge
