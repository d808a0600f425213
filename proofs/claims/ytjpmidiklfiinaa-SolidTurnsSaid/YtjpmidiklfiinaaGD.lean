/- Walks of geometry: solids: Within, At, Cut in both. -/
import Derived.Test.YtjpmidiklfiinaaGC
namespace Go.Proofs.Ytjpmidiklfiinaa.Ge
set_option linter.unusedVariables false
set_option linter.unusedSimpArgs false
open Go.RowKit Go.Proofs.Ytjpmidiklfiinaa.Ev
variable {gl : List (Nat × List CV)}

theorem cloneS_con (l : List Span) (hn : l.length ≤ 100000) : Con Try.prog gl 67 [LS l] (LS l) := by
  refine con_of Try.func67 rfl (by kernel_rfl) rfl ?_
  simp only [Try.ntmps67, Try.results67, argEnv, ofC, of1, List.map]
  repeat' (first
    | ((with_reducible apply r_eqnil); exact rfl; exact rfl; exact rfl; intro nb hnb)
    | ((with_reducible apply (r_appendl (enc := spC) (l := []) (l2 := l))); exact rfl; exact rfl; exact inferInstance; exact rfl; exact rfl; exact (by omega); exact (by omega); exact rfl)
    | ((with_reducible apply aw_seq))
    | ((with_reducible apply aw_region))
    | ((with_reducible apply thn_normal))
    | ((with_reducible apply thn_ret))
    | ((with_reducible apply aw_skip))
    | ((with_reducible apply aw_ret))
    | ((with_reducible apply ao_nil))
    | ((with_reducible apply r_move); exact rfl; exact rfl)
    | ((with_reducible apply r_assign); exact rfl; exact rfl)
    | (((with_reducible apply aw_cond); exact rfl) <;> intro hg <;> (first | (exact absurd hg (by decide)) | ((try simp only [decide_eq_true_eq, decide_eq_false_iff_not, Bool.not_eq_true', Bool.not_eq_false', Bool.not_true, Bool.not_false, Bool.not_not, Int.not_lt, Int.not_le, Nat.not_lt, Nat.not_le, gt_iff_lt, ge_iff_le, List.cons.injEq, and_true] at hg); first | (exact absurd trivial hg) | (exfalso; omega) | (have hT : True := hg; clear hT hg) | skip)))
    | ((with_reducible apply r_lit0); exact rfl)
    )
  · have : l = [] := by
      cases l with
      | nil => rfl
      | cons a l => have := hnb (by simp [spC]); subst this; cases hg
    subst this
    exact ret1 (.tmp rfl cl_none)
  · exact ret1 (.tmp rfl (cl_vec rfl (by rw [flat_len EncL.len]; simp)))
theorem clone_con (s : Sec) (hn : s.rows.length ≤ 100000) : Con Try.prog gl 48 [secC s] (secC s) := by
  have h := cloneS_con (gl := gl) s.rows hn
  refine con_of Try.func48 rfl (by kernel_rfl) rfl ?_
  simp only [Try.ntmps48, Try.results48, argEnv, ofC, of1, List.map]
  repeat' (first
    | (refine aw_drawt 6 ?_ ?_; (kernel_rfl); (simp only [List.take_succ_cons, List.take_zero, List.drop_succ_cons, List.drop_zero]))
    | ((with_reducible apply r_call); exact rfl; exact rfl; exact h; exact rfl; exact rfl)
    | ((with_reducible apply aw_seq))
    | ((with_reducible apply aw_region))
    | ((with_reducible apply thn_normal))
    | ((with_reducible apply aw_ret))
    | ((with_reducible apply ao_nil))
    | ((with_reducible apply r_field_p); exact rfl; exact rfl)
    | ((with_reducible apply r_load_p); exact rfl; exact rfl; exact rfl; exact rfl)
    | ((with_reducible apply r_box_a); exact rfl; exact rfl)
    | ((with_reducible apply r_store_pa); exact rfl; exact rfl; exact rfl; exact rfl; exact rfl; exact rfl)
    | ((with_reducible apply r_build); exact rfl; exact rfl; exact rfl)
    | ((with_reducible apply r_alloc); exact rfl)
    | ((with_reducible apply ds_nil))
    )
  exact ret1 (.cell_a inferInstance rfl rfl rfl rfl (cl_cons cl_c (cl_cons cl_c cl_nil)))

/-- The part of slice i along Z. -/
def ovZ (l : List Slc) (Z : Span) (i : Nat) : Int := ov (pos l i, pos l i + lenD l i) Z
def winV (l : List Slc) (X Y Z : Span) : Int := sumN (fun i => ovZ l Z i * inV (secD l i) X Y) l.length
noncomputable def winS (l : List Slc) (X Y Z : Span) : Int := winV (valL l) X Y Z
theorem in_V {s : Sec} (v : SecV s) (X Y : Span) : 0 ≤ inV s X Y ∧ inV s X Y ≤ 1440000 := by
  have := (sumN_bd (c := 12000) (n := s.rows.length) (fun i hi => in_bd v X Y hi)) _ (Nat.le_refl _)
  have h2 := v.len
  unfold inV; omega
theorem inS_ok {s : Sec} (h : secChk s = 0) (X Y : Span) : inS s X Y = inV s X Y := by unfold inS; rw [valS_ok h]
theorem ovZ_bd {l : List Slc} (v : SolV l) {i : Nat} (hi : i < l.length) (Z : Span) : 0 ≤ ovZ l Z i ∧ ovZ l Z i ≤ l[i].len := by
  have := v.one i hi
  unfold ovZ ov; dsimp only; rw [lenD_eq hi]; omega
theorem win_bd {l : List Slc} (v : SolV l) (X Y Z : Span) {i : Nat} (hi : i < l.length) : 0 ≤ ovZ l Z i * inV (secD l i) X Y ∧ ovZ l Z i * inV (secD l i) X Y ≤ 28800000000 := by
  have h1 := len_bd v hi
  have h2 := in_V (chk_is (v.chk i hi)) X Y
  have h3 := ovZ_bd v hi Z
  rw [secD_eq hi]
  exact mul_bd2 (m := 20000) (k := 1440000) ⟨by omega, by omega⟩ h2
theorem ext_meet {l : List Slc} (v : SolV l) {j : Nat} (hj : j < l.length) (Z : Span) : Con Try.prog gl 44 [spV (meetS (pos l j, pos l j + lenD l j) Z)] (I (ovZ l Z j)) := by
  have h1 := pos_bd v (j := j) (by omega)
  have h2 := pos_bd v (j := j + 1) (by omega)
  have h3 := v.one j hj
  rw [pos_succ] at h2
  rw [← lenD_eq hj] at h3
  exact len_meet (by dsimp only; omega)
set_option maxRecDepth 100000 in
set_option maxHeartbeats 4000000 in
theorem swithin_con (l : List Slc) (hn : l.length ≤ maxLen) (X Y Z : Span) : Con Try.prog gl 19 [LL l, .agg [I X.1, I X.2, I Y.1, I Y.2, I Z.1, I Z.2]] (I (winS l X Y Z)) := by
  have hv := svalid_con (gl := gl) l hn
  have v := valL_V l
  unfold winS winV
  generalize valL l = u at *
  have hu := v.n
  have hb := sumN_bd (c := 28800000000) (n := u.length) (fun i hi => win_bd v X Y Z hi)
  have he := extents_con (gl := gl) u v
  have hel := extL_len u
  refine con_of Try.func19 rfl (by kernel_rfl) rfl ?_
  simp only [Try.ntmps19, Try.results19, argEnv, ofC, of1, List.map]
  repeat' (first
    | ((with_reducible apply r_call); exact rfl; exact rfl; (first | exact hv | exact he); exact rfl; exact rfl)
    | ((with_reducible apply aw_seq))
    | ((with_reducible apply aw_region))
    | ((with_reducible apply aw_block))
    | ((with_reducible apply thn_normal))
    | ((with_reducible apply ao_nil))
    | ((with_reducible apply r_move); exact rfl; exact rfl)
    | ((with_reducible apply r_assign); exact rfl; exact rfl)
    | ((with_reducible apply r_box_a); exact rfl; exact rfl)
    | ((with_reducible apply r_len_f); exact rfl; exact inferInstance; exact rfl)
    )
  refine aw_loopG (G := Nat × Int) (fun ((j, t) : Nat × Int) => j ≤ u.length ∧ t = sumN (fun i => ovZ u Z i * inV (secD u i) X Y) j) (fun ((j, t) : Nat × Int) => u.length - j) (fun ((j, t) : Nat × Int) => [(0, .c (LL u)), (3, .ptr 0 0), (5, A t), (12, .c (LS (extL u))), (13, A (extL u).length), (14, A j)]) (fun ((j, t) : Nat × Int) => [(0, some (.cells 31 [A X.1, A X.2, A Y.1, A Y.2, A Z.1, A Z.2]))]) 1 (0, 0) ?_ (by refine weak_mk rfl ?_ ?_ <;> repeat (first | exact envW_nil | exact heapW_nil | refine envW_cons rfl rfl ?_ | refine heapW_cons rfl rfl rfl ?_)) rfl ?_
  · exact ⟨Nat.zero_le _, rfl⟩
  rintro ⟨j, t⟩ hI
  try dsimp only at hI
  try dsimp only
  obtain ⟨hj, ht⟩ := hI
  have hbj := hb j hj
  rw [← ht] at hbj
  by_cases hjl : j < u.length
  · have hx := win_bd v X Y Z hjl
    rw [secD_eq hjl] at hx
    have hg0 := extL_get u j (by omega)
    have h1 := meet_con (gl := gl) ((extL u)[j]'(by omega)).1 ((extL u)[j]'(by omega)).2 Z.1 Z.2
    have h2 := ext_meet (gl := gl) v hjl Z
    rw [← hg0] at h2
    have h3 := within_con (gl := gl) u[j].sec X Y
    rw [inS_ok (v.chk j hjl)] at h3
    have hoz := ovZ_bd v hjl Z
    have hf : fits (ovZ u Z j * inV u[j].sec X Y) := by unfold fits; omega
    have hf2 : fits (t + ovZ u Z j * inV u[j].sec X Y) := by unfold fits; omega
    repeat' (first
      | ((with_reducible apply r_call); exact rfl; exact rfl; (first | exact h1 | exact h2 | exact h3); exact rfl; exact rfl)
      | ((with_reducible apply aw_seq))
      | ((with_reducible apply aw_region))
      | ((with_reducible apply aw_block))
      | ((with_reducible apply thn_normal))
      | ((with_reducible apply inb_normal))
      | ((with_reducible apply aw_skip))
      | ((with_reducible apply ao_nil))
      | ((with_reducible apply r_move); exact rfl; exact rfl)
      | ((with_reducible apply r_assign); exact rfl; exact rfl)
      | ((with_reducible apply r_field_p); exact rfl; exact rfl)
      | ((with_reducible apply r_load_pa); exact rfl; exact rfl; exact rfl; exact rfl; exact rfl)
      | ((with_reducible apply r_lss); exact rfl; exact rfl; exact rfl)
      | ((with_reducible apply r_gtr); exact rfl; exact rfl; exact rfl)
      | ((with_reducible apply r_add); exact rfl; exact rfl; exact (by first | assumption | (unfold fits; omega)); exact rfl)
      | ((with_reducible apply r_mul); exact rfl; exact rfl; exact (by first | assumption | (unfold fits; omega)); exact rfl)
      | ((with_reducible apply r_index_f); exact rfl; exact inferInstance; exact rfl; exact rfl; (first | assumption | omega); exact rfl)
      | ((with_reducible apply r_load_fa0); exact rfl; exact inferInstance; exact List.getElem?_eq_getElem (by first | assumption | omega); exact rfl; exact rfl; exact rfl)
      | ((with_reducible apply r_load_fa); exact rfl; exact inferInstance; exact List.getElem?_eq_getElem (by first | assumption | omega); exact rfl; exact rfl; exact rfl)
      | ((with_reducible apply r_field_e); exact rfl; exact rfl)
      | ((with_reducible apply r_store_pa); exact rfl; exact rfl; exact rfl; exact rfl; exact rfl; exact rfl)
      | ((with_reducible apply r_build); exact rfl; exact rfl; exact rfl)
      | ((with_reducible apply r_alloc); exact rfl)
      | (((with_reducible apply aw_cond); exact rfl) <;> intro hg <;> (first | (exact absurd hg (by decide)) | ((try simp only [decide_eq_true_eq, decide_eq_false_iff_not, Bool.not_eq_true', Bool.not_eq_false', Bool.not_true, Bool.not_false, Bool.not_not, Int.not_lt, Int.not_le, Nat.not_lt, Nat.not_le, gt_iff_lt, ge_iff_le, List.cons.injEq, and_true] at hg); first | (exact absurd trivial hg) | (exfalso; omega) | (have hT : True := hg; clear hT hg) | skip)))
      | (refine aw_drawq ?_ ?_; (kernel_rfl))
      | ((with_reducible apply ds_nil))
      )
    · skip
      refine ⟨(j + 1, t + ovZ u Z j * inV u[j].sec X Y), ?_, ?_, by refine weak_mk rfl ?_ ?_ <;> repeat (first | exact envW_nil | exact heapW_nil | refine envW_cons rfl rfl ?_ | refine heapW_cons rfl rfl rfl ?_)⟩
      · show _ - (j + 1) < _ - j; omega
      · exact ⟨by show j + 1 ≤ _; omega, by show t + _ = sumN _ j + ovZ u Z j * inV (secD u j) X Y; rw [ht, secD_eq hjl]⟩
    · skip
      refine ⟨(j + 1, t), ?_, ?_, by refine weak_mk rfl ?_ ?_ <;> repeat (first | exact envW_nil | exact heapW_nil | refine envW_cons rfl rfl ?_ | refine heapW_cons rfl rfl rfl ?_)⟩
      · show _ - (j + 1) < _ - j; omega
      · refine ⟨by show j + 1 ≤ _; omega, ?_⟩
        show t = sumN _ j + ovZ u Z j * inV (secD u j) X Y
        rw [show ovZ u Z j = 0 by omega, Int.zero_mul, ht]; omega
  · obtain rfl : j = u.length := by omega
    repeat' (first
      | ((with_reducible apply aw_seq))
      | ((with_reducible apply aw_region))
      | ((with_reducible apply thn_normal))
      | ((with_reducible apply thn_exit))
      | ((with_reducible apply inb_exit))
      | ((with_reducible apply aw_exit))
      | ((with_reducible apply aw_ret))
      | ((with_reducible apply ao_nil))
      | ((with_reducible apply r_move); exact rfl; exact rfl)
      | ((with_reducible apply r_assign); exact rfl; exact rfl)
      | ((with_reducible apply r_lss); exact rfl; exact rfl; exact rfl)
      | (((with_reducible apply aw_cond); exact rfl) <;> intro hg <;> (first | (exact absurd hg (by decide)) | ((try simp only [decide_eq_true_eq, decide_eq_false_iff_not, Bool.not_eq_true', Bool.not_eq_false', Bool.not_true, Bool.not_false, Bool.not_not, Int.not_lt, Int.not_le, Nat.not_lt, Nat.not_le, gt_iff_lt, ge_iff_le, List.cons.injEq, and_true] at hg); first | (exact absurd trivial hg) | (exfalso; omega) | (have hT : True := hg; clear hT hg) | skip)))
      )
    exact ret_i rfl ht
theorem sumN_zero {f : Nat → Int} : ∀ {n : Nat}, (∀ i, i < n → f i = 0) → sumN f n = 0
  | 0, _ => rfl
  | n + 1, h => by
    unfold sumN
    rw [sumN_zero (fun i hi => h i (by omega)), h n (by omega)]; rfl
theorem ov_none {a b : Span} (h : b.2 ≤ b.1) : ov a b = 0 := by unfold ov; omega
theorem in_none (s : Sec) {X Y : Span} (h : X.2 ≤ X.1 ∨ Y.2 ≤ Y.1) : inV s X Y = 0 := by
  refine sumN_zero fun i _ => ?_
  rcases h with h | h
  · rw [ov_none h, Int.zero_mul]
  · rw [ov_none (b := Y) h, Int.mul_zero]
theorem win_none (l : List Slc) {X Y Z : Span} (h : X.2 ≤ X.1 ∨ Y.2 ≤ Y.1 ∨ Z.2 ≤ Z.1) : winV l X Y Z = 0 := by
  refine sumN_zero fun i _ => ?_
  rcases h with h | h | h
  · rw [in_none _ (.inl h), Int.mul_zero]
  · rw [in_none _ (.inr h), Int.mul_zero]
  · unfold ovZ; rw [ov_none h, Int.zero_mul]
theorem part_con (a b c d : Int) (h : 0 ≤ c ∧ 0 ≤ d ∧ c + d ≤ 20000 ∧ fits a) : Con Try.prog gl 46 [.agg [I a, I b], I c, I d] (I (ov (c, c + d) (a, b))) := by
  have h' := h.2.2.2
  unfold fits at h'
  refine con_of Try.func46 rfl (by kernel_rfl) rfl ?_
  simp only [Try.ntmps46, Try.results46, argEnv, ofC, of1, List.map]
  by_cases h2 : max a c < min b (c + d)
  · skip
    repeat' (first
      | ((with_reducible apply aw_seq))
      | ((with_reducible apply aw_region))
      | ((with_reducible apply thn_normal))
      | ((with_reducible apply aw_skip))
      | ((with_reducible apply aw_ret))
      | ((with_reducible apply ao_nil))
      | ((with_reducible apply r_move); exact rfl; exact rfl)
      | ((with_reducible apply r_assign); exact rfl; exact rfl)
      | ((with_reducible apply r_field_p); exact rfl; exact rfl)
      | ((with_reducible apply r_load_p); exact rfl; exact rfl; exact rfl; exact rfl)
      | ((with_reducible apply r_geq); exact rfl; exact rfl; exact rfl)
      | ((with_reducible apply r_add); exact rfl; exact rfl; exact (by first | assumption | (unfold fits; omega)); exact rfl)
      | ((with_reducible apply r_sub); exact rfl; exact rfl; exact (by first | assumption | (unfold fits; omega)); exact rfl)
      | ((with_reducible apply r_max); exact rfl; exact rfl; exact rfl)
      | ((with_reducible apply r_min); exact rfl; exact rfl; exact rfl)
      | ((with_reducible apply r_box_a); exact rfl; exact rfl)
      | (((with_reducible apply aw_cond); exact rfl) <;> intro hg <;> (first | (exact absurd hg (by decide)) | ((try simp only [decide_eq_true_eq, decide_eq_false_iff_not, Bool.not_eq_true', Bool.not_eq_false', Bool.not_true, Bool.not_false, Bool.not_not, Int.not_lt, Int.not_le, Nat.not_lt, Nat.not_le, gt_iff_lt, ge_iff_le, List.cons.injEq, and_true] at hg); first | (exact absurd trivial hg) | (exfalso; omega) | (have hT : True := hg; clear hT hg) | skip)))
      | (refine aw_drawq ?_ ?_; (kernel_rfl))
      | ((with_reducible apply ds_nil))
      )
    exact ret_i rfl (by unfold ov; dsimp only; omega)
  · skip
    repeat' (first
      | ((with_reducible apply aw_seq))
      | ((with_reducible apply aw_region))
      | ((with_reducible apply thn_normal))
      | ((with_reducible apply thn_ret))
      | ((with_reducible apply aw_ret))
      | ((with_reducible apply ao_nil))
      | ((with_reducible apply r_move); exact rfl; exact rfl)
      | ((with_reducible apply r_assign); exact rfl; exact rfl)
      | ((with_reducible apply r_field_p); exact rfl; exact rfl)
      | ((with_reducible apply r_load_p); exact rfl; exact rfl; exact rfl; exact rfl)
      | ((with_reducible apply r_geq); exact rfl; exact rfl; exact rfl)
      | ((with_reducible apply r_add); exact rfl; exact rfl; exact (by first | assumption | (unfold fits; omega)); exact rfl)
      | ((with_reducible apply r_max); exact rfl; exact rfl; exact rfl)
      | ((with_reducible apply r_min); exact rfl; exact rfl; exact rfl)
      | ((with_reducible apply r_box_a); exact rfl; exact rfl)
      | (((with_reducible apply aw_cond); exact rfl) <;> intro hg <;> (first | (exact absurd hg (by decide)) | ((try simp only [decide_eq_true_eq, decide_eq_false_iff_not, Bool.not_eq_true', Bool.not_eq_false', Bool.not_true, Bool.not_false, Bool.not_not, Int.not_lt, Int.not_le, Nat.not_lt, Nat.not_le, gt_iff_lt, ge_iff_le, List.cons.injEq, and_true] at hg); first | (exact absurd trivial hg) | (exfalso; omega) | (have hT : True := hg; clear hT hg) | skip)))
      | (refine aw_drawq ?_ ?_; (kernel_rfl))
      | ((with_reducible apply ds_nil))
      )
    exact ret_i rfl (by unfold ov; dsimp only; omega)
theorem clip_ov {l : List Slc} (v : SolV l) {j : Nat} (hj : j < l.length) (Z : Span) : ov (pos l j, pos l j + lenD l j) (max Z.1 0, min Z.2 20000) = ovZ l Z j := by
  have h1 := pos_bd v (j := j) (by omega)
  have h2 := pos_bd v (j := j + 1) (by omega)
  rw [pos_succ] at h2
  unfold ovZ ov; dsimp only; omega
set_option maxRecDepth 100000 in
set_option maxHeartbeats 4000000 in
theorem rswithin_con (l : List Slc) (hn : l.length ≤ maxLen) (X Y Z : Span) (hZ : fits Z.1 ∧ fits Z.2) : Con Try.prog gl 20 [LL l, .agg [I X.1, I X.2, I Y.1, I Y.2, I Z.1, I Z.2]] (I (winS l X Y Z)) := by
  have hc := rscheck_con (gl := gl) l hn
  refine con_of Try.func20 rfl (by kernel_rfl) rfl ?_
  simp only [Try.ntmps20, Try.results20, argEnv, ofC, of1, List.map]
  by_cases h : solChk l = 0
  rotate_left
  · have e : 0 = winS l X Y Z := by unfold winS; rw [valL_no h]; rfl
    repeat' (first
      | ((with_reducible apply r_call); exact rfl; exact rfl; exact hc; exact rfl; exact rfl)
      | ((with_reducible apply aw_seq))
      | ((with_reducible apply aw_region))
      | ((with_reducible apply thn_normal))
      | ((with_reducible apply thn_ret))
      | ((with_reducible apply aw_ret))
      | ((with_reducible apply ao_nil))
      | ((with_reducible apply r_move); exact rfl; exact rfl)
      | ((with_reducible apply r_assign); exact rfl; exact rfl)
      | ((with_reducible apply r_neq); exact rfl; exact rfl; exact rfl)
      | ((with_reducible apply r_box_a); exact rfl; exact rfl)
      | ((with_reducible apply r_pick_t); exact rfl; exact rfl; exact rfl)
      | (((with_reducible apply r_guard); exact rfl; exact rfl; exact rfl; exact rfl) <;> intro hg <;> (first | (exact absurd hg (by decide)) | ((try simp only [decide_eq_true_eq, decide_eq_false_iff_not, Bool.not_eq_true', Bool.not_eq_false', Bool.not_true, Bool.not_false, Bool.not_not, Int.not_lt, Int.not_le, Nat.not_lt, Nat.not_le, gt_iff_lt, ge_iff_le, List.cons.injEq, and_true] at hg); first | (exact absurd trivial hg) | (exfalso; omega) | (have hT : True := hg; clear hT hg) | skip)))
      | (((with_reducible apply aw_cond); exact rfl) <;> intro hg <;> (first | (exact absurd hg (by decide)) | ((try simp only [decide_eq_true_eq, decide_eq_false_iff_not, Bool.not_eq_true', Bool.not_eq_false', Bool.not_true, Bool.not_false, Bool.not_not, Int.not_lt, Int.not_le, Nat.not_lt, Nat.not_le, gt_iff_lt, ge_iff_le, List.cons.injEq, and_true] at hg); first | (exact absurd trivial hg) | (exfalso; omega) | (have hT : True := hg; clear hT hg) | skip)))
      )
    exact ret_i rfl e
  unfold winS
  rw [valL_ok h]
  by_cases hz : X.2 ≤ X.1 ∨ Y.2 ≤ Y.1 ∨ Z.2 ≤ Z.1
  · have e := (win_none l hz).symm
    repeat' (first
      | ((with_reducible apply r_call); exact rfl; exact rfl; exact hc; exact rfl; exact rfl)
      | ((with_reducible apply aw_seq))
      | ((with_reducible apply aw_region))
      | ((with_reducible apply thn_normal))
      | ((with_reducible apply thn_ret))
      | ((with_reducible apply aw_ret))
      | ((with_reducible apply ao_nil))
      | ((with_reducible apply r_move); exact rfl; exact rfl)
      | ((with_reducible apply r_assign); exact rfl; exact rfl)
      | ((with_reducible apply r_field_p); exact rfl; exact rfl)
      | ((with_reducible apply r_load_p); exact rfl; exact rfl; exact rfl; exact rfl)
      | ((with_reducible apply r_geq); exact rfl; exact rfl; exact rfl)
      | ((with_reducible apply r_neq); exact rfl; exact rfl; exact rfl)
      | ((with_reducible apply r_box_a); exact rfl; exact rfl)
      | ((with_reducible apply r_pick_t); exact rfl; exact rfl; exact rfl)
      | ((with_reducible apply r_pick_f); exact rfl; exact rfl; exact rfl)
      | (((with_reducible apply r_guard); exact rfl; exact rfl; exact rfl; exact rfl) <;> intro hg <;> (first | (exact absurd hg (by decide)) | ((try simp only [decide_eq_true_eq, decide_eq_false_iff_not, Bool.not_eq_true', Bool.not_eq_false', Bool.not_true, Bool.not_false, Bool.not_not, Int.not_lt, Int.not_le, Nat.not_lt, Nat.not_le, gt_iff_lt, ge_iff_le, List.cons.injEq, and_true] at hg); first | (exact absurd trivial hg) | (exfalso; omega) | (have hT : True := hg; clear hT hg) | skip)))
      | (((with_reducible apply aw_cond); exact rfl) <;> intro hg <;> (first | (exact absurd hg (by decide)) | ((try simp only [decide_eq_true_eq, decide_eq_false_iff_not, Bool.not_eq_true', Bool.not_eq_false', Bool.not_true, Bool.not_false, Bool.not_not, Int.not_lt, Int.not_le, Nat.not_lt, Nat.not_le, gt_iff_lt, ge_iff_le, List.cons.injEq, and_true] at hg); first | (exact absurd trivial hg) | (exfalso; omega) | (have hT : True := hg; clear hT hg) | skip)))
      )
    all_goals exact ret_i rfl e
  unfold winV
  have v := sol_V h
  have hu := v.n
  have hb := sumN_bd (c := 28800000000) (n := l.length) (fun i hi => win_bd v X Y Z hi)
  have hZ' := hZ
  unfold fits at hZ'
  repeat' (first
    | ((with_reducible apply r_call); exact rfl; exact rfl; exact hc; exact rfl; exact rfl)
    | ((with_reducible apply aw_seq))
    | ((with_reducible apply aw_region))
    | ((with_reducible apply aw_block))
    | ((with_reducible apply thn_normal))
    | ((with_reducible apply aw_skip))
    | ((with_reducible apply ao_nil))
    | ((with_reducible apply r_move); exact rfl; exact rfl)
    | ((with_reducible apply r_assign); exact rfl; exact rfl)
    | ((with_reducible apply r_field_p); exact rfl; exact rfl)
    | ((with_reducible apply r_load_p); exact rfl; exact rfl; exact rfl; exact rfl)
    | ((with_reducible apply r_geq); exact rfl; exact rfl; exact rfl)
    | ((with_reducible apply r_neq); exact rfl; exact rfl; exact rfl)
    | ((with_reducible apply r_box_a); exact rfl; exact rfl)
    | ((with_reducible apply r_pick_f); exact rfl; exact rfl; exact rfl)
    | (((with_reducible apply r_guard); exact rfl; exact rfl; exact rfl; exact rfl) <;> intro hg <;> (first | (exact absurd hg (by decide)) | ((try simp only [decide_eq_true_eq, decide_eq_false_iff_not, Bool.not_eq_true', Bool.not_eq_false', Bool.not_true, Bool.not_false, Bool.not_not, Int.not_lt, Int.not_le, Nat.not_lt, Nat.not_le, gt_iff_lt, ge_iff_le, List.cons.injEq, and_true] at hg); first | (exact absurd trivial hg) | (exfalso; omega) | (have hT : True := hg; clear hT hg) | skip)))
    | (((with_reducible apply aw_cond); exact rfl) <;> intro hg <;> (first | (exact absurd hg (by decide)) | ((try simp only [decide_eq_true_eq, decide_eq_false_iff_not, Bool.not_eq_true', Bool.not_eq_false', Bool.not_true, Bool.not_false, Bool.not_not, Int.not_lt, Int.not_le, Nat.not_lt, Nat.not_le, gt_iff_lt, ge_iff_le, List.cons.injEq, and_true] at hg); first | (exact absurd trivial hg) | (exfalso; omega) | (have hT : True := hg; clear hT hg) | skip)))
    )
  refine aw_loopG (G := Nat × Int × Int) (fun ((j, t, p) : Nat × Int × Int) => j ≤ l.length ∧ t = sumN (fun i => ovZ l Z i * inV (secD l i) X Y) j ∧ p = pos l j) (fun ((j, t, p) : Nat × Int × Int) => l.length - j) (fun ((j, t, p) : Nat × Int × Int) => [(0, .c (LL l)), (3, .ptr 0 0), (5, A t), (6, A p), (7, A j)]) (fun ((j, t, p) : Nat × Int × Int) => [(0, some (.cells 31 [A X.1, A X.2, A Y.1, A Y.2, A Z.1, A Z.2]))]) 1 (0, 0, 0) ?_ (by refine weak_mk rfl ?_ ?_ <;> repeat (first | exact envW_nil | exact heapW_nil | refine envW_cons rfl rfl ?_ | refine heapW_cons rfl rfl rfl ?_)) rfl ?_
  · exact ⟨Nat.zero_le _, rfl, rfl⟩
  rintro ⟨j, t, p⟩ hI
  try dsimp only at hI
  try dsimp only
  obtain ⟨hj, ht, hp⟩ := hI
  have hbj := hb j hj
  rw [← ht] at hbj
  by_cases hjl : j < l.length
  · have hx := win_bd v X Y Z hjl
    rw [secD_eq hjl] at hx
    have hp1 := pos_bd v (j := j) (by omega)
    have hp2 := pos_bd v (j := j + 1) (by omega)
    rw [pos_succ, lenD_eq hjl] at hp2
    have h1 := part_con (gl := gl) (max Z.1 0) (min Z.2 20000) p l[j].len (by have := v.one j hjl; unfold fits; omega)
    have hcl := clip_ov v hjl Z
    rw [← hp, lenD_eq hjl] at hcl
    rw [hcl] at h1
    have h3 := rwithin_con (gl := gl) l[j].sec X Y
    rw [inS_ok (v.chk j hjl)] at h3
    have hoz := ovZ_bd v hjl Z
    have hf : fits (ovZ l Z j * inV l[j].sec X Y) := by unfold fits; omega
    have hf2 : fits (t + ovZ l Z j * inV l[j].sec X Y) := by unfold fits; omega
    have hps : p + l[j].len = pos l (j + 1) := by rw [pos_succ, lenD_eq hjl, hp]
    repeat' (first
      | ((with_reducible apply r_call); exact rfl; exact rfl; (first | exact h1 | exact h3); exact rfl; exact rfl)
      | ((with_reducible apply aw_seq))
      | ((with_reducible apply aw_region))
      | ((with_reducible apply aw_block))
      | ((with_reducible apply thn_normal))
      | ((with_reducible apply inb_normal))
      | ((with_reducible apply aw_skip))
      | ((with_reducible apply ao_nil))
      | ((with_reducible apply r_move); exact rfl; exact rfl)
      | ((with_reducible apply r_assign); exact rfl; exact rfl)
      | ((with_reducible apply r_field_p); exact rfl; exact rfl)
      | ((with_reducible apply r_load_p); exact rfl; exact rfl; exact rfl; exact rfl)
      | ((with_reducible apply r_load_pa); exact rfl; exact rfl; exact rfl; exact rfl; exact rfl)
      | ((with_reducible apply r_lss); exact rfl; exact rfl; exact rfl)
      | ((with_reducible apply r_gtr); exact rfl; exact rfl; exact rfl)
      | ((with_reducible apply r_add); exact rfl; exact rfl; exact (by first | assumption | (unfold fits; omega)); exact rfl)
      | ((with_reducible apply r_mul); exact rfl; exact rfl; exact (by first | assumption | (unfold fits; omega)); exact rfl)
      | ((with_reducible apply r_max); exact rfl; exact rfl; exact rfl)
      | ((with_reducible apply r_min); exact rfl; exact rfl; exact rfl)
      | ((with_reducible apply r_len_f); exact rfl; exact inferInstance; exact rfl)
      | ((with_reducible apply r_index_f); exact rfl; exact inferInstance; exact rfl; exact rfl; (first | assumption | omega); exact rfl)
      | ((with_reducible apply r_load_f0); exact rfl; exact inferInstance; exact List.getElem?_eq_getElem (by first | assumption | omega); exact rfl; exact rfl)
      | ((with_reducible apply r_load_fa); exact rfl; exact inferInstance; exact List.getElem?_eq_getElem (by first | assumption | omega); exact rfl; exact rfl; exact rfl)
      | ((with_reducible apply r_field_e); exact rfl; exact rfl)
      | ((with_reducible apply r_store_pa); exact rfl; exact rfl; exact rfl; exact rfl; exact rfl; exact rfl)
      | ((with_reducible apply r_build); exact rfl; exact rfl; exact rfl)
      | ((with_reducible apply r_alloc); exact rfl)
      | (((with_reducible apply aw_cond); exact rfl) <;> intro hg <;> (first | (exact absurd hg (by decide)) | ((try simp only [decide_eq_true_eq, decide_eq_false_iff_not, Bool.not_eq_true', Bool.not_eq_false', Bool.not_true, Bool.not_false, Bool.not_not, Int.not_lt, Int.not_le, Nat.not_lt, Nat.not_le, gt_iff_lt, ge_iff_le, List.cons.injEq, and_true] at hg); first | (exact absurd trivial hg) | (exfalso; omega) | (have hT : True := hg; clear hT hg) | skip)))
      | (refine aw_drawq ?_ ?_; (kernel_rfl))
      | ((with_reducible apply ds_nil))
      )
    · skip
      refine ⟨(j + 1, t + ovZ l Z j * inV l[j].sec X Y, p + l[j].len), ?_, ?_, by refine weak_mk rfl ?_ ?_ <;> repeat (first | exact envW_nil | exact heapW_nil | refine envW_cons rfl rfl ?_ | refine heapW_cons rfl rfl rfl ?_)⟩
      · show _ - (j + 1) < _ - j; omega
      · exact ⟨by show j + 1 ≤ _; omega, by show t + _ = sumN _ j + ovZ l Z j * inV (secD l j) X Y; rw [ht, secD_eq hjl], hps⟩
    · skip
      refine ⟨(j + 1, t, p + l[j].len), ?_, ?_, by refine weak_mk rfl ?_ ?_ <;> repeat (first | exact envW_nil | exact heapW_nil | refine envW_cons rfl rfl ?_ | refine heapW_cons rfl rfl rfl ?_)⟩
      · show _ - (j + 1) < _ - j; omega
      · refine ⟨by show j + 1 ≤ _; omega, ?_, hps⟩
        show t = sumN _ j + ovZ l Z j * inV (secD l j) X Y
        rw [show ovZ l Z j = 0 by omega, Int.zero_mul, ht]; omega
  · obtain rfl : j = l.length := by omega
    repeat' (first
      | ((with_reducible apply aw_seq))
      | ((with_reducible apply aw_region))
      | ((with_reducible apply thn_normal))
      | ((with_reducible apply thn_exit))
      | ((with_reducible apply inb_exit))
      | ((with_reducible apply aw_exit))
      | ((with_reducible apply aw_ret))
      | ((with_reducible apply ao_nil))
      | ((with_reducible apply r_move); exact rfl; exact rfl)
      | ((with_reducible apply r_assign); exact rfl; exact rfl)
      | ((with_reducible apply r_lss); exact rfl; exact rfl; exact rfl)
      | ((with_reducible apply r_len_f); exact rfl; exact inferInstance; exact rfl)
      | (((with_reducible apply aw_cond); exact rfl) <;> intro hg <;> (first | (exact absurd hg (by decide)) | ((try simp only [decide_eq_true_eq, decide_eq_false_iff_not, Bool.not_eq_true', Bool.not_eq_false', Bool.not_true, Bool.not_false, Bool.not_not, Int.not_lt, Int.not_le, Nat.not_lt, Nat.not_le, gt_iff_lt, ge_iff_le, List.cons.injEq, and_true] at hg); first | (exact absurd trivial hg) | (exfalso; omega) | (have hT : True := hg; clear hT hg) | skip)))
      )
    exact ret_i rfl ht

def firstN (p : Nat → Bool) : Nat → Nat → Option Nat
  | 0, _ => none
  | k + 1, j => if p j then some j else firstN p k (j + 1)
theorem firstN_step {p : Nat → Bool} {n j : Nat} (hj : j < n) (h : p j = false) : firstN p (n - j) j = firstN p (n - (j + 1)) (j + 1) := by
  rw [show n - j = (n - (j + 1)) + 1 by omega]
  show (if p j then _ else _) = _
  rw [h]; rfl
theorem firstN_hit {p : Nat → Bool} {n j : Nat} (hj : j < n) (h : p j = true) : firstN p (n - j) j = some j := by
  rw [show n - j = (n - (j + 1)) + 1 by omega]
  show (if p j then _ else _) = _
  rw [h]; rfl
theorem firstN_none {p : Nat → Bool} : ∀ (k j : Nat), (∀ i, p i = false) → firstN p k j = none
  | 0, _, _ => rfl
  | k + 1, j, h => by show (if p j then _ else _) = _; rw [h j]; exact firstN_none k (j + 1) h
def hitZ (l : List Slc) (z : Int) (i : Nat) : Bool := decide (pos l i ≤ z ∧ z < pos l i + lenD l i)
def atOf (l : List Slc) : Option Nat → Sec × Bool
  | some i => (secD l i, true)
  | none => (sec0, false)
def atV (l : List Slc) (z : Int) : Sec × Bool := atOf l (firstN (hitZ l z) l.length 0)
noncomputable def atS (l : List Slc) (z : Int) : Sec × Bool := atV (valL l) z
def atC (r : Sec × Bool) : CV := .tup [secC r.1, .v (.bool r.2)]
set_option maxRecDepth 100000 in
set_option maxHeartbeats 4000000 in
theorem sat_con (l : List Slc) (hn : l.length ≤ maxLen) (z : Int) : Con Try.prog gl 21 [LL l, I z] (atC (atS l z)) := by
  have hv := svalid_con (gl := gl) l hn
  have v := valL_V l
  unfold atS atV
  generalize valL l = u at *
  have hu := v.n
  have he := extents_con (gl := gl) u v
  have hel := extL_len u
  refine con_of Try.func21 rfl (by kernel_rfl) rfl ?_
  simp only [Try.ntmps21, Try.results21, argEnv, ofC, of1, List.map]
  repeat' (first
    | ((with_reducible apply r_call); exact rfl; exact rfl; (first | exact hv | exact he); exact rfl; exact rfl)
    | ((with_reducible apply aw_seq))
    | ((with_reducible apply aw_region))
    | ((with_reducible apply aw_block))
    | ((with_reducible apply thn_normal))
    | ((with_reducible apply ao_nil))
    | ((with_reducible apply r_move); exact rfl; exact rfl)
    | ((with_reducible apply r_assign); exact rfl; exact rfl)
    | ((with_reducible apply r_len_f); exact rfl; exact inferInstance; exact rfl)
    | ((with_reducible apply r_alloc); exact rfl)
    )
  refine aw_loopG (G := Nat) (fun (j : Nat) => j ≤ u.length ∧ firstN (hitZ u z) u.length 0 = firstN (hitZ u z) (u.length - j) j) (fun (j : Nat) => u.length - j) (fun (j : Nat) => [(0, .c (LL u)), (1, A z), (4, .ptr 0 0), (11, .c (LS (extL u))), (12, A (extL u).length), (13, A j)]) (fun (j : Nat) => [(0, some (.cells 36 [A 0, .c (.v (.slice none 0 0))]))]) 1 0 ?_ (by refine weak_mk rfl ?_ ?_ <;> repeat (first | exact envW_nil | exact heapW_nil | refine envW_cons rfl rfl ?_ | refine heapW_cons rfl rfl rfl ?_)) rfl ?_
  · exact ⟨Nat.zero_le _, rfl⟩
  rintro j hI
  try dsimp only at hI
  try dsimp only
  obtain ⟨hj, hfi⟩ := hI
  by_cases hjl : j < u.length
  · have hg0 := extL_get u j (by omega)
    have e1 : ((extL u)[j]'(by omega)).1 = pos u j := by rw [hg0]
    have e2 : ((extL u)[j]'(by omega)).2 = pos u j + lenD u j := by rw [hg0]
    by_cases hh : pos u j ≤ z ∧ z < pos u j + lenD u j
    · have h3 := clone_con (gl := gl) u[j].sec (by have := (chk_is (v.chk j hjl)).len; omega)
      have e : atOf u (firstN (hitZ u z) u.length 0) = (u[j].sec, true) := by
        rw [hfi, firstN_hit hjl (by unfold hitZ; exact decide_eq_true hh), ← secD_eq hjl]; rfl
      rw [e]
      repeat' (first
        | ((with_reducible apply r_call); exact rfl; exact rfl; exact h3; exact rfl; exact rfl)
        | ((with_reducible apply aw_seq))
        | ((with_reducible apply aw_region))
        | ((with_reducible apply aw_block))
        | ((with_reducible apply thn_normal))
        | ((with_reducible apply thn_ret))
        | ((with_reducible apply inb_ret))
        | ((with_reducible apply aw_skip))
        | ((with_reducible apply aw_ret))
        | ((with_reducible apply ao_nil))
        | ((with_reducible apply r_move); exact rfl; exact rfl)
        | ((with_reducible apply r_assign); exact rfl; exact rfl)
        | ((with_reducible apply r_field_p); exact rfl; exact rfl)
        | ((with_reducible apply r_load_p); exact rfl; exact rfl; exact rfl; exact rfl)
        | ((with_reducible apply r_lss); exact rfl; exact rfl; exact rfl)
        | ((with_reducible apply r_leq); exact rfl; exact rfl; exact rfl)
        | ((with_reducible apply r_pick_t); exact rfl; exact rfl; exact rfl)
        | ((with_reducible apply r_index_f); exact rfl; exact inferInstance; exact rfl; exact rfl; (first | assumption | omega); exact rfl)
        | ((with_reducible apply r_load_fa0); exact rfl; exact inferInstance; exact List.getElem?_eq_getElem (by first | assumption | omega); exact rfl; exact rfl; exact rfl)
        | ((with_reducible apply r_load_fa); exact rfl; exact inferInstance; exact List.getElem?_eq_getElem (by first | assumption | omega); exact rfl; exact rfl; exact rfl)
        | ((with_reducible apply r_field_e); exact rfl; exact rfl)
        | ((with_reducible apply r_store_pa); exact rfl; exact rfl; exact rfl; exact rfl; exact rfl; exact rfl)
        | ((with_reducible apply r_alloc); exact rfl)
        | (((with_reducible apply r_guard); exact rfl; exact rfl; exact rfl; exact rfl) <;> intro hg <;> (first | (exact absurd hg (by decide)) | ((try simp only [decide_eq_true_eq, decide_eq_false_iff_not, Bool.not_eq_true', Bool.not_eq_false', Bool.not_true, Bool.not_false, Bool.not_not, Int.not_lt, Int.not_le, Nat.not_lt, Nat.not_le, gt_iff_lt, ge_iff_le, List.cons.injEq, and_true] at hg); first | (exact absurd trivial hg) | (exfalso; omega) | (have hT : True := hg; clear hT hg) | skip)))
        | (((with_reducible apply aw_cond); exact rfl) <;> intro hg <;> (first | (exact absurd hg (by decide)) | ((try simp only [decide_eq_true_eq, decide_eq_false_iff_not, Bool.not_eq_true', Bool.not_eq_false', Bool.not_true, Bool.not_false, Bool.not_not, Int.not_lt, Int.not_le, Nat.not_lt, Nat.not_le, gt_iff_lt, ge_iff_le, List.cons.injEq, and_true] at hg); first | (exact absurd trivial hg) | (exfalso; omega) | (have hT : True := hg; clear hT hg) | skip)))
        )
      exact ret2 (.cons (.cell_a inferInstance rfl rfl rfl rfl (cl_cons cl_c (cl_cons cl_c cl_nil))) (.cons (.tmp rfl cl_c) .nil))
    · skip
      repeat' (first
        | ((with_reducible apply aw_seq))
        | ((with_reducible apply aw_region))
        | ((with_reducible apply aw_block))
        | ((with_reducible apply thn_normal))
        | ((with_reducible apply inb_normal))
        | ((with_reducible apply aw_skip))
        | ((with_reducible apply ao_nil))
        | ((with_reducible apply r_move); exact rfl; exact rfl)
        | ((with_reducible apply r_assign); exact rfl; exact rfl)
        | ((with_reducible apply r_field_p); exact rfl; exact rfl)
        | ((with_reducible apply r_load_p); exact rfl; exact rfl; exact rfl; exact rfl)
        | ((with_reducible apply r_lss); exact rfl; exact rfl; exact rfl)
        | ((with_reducible apply r_leq); exact rfl; exact rfl; exact rfl)
        | ((with_reducible apply r_add); exact rfl; exact rfl; exact (by first | assumption | (unfold fits; omega)); exact rfl)
        | ((with_reducible apply r_pick_t); exact rfl; exact rfl; exact rfl)
        | ((with_reducible apply r_pick_f); exact rfl; exact rfl; exact rfl)
        | ((with_reducible apply r_index_f); exact rfl; exact inferInstance; exact rfl; exact rfl; (first | assumption | omega); exact rfl)
        | ((with_reducible apply r_load_fa0); exact rfl; exact inferInstance; exact List.getElem?_eq_getElem (by first | assumption | omega); exact rfl; exact rfl; exact rfl)
        | ((with_reducible apply r_store_pa); exact rfl; exact rfl; exact rfl; exact rfl; exact rfl; exact rfl)
        | ((with_reducible apply r_alloc); exact rfl)
        | (((with_reducible apply r_guard); exact rfl; exact rfl; exact rfl; exact rfl) <;> intro hg <;> (first | (exact absurd hg (by decide)) | ((try simp only [decide_eq_true_eq, decide_eq_false_iff_not, Bool.not_eq_true', Bool.not_eq_false', Bool.not_true, Bool.not_false, Bool.not_not, Int.not_lt, Int.not_le, Nat.not_lt, Nat.not_le, gt_iff_lt, ge_iff_le, List.cons.injEq, and_true] at hg); first | (exact absurd trivial hg) | (exfalso; omega) | (have hT : True := hg; clear hT hg) | skip)))
        | (((with_reducible apply aw_cond); exact rfl) <;> intro hg <;> (first | (exact absurd hg (by decide)) | ((try simp only [decide_eq_true_eq, decide_eq_false_iff_not, Bool.not_eq_true', Bool.not_eq_false', Bool.not_true, Bool.not_false, Bool.not_not, Int.not_lt, Int.not_le, Nat.not_lt, Nat.not_le, gt_iff_lt, ge_iff_le, List.cons.injEq, and_true] at hg); first | (exact absurd trivial hg) | (exfalso; omega) | (have hT : True := hg; clear hT hg) | skip)))
        )
      all_goals
        refine ⟨j + 1, ?_, ?_, by refine weak_mk rfl ?_ ?_ <;> repeat (first | exact envW_nil | exact heapW_nil | refine envW_cons rfl rfl ?_ | refine heapW_cons rfl rfl rfl ?_)⟩
        · show _ - (j + 1) < _ - j; omega
        · exact ⟨by show j + 1 ≤ _; omega, hfi.trans (firstN_step hjl (by unfold hitZ; exact decide_eq_false hh))⟩
  · obtain rfl : j = u.length := by omega
    have e : atOf u (firstN (hitZ u z) u.length 0) = (sec0, false) := by rw [hfi, Nat.sub_self]; rfl
    rw [e]
    repeat' (first
      | ((with_reducible apply aw_seq))
      | ((with_reducible apply aw_region))
      | ((with_reducible apply thn_normal))
      | ((with_reducible apply thn_exit))
      | ((with_reducible apply inb_exit))
      | ((with_reducible apply aw_exit))
      | ((with_reducible apply aw_ret))
      | ((with_reducible apply ao_nil))
      | ((with_reducible apply r_assign); exact rfl; exact rfl)
      | ((with_reducible apply r_lss); exact rfl; exact rfl; exact rfl)
      | ((with_reducible apply r_store_pa); exact rfl; exact rfl; exact rfl; exact rfl; exact rfl; exact rfl)
      | ((with_reducible apply r_build); exact rfl; exact rfl; exact rfl)
      | (((with_reducible apply aw_cond); exact rfl) <;> intro hg <;> (first | (exact absurd hg (by decide)) | ((try simp only [decide_eq_true_eq, decide_eq_false_iff_not, Bool.not_eq_true', Bool.not_eq_false', Bool.not_true, Bool.not_false, Bool.not_not, Int.not_lt, Int.not_le, Nat.not_lt, Nat.not_le, gt_iff_lt, ge_iff_le, List.cons.injEq, and_true] at hg); first | (exact absurd trivial hg) | (exfalso; omega) | (have hT : True := hg; clear hT hg) | skip)))
      )
    exact ret2 (.cons (.cell_a inferInstance rfl rfl rfl rfl (cl_cons cl_c (cl_cons cl_none cl_nil))) (.cons (.tmp rfl cl_c) .nil))
set_option maxRecDepth 100000 in
set_option maxHeartbeats 4000000 in
theorem rsat_con (l : List Slc) (hn : l.length ≤ maxLen) (z : Int) : Con Try.prog gl 22 [LL l, I z] (atC (atS l z)) := by
  have hc := rscheck_con (gl := gl) l hn
  refine con_of Try.func22 rfl (by kernel_rfl) rfl ?_
  simp only [Try.ntmps22, Try.results22, argEnv, ofC, of1, List.map]
  by_cases h : solChk l = 0
  rotate_left
  · have e : atS l z = (sec0, false) := by unfold atS; rw [valL_no h]; rfl
    rw [e]
    repeat' (first
      | ((with_reducible apply r_call); exact rfl; exact rfl; exact hc; exact rfl; exact rfl)
      | ((with_reducible apply aw_seq))
      | ((with_reducible apply aw_region))
      | ((with_reducible apply thn_normal))
      | ((with_reducible apply thn_ret))
      | ((with_reducible apply aw_ret))
      | ((with_reducible apply ao_nil))
      | ((with_reducible apply r_move); exact rfl; exact rfl)
      | ((with_reducible apply r_assign); exact rfl; exact rfl)
      | ((with_reducible apply r_neq); exact rfl; exact rfl; exact rfl)
      | ((with_reducible apply r_pick_t); exact rfl; exact rfl; exact rfl)
      | ((with_reducible apply r_store_pa); exact rfl; exact rfl; exact rfl; exact rfl; exact rfl; exact rfl)
      | ((with_reducible apply r_build); exact rfl; exact rfl; exact rfl)
      | ((with_reducible apply r_alloc); exact rfl)
      | (((with_reducible apply r_guard); exact rfl; exact rfl; exact rfl; exact rfl) <;> intro hg <;> (first | (exact absurd hg (by decide)) | ((try simp only [decide_eq_true_eq, decide_eq_false_iff_not, Bool.not_eq_true', Bool.not_eq_false', Bool.not_true, Bool.not_false, Bool.not_not, Int.not_lt, Int.not_le, Nat.not_lt, Nat.not_le, gt_iff_lt, ge_iff_le, List.cons.injEq, and_true] at hg); first | (exact absurd trivial hg) | (exfalso; omega) | (have hT : True := hg; clear hT hg) | skip)))
      | (((with_reducible apply aw_cond); exact rfl) <;> intro hg <;> (first | (exact absurd hg (by decide)) | ((try simp only [decide_eq_true_eq, decide_eq_false_iff_not, Bool.not_eq_true', Bool.not_eq_false', Bool.not_true, Bool.not_false, Bool.not_not, Int.not_lt, Int.not_le, Nat.not_lt, Nat.not_le, gt_iff_lt, ge_iff_le, List.cons.injEq, and_true] at hg); first | (exact absurd trivial hg) | (exfalso; omega) | (have hT : True := hg; clear hT hg) | skip)))
      )
    exact ret2 (.cons (.cell_a inferInstance rfl rfl rfl rfl (cl_cons cl_c (cl_cons cl_none cl_nil))) (.cons (.tmp rfl cl_c) .nil))
  unfold atS atV
  rw [valL_ok h]
  have v := sol_V h
  have hu := v.n
  by_cases hz : z < 0
  · have e : atOf l (firstN (hitZ l z) l.length 0) = (sec0, false) := by
      have hnone : ∀ (k j : Nat), j + k = l.length → firstN (hitZ l z) k j = none := by
        intro k
        induction k with
        | zero => intro j _; rfl
        | succ k ih =>
          intro j hj
          show (if hitZ l z j then _ else _) = _
          have := pos_bd v (j := j) (by omega)
          rw [show hitZ l z j = false from decide_eq_false (by omega)]
          exact ih (j + 1) (by omega)
      rw [hnone l.length 0 (by omega)]; rfl
    rw [e]
    repeat' (first
      | ((with_reducible apply r_call); exact rfl; exact rfl; exact hc; exact rfl; exact rfl)
      | ((with_reducible apply aw_seq))
      | ((with_reducible apply aw_region))
      | ((with_reducible apply thn_normal))
      | ((with_reducible apply thn_ret))
      | ((with_reducible apply aw_ret))
      | ((with_reducible apply ao_nil))
      | ((with_reducible apply r_move); exact rfl; exact rfl)
      | ((with_reducible apply r_assign); exact rfl; exact rfl)
      | ((with_reducible apply r_lss); exact rfl; exact rfl; exact rfl)
      | ((with_reducible apply r_neq); exact rfl; exact rfl; exact rfl)
      | ((with_reducible apply r_pick_f); exact rfl; exact rfl; exact rfl)
      | ((with_reducible apply r_store_pa); exact rfl; exact rfl; exact rfl; exact rfl; exact rfl; exact rfl)
      | ((with_reducible apply r_build); exact rfl; exact rfl; exact rfl)
      | ((with_reducible apply r_alloc); exact rfl)
      | (((with_reducible apply r_guard); exact rfl; exact rfl; exact rfl; exact rfl) <;> intro hg <;> (first | (exact absurd hg (by decide)) | ((try simp only [decide_eq_true_eq, decide_eq_false_iff_not, Bool.not_eq_true', Bool.not_eq_false', Bool.not_true, Bool.not_false, Bool.not_not, Int.not_lt, Int.not_le, Nat.not_lt, Nat.not_le, gt_iff_lt, ge_iff_le, List.cons.injEq, and_true] at hg); first | (exact absurd trivial hg) | (exfalso; omega) | (have hT : True := hg; clear hT hg) | skip)))
      | (((with_reducible apply aw_cond); exact rfl) <;> intro hg <;> (first | (exact absurd hg (by decide)) | ((try simp only [decide_eq_true_eq, decide_eq_false_iff_not, Bool.not_eq_true', Bool.not_eq_false', Bool.not_true, Bool.not_false, Bool.not_not, Int.not_lt, Int.not_le, Nat.not_lt, Nat.not_le, gt_iff_lt, ge_iff_le, List.cons.injEq, and_true] at hg); first | (exact absurd trivial hg) | (exfalso; omega) | (have hT : True := hg; clear hT hg) | skip)))
      )
    exact ret2 (.cons (.cell_a inferInstance rfl rfl rfl rfl (cl_cons cl_c (cl_cons cl_none cl_nil))) (.cons (.tmp rfl cl_c) .nil))
  repeat' (first
    | ((with_reducible apply r_call); exact rfl; exact rfl; exact hc; exact rfl; exact rfl)
    | ((with_reducible apply aw_seq))
    | ((with_reducible apply aw_region))
    | ((with_reducible apply aw_block))
    | ((with_reducible apply thn_normal))
    | ((with_reducible apply aw_skip))
    | ((with_reducible apply ao_nil))
    | ((with_reducible apply r_move); exact rfl; exact rfl)
    | ((with_reducible apply r_assign); exact rfl; exact rfl)
    | ((with_reducible apply r_lss); exact rfl; exact rfl; exact rfl)
    | ((with_reducible apply r_neq); exact rfl; exact rfl; exact rfl)
    | ((with_reducible apply r_pick_f); exact rfl; exact rfl; exact rfl)
    | ((with_reducible apply r_alloc); exact rfl)
    | (((with_reducible apply r_guard); exact rfl; exact rfl; exact rfl; exact rfl) <;> intro hg <;> (first | (exact absurd hg (by decide)) | ((try simp only [decide_eq_true_eq, decide_eq_false_iff_not, Bool.not_eq_true', Bool.not_eq_false', Bool.not_true, Bool.not_false, Bool.not_not, Int.not_lt, Int.not_le, Nat.not_lt, Nat.not_le, gt_iff_lt, ge_iff_le, List.cons.injEq, and_true] at hg); first | (exact absurd trivial hg) | (exfalso; omega) | (have hT : True := hg; clear hT hg) | skip)))
    | (((with_reducible apply aw_cond); exact rfl) <;> intro hg <;> (first | (exact absurd hg (by decide)) | ((try simp only [decide_eq_true_eq, decide_eq_false_iff_not, Bool.not_eq_true', Bool.not_eq_false', Bool.not_true, Bool.not_false, Bool.not_not, Int.not_lt, Int.not_le, Nat.not_lt, Nat.not_le, gt_iff_lt, ge_iff_le, List.cons.injEq, and_true] at hg); first | (exact absurd trivial hg) | (exfalso; omega) | (have hT : True := hg; clear hT hg) | skip)))
    )
  refine aw_loopG (G := Nat × Int) (fun ((j, p) : Nat × Int) => j ≤ l.length ∧ p = pos l j ∧ p ≤ z ∧ firstN (hitZ l z) l.length 0 = firstN (hitZ l z) (l.length - j) j) (fun ((j, p) : Nat × Int) => l.length - j) (fun ((j, p) : Nat × Int) => [(0, .c (LL l)), (1, A z), (4, .ptr 0 0), (6, A p), (7, A j)]) (fun ((j, p) : Nat × Int) => [(0, some (.cells 36 [A 0, .c (.v (.slice none 0 0))]))]) 1 (0, 0) ?_ (by refine weak_mk rfl ?_ ?_ <;> repeat (first | exact envW_nil | exact heapW_nil | refine envW_cons rfl rfl ?_ | refine heapW_cons rfl rfl rfl ?_)) rfl ?_
  · exact ⟨Nat.zero_le _, rfl, by show (0 : Int) ≤ z; omega, rfl⟩
  rintro ⟨j, p⟩ hI
  try dsimp only at hI
  try dsimp only
  obtain ⟨hj, hp, hpz, hfi⟩ := hI
  by_cases hjl : j < l.length
  · have hp1 := pos_bd v (j := j) (by omega)
    have hp2 := pos_bd v (j := j + 1) (by omega)
    rw [pos_succ, lenD_eq hjl] at hp2
    by_cases hh : z < p + l[j].len
    · have e : atOf l (firstN (hitZ l z) l.length 0) = (l[j].sec, true) := by
        rw [hfi, firstN_hit hjl (by unfold hitZ; exact decide_eq_true (by rw [lenD_eq hjl]; omega)), ← secD_eq hjl]; rfl
      rw [e]
      repeat' (first
        | ((with_reducible apply aw_seq))
        | ((with_reducible apply aw_region))
        | ((with_reducible apply aw_block))
        | ((with_reducible apply thn_normal))
        | ((with_reducible apply thn_ret))
        | ((with_reducible apply inb_ret))
        | ((with_reducible apply aw_skip))
        | ((with_reducible apply aw_ret))
        | ((with_reducible apply ao_nil))
        | ((with_reducible apply r_move); exact rfl; exact rfl)
        | ((with_reducible apply r_assign); exact rfl; exact rfl)
        | ((with_reducible apply r_lss); exact rfl; exact rfl; exact rfl)
        | ((with_reducible apply r_add); exact rfl; exact rfl; exact (by first | assumption | (unfold fits; omega)); exact rfl)
        | ((with_reducible apply r_len_f); exact rfl; exact inferInstance; exact rfl)
        | ((with_reducible apply r_index_f); exact rfl; exact inferInstance; exact rfl; exact rfl; (first | assumption | omega); exact rfl)
        | ((with_reducible apply r_load_f0); exact rfl; exact inferInstance; exact List.getElem?_eq_getElem (by first | assumption | omega); exact rfl; exact rfl)
        | ((with_reducible apply r_load_fa); exact rfl; exact inferInstance; exact List.getElem?_eq_getElem (by first | assumption | omega); exact rfl; exact rfl; exact rfl)
        | ((with_reducible apply r_field_e); exact rfl; exact rfl)
        | ((with_reducible apply r_store_pa); exact rfl; exact rfl; exact rfl; exact rfl; exact rfl; exact rfl)
        | (((with_reducible apply aw_cond); exact rfl) <;> intro hg <;> (first | (exact absurd hg (by decide)) | ((try simp only [decide_eq_true_eq, decide_eq_false_iff_not, Bool.not_eq_true', Bool.not_eq_false', Bool.not_true, Bool.not_false, Bool.not_not, Int.not_lt, Int.not_le, Nat.not_lt, Nat.not_le, gt_iff_lt, ge_iff_le, List.cons.injEq, and_true] at hg); first | (exact absurd trivial hg) | (exfalso; omega) | (have hT : True := hg; clear hT hg) | skip)))
        )
      exact ret2 (.cons (.cell_a inferInstance rfl rfl rfl rfl (cl_cons cl_c (cl_cons cl_c cl_nil))) (.cons (.tmp rfl cl_c) .nil))
    · skip
      repeat' (first
        | ((with_reducible apply aw_seq))
        | ((with_reducible apply aw_region))
        | ((with_reducible apply aw_block))
        | ((with_reducible apply thn_normal))
        | ((with_reducible apply inb_normal))
        | ((with_reducible apply aw_skip))
        | ((with_reducible apply ao_nil))
        | ((with_reducible apply r_move); exact rfl; exact rfl)
        | ((with_reducible apply r_assign); exact rfl; exact rfl)
        | ((with_reducible apply r_lss); exact rfl; exact rfl; exact rfl)
        | ((with_reducible apply r_add); exact rfl; exact rfl; exact (by first | assumption | (unfold fits; omega)); exact rfl)
        | ((with_reducible apply r_len_f); exact rfl; exact inferInstance; exact rfl)
        | ((with_reducible apply r_index_f); exact rfl; exact inferInstance; exact rfl; exact rfl; (first | assumption | omega); exact rfl)
        | ((with_reducible apply r_load_f0); exact rfl; exact inferInstance; exact List.getElem?_eq_getElem (by first | assumption | omega); exact rfl; exact rfl)
        | ((with_reducible apply r_field_e); exact rfl; exact rfl)
        | (((with_reducible apply aw_cond); exact rfl) <;> intro hg <;> (first | (exact absurd hg (by decide)) | ((try simp only [decide_eq_true_eq, decide_eq_false_iff_not, Bool.not_eq_true', Bool.not_eq_false', Bool.not_true, Bool.not_false, Bool.not_not, Int.not_lt, Int.not_le, Nat.not_lt, Nat.not_le, gt_iff_lt, ge_iff_le, List.cons.injEq, and_true] at hg); first | (exact absurd trivial hg) | (exfalso; omega) | (have hT : True := hg; clear hT hg) | skip)))
        )
      refine ⟨(j + 1, p + l[j].len), ?_, ?_, by refine weak_mk rfl ?_ ?_ <;> repeat (first | exact envW_nil | exact heapW_nil | refine envW_cons rfl rfl ?_ | refine heapW_cons rfl rfl rfl ?_)⟩
      · show _ - (j + 1) < _ - j; omega
      · exact ⟨by show j + 1 ≤ _; omega, by show p + l[j].len = _; rw [pos_succ, lenD_eq hjl, hp], by show p + l[j].len ≤ z; omega, hfi.trans (firstN_step hjl (by unfold hitZ; exact decide_eq_false (by rw [lenD_eq hjl]; omega)))⟩
  · obtain rfl : j = l.length := by omega
    have e : atOf l (firstN (hitZ l z) l.length 0) = (sec0, false) := by rw [hfi, Nat.sub_self]; rfl
    rw [e]
    repeat' (first
      | ((with_reducible apply aw_seq))
      | ((with_reducible apply aw_region))
      | ((with_reducible apply thn_normal))
      | ((with_reducible apply thn_exit))
      | ((with_reducible apply inb_exit))
      | ((with_reducible apply aw_exit))
      | ((with_reducible apply aw_ret))
      | ((with_reducible apply ao_nil))
      | ((with_reducible apply r_move); exact rfl; exact rfl)
      | ((with_reducible apply r_assign); exact rfl; exact rfl)
      | ((with_reducible apply r_lss); exact rfl; exact rfl; exact rfl)
      | ((with_reducible apply r_len_f); exact rfl; exact inferInstance; exact rfl)
      | ((with_reducible apply r_store_pa); exact rfl; exact rfl; exact rfl; exact rfl; exact rfl; exact rfl)
      | ((with_reducible apply r_build); exact rfl; exact rfl; exact rfl)
      | (((with_reducible apply aw_cond); exact rfl) <;> intro hg <;> (first | (exact absurd hg (by decide)) | ((try simp only [decide_eq_true_eq, decide_eq_false_iff_not, Bool.not_eq_true', Bool.not_eq_false', Bool.not_true, Bool.not_false, Bool.not_not, Int.not_lt, Int.not_le, Nat.not_lt, Nat.not_le, gt_iff_lt, ge_iff_le, List.cons.injEq, and_true] at hg); first | (exact absurd trivial hg) | (exfalso; omega) | (have hT : True := hg; clear hT hg) | skip)))
      )
    exact ret2 (.cons (.cell_a inferInstance rfl rfl rfl rfl (cl_cons cl_c (cl_cons cl_none cl_nil))) (.cons (.tmp rfl cl_c) .nil))

/-- The parts of the first slices along Z. -/
def cutN (l : List Slc) (Z : Span) : Nat → List Slc
  | 0 => []
  | j + 1 => if 0 < ovZ l Z j then cutN l Z j ++ [⟨ovZ l Z j, secD l j⟩] else cutN l Z j
def cutV (l : List Slc) (Z : Span) : List Slc := cutN l Z l.length
noncomputable def cutS (l : List Slc) (Z : Span) : List Slc := cutV (valL l) Z
theorem cutN_len (l : List Slc) (Z : Span) : ∀ j, (cutN l Z j).length ≤ j
  | 0 => Nat.le_refl _
  | j + 1 => by
    have := cutN_len l Z j
    unfold cutN; split
    · simp; omega
    · omega
theorem cutN_yes {l : List Slc} {Z : Span} {j : Nat} (h : 0 < ovZ l Z j) : cutN l Z j ++ [⟨ovZ l Z j, secD l j⟩] = cutN l Z (j + 1) := by
  show _ = if 0 < ovZ l Z j then cutN l Z j ++ [⟨ovZ l Z j, secD l j⟩] else cutN l Z j
  rw [if_pos h]
theorem cutN_no {l : List Slc} {Z : Span} {j : Nat} (h : ¬ 0 < ovZ l Z j) : cutN l Z j = cutN l Z (j + 1) := by
  show _ = if 0 < ovZ l Z j then cutN l Z j ++ [⟨ovZ l Z j, secD l j⟩] else cutN l Z j
  rw [if_neg h]
set_option maxRecDepth 100000 in
set_option maxHeartbeats 4000000 in
theorem scut_con (l : List Slc) (hn : l.length ≤ maxLen) (Z : Span) : Con Try.prog gl 25 [LL l, spV Z] (LL (cutS l Z)) := by
  have hv := svalid_con (gl := gl) l hn
  have v := valL_V l
  unfold cutS cutV
  generalize valL l = u at *
  have hu := v.n
  have he := extents_con (gl := gl) u v
  have hel := extL_len u
  refine con_of Try.func25 rfl (by kernel_rfl) rfl ?_
  simp only [Try.ntmps25, Try.results25, argEnv, ofC, of1, List.map]
  repeat' (first
    | ((with_reducible apply r_call); exact rfl; exact rfl; (first | exact hv | exact he); exact rfl; exact rfl)
    | ((with_reducible apply aw_seq))
    | ((with_reducible apply aw_region))
    | ((with_reducible apply aw_block))
    | ((with_reducible apply thn_normal))
    | ((with_reducible apply ao_nil))
    | ((with_reducible apply r_move); exact rfl; exact rfl)
    | ((with_reducible apply r_assign); exact rfl; exact rfl)
    | ((with_reducible apply r_box_a); exact rfl; exact rfl)
    | ((with_reducible apply r_len_f); exact rfl; exact inferInstance; exact rfl)
    )
  refine aw_nilvec 5 60 3 rfl rfl ?_
  refine aw_loopG (G := Nat × Nat) (fun ((j, k) : Nat × Nat) => j ≤ u.length ∧ (cutN u Z j).length = k) (fun ((j, k) : Nat × Nat) => u.length - j) (fun ((j, k) : Nat × Nat) => [(0, .c (LL u)), (3, .ptr 0 0), (5, .vec 1 k), (12, .c (LS (extL u))), (13, A (extL u).length), (14, A j)]) (fun ((j, k) : Nat × Nat) => [(0, some (.cells 29 [A Z.1, A Z.2])), (1, some (.vec 60 3 ((cutN u Z j).flatMap slcC)))]) 2 (0, 0) ?_ (by refine weak_mk rfl ?_ ?_ <;> repeat (first | exact envW_nil | exact heapW_nil | refine envW_cons rfl rfl ?_ | refine heapW_cons rfl rfl rfl ?_)) rfl ?_
  · exact ⟨Nat.zero_le _, rfl⟩
  rintro ⟨j, k⟩ hI
  try dsimp only at hI
  try dsimp only
  obtain ⟨hj, hk⟩ := hI
  have hcl := cutN_len u Z j
  by_cases hjl : j < u.length
  · have hg0 := extL_get u j (by omega)
    have h1 := meet_con (gl := gl) ((extL u)[j]'(by omega)).1 ((extL u)[j]'(by omega)).2 Z.1 Z.2
    have h2 := ext_meet (gl := gl) v hjl Z
    rw [← hg0] at h2
    have h3 := clone_con (gl := gl) u[j].sec (by have := (chk_is (v.chk j hjl)).len; omega)
    have hsd := secD_eq hjl
    by_cases hpo : 0 < ovZ u Z j
    · skip
      repeat' (first
        | ((with_reducible apply r_call); exact rfl; exact rfl; (first | exact h1 | exact h2 | exact h3); exact rfl; exact rfl)
        | ((with_reducible apply (r_push (enc := slcC) (l := cutN u Z j) (x0 := (⟨ovZ u Z j, u[j].sec⟩ : Slc)))); exact rfl; exact rfl; exact inferInstance; exact hk; exact rfl; exact rfl; exact rfl; exact (by omega); exact (by omega); exact rfl)
        | ((with_reducible apply aw_seq))
        | ((with_reducible apply aw_region))
        | ((with_reducible apply aw_block))
        | ((with_reducible apply thn_normal))
        | ((with_reducible apply inb_normal))
        | ((with_reducible apply aw_skip))
        | ((with_reducible apply ao_nil))
        | ((with_reducible apply r_move); exact rfl; exact rfl)
        | ((with_reducible apply r_assign); exact rfl; exact rfl)
        | ((with_reducible apply r_load_pa); exact rfl; exact rfl; exact rfl; exact rfl; exact rfl)
        | ((with_reducible apply r_lss); exact rfl; exact rfl; exact rfl)
        | ((with_reducible apply r_gtr); exact rfl; exact rfl; exact rfl)
        | ((with_reducible apply r_add); exact rfl; exact rfl; exact (by first | assumption | (unfold fits; omega)); exact rfl)
        | ((with_reducible apply r_index_f); exact rfl; exact inferInstance; exact rfl; exact rfl; (first | assumption | omega); exact rfl)
        | ((with_reducible apply r_load_fa0); exact rfl; exact inferInstance; exact List.getElem?_eq_getElem (by first | assumption | omega); exact rfl; exact rfl; exact rfl)
        | ((with_reducible apply r_load_fa); exact rfl; exact inferInstance; exact List.getElem?_eq_getElem (by first | assumption | omega); exact rfl; exact rfl; exact rfl)
        | ((with_reducible apply r_field_e); exact rfl; exact rfl)
        | ((with_reducible apply r_store_pa); exact rfl; exact rfl; exact rfl; exact rfl; exact rfl; exact rfl)
        | ((with_reducible apply r_build); exact rfl; exact rfl; exact rfl)
        | ((with_reducible apply r_alloc); exact rfl)
        | (((with_reducible apply aw_cond); exact rfl) <;> intro hg <;> (first | (exact absurd hg (by decide)) | ((try simp only [decide_eq_true_eq, decide_eq_false_iff_not, Bool.not_eq_true', Bool.not_eq_false', Bool.not_true, Bool.not_false, Bool.not_not, Int.not_lt, Int.not_le, Nat.not_lt, Nat.not_le, gt_iff_lt, ge_iff_le, List.cons.injEq, and_true] at hg); first | (exact absurd trivial hg) | (exfalso; omega) | (have hT : True := hg; clear hT hg) | skip)))
        | ((with_reducible apply r_lit); exact rfl; exact rfl; exact rfl; exact rfl; exact rfl; exact rfl; exact rfl)
        )
      rw [← hsd, cutN_yes hpo]
      refine ⟨(j + 1, k + 1), ?_, ?_, by refine weak_mk rfl ?_ ?_ <;> repeat (first | exact envW_nil | exact heapW_nil | refine envW_cons rfl rfl ?_ | refine heapW_cons rfl rfl rfl ?_)⟩
      · show _ - (j + 1) < _ - j; omega
      · exact ⟨by show j + 1 ≤ _; omega, by show (cutN u Z (j + 1)).length = k + 1; rw [← cutN_yes hpo]; simp [hk]⟩
    · skip
      repeat' (first
        | ((with_reducible apply r_call); exact rfl; exact rfl; (first | exact h1 | exact h2 | exact h3); exact rfl; exact rfl)
        | ((with_reducible apply aw_seq))
        | ((with_reducible apply aw_region))
        | ((with_reducible apply aw_block))
        | ((with_reducible apply thn_normal))
        | ((with_reducible apply inb_normal))
        | ((with_reducible apply aw_skip))
        | ((with_reducible apply ao_nil))
        | ((with_reducible apply r_move); exact rfl; exact rfl)
        | ((with_reducible apply r_assign); exact rfl; exact rfl)
        | ((with_reducible apply r_load_pa); exact rfl; exact rfl; exact rfl; exact rfl; exact rfl)
        | ((with_reducible apply r_lss); exact rfl; exact rfl; exact rfl)
        | ((with_reducible apply r_gtr); exact rfl; exact rfl; exact rfl)
        | ((with_reducible apply r_add); exact rfl; exact rfl; exact (by first | assumption | (unfold fits; omega)); exact rfl)
        | ((with_reducible apply r_index_f); exact rfl; exact inferInstance; exact rfl; exact rfl; (first | assumption | omega); exact rfl)
        | ((with_reducible apply r_load_fa0); exact rfl; exact inferInstance; exact List.getElem?_eq_getElem (by first | assumption | omega); exact rfl; exact rfl; exact rfl)
        | ((with_reducible apply r_store_pa); exact rfl; exact rfl; exact rfl; exact rfl; exact rfl; exact rfl)
        | ((with_reducible apply r_alloc); exact rfl)
        | (((with_reducible apply aw_cond); exact rfl) <;> intro hg <;> (first | (exact absurd hg (by decide)) | ((try simp only [decide_eq_true_eq, decide_eq_false_iff_not, Bool.not_eq_true', Bool.not_eq_false', Bool.not_true, Bool.not_false, Bool.not_not, Int.not_lt, Int.not_le, Nat.not_lt, Nat.not_le, gt_iff_lt, ge_iff_le, List.cons.injEq, and_true] at hg); first | (exact absurd trivial hg) | (exfalso; omega) | (have hT : True := hg; clear hT hg) | skip)))
        )
      rw [cutN_no hpo]
      refine ⟨(j + 1, k), ?_, ?_, by refine weak_mk rfl ?_ ?_ <;> repeat (first | exact envW_nil | exact heapW_nil | refine envW_cons rfl rfl ?_ | refine heapW_cons rfl rfl rfl ?_)⟩
      · show _ - (j + 1) < _ - j; omega
      · exact ⟨by show j + 1 ≤ _; omega, by show (cutN u Z (j + 1)).length = k; rw [← cutN_no hpo]; exact hk⟩
  · obtain rfl : j = u.length := by omega
    repeat' (first
      | ((with_reducible apply aw_seq))
      | ((with_reducible apply aw_region))
      | ((with_reducible apply thn_normal))
      | ((with_reducible apply thn_exit))
      | ((with_reducible apply inb_exit))
      | ((with_reducible apply aw_exit))
      | ((with_reducible apply aw_ret))
      | ((with_reducible apply ao_nil))
      | ((with_reducible apply r_move); exact rfl; exact rfl)
      | ((with_reducible apply r_assign); exact rfl; exact rfl)
      | ((with_reducible apply r_lss); exact rfl; exact rfl; exact rfl)
      | (((with_reducible apply aw_cond); exact rfl) <;> intro hg <;> (first | (exact absurd hg (by decide)) | ((try simp only [decide_eq_true_eq, decide_eq_false_iff_not, Bool.not_eq_true', Bool.not_eq_false', Bool.not_true, Bool.not_false, Bool.not_not, Int.not_lt, Int.not_le, Nat.not_lt, Nat.not_le, gt_iff_lt, ge_iff_le, List.cons.injEq, and_true] at hg); first | (exact absurd trivial hg) | (exfalso; omega) | (have hT : True := hg; clear hT hg) | skip)))
      )
    exact ret1 (.tmp rfl (cl_vec rfl (by rw [flat_len EncL.len, hk])))
set_option maxRecDepth 100000 in
set_option maxHeartbeats 4000000 in
theorem rscut_con (l : List Slc) (hn : l.length ≤ maxLen) (Z : Span) (hZ : fits Z.1 ∧ fits Z.2) : Con Try.prog gl 26 [LL l, spV Z] (LL (cutS l Z)) := by
  have hc := rscheck_con (gl := gl) l hn
  refine con_of Try.func26 rfl (by kernel_rfl) rfl ?_
  simp only [Try.ntmps26, Try.results26, argEnv, ofC, of1, List.map]
  by_cases h : solChk l = 0
  rotate_left
  · have e : cutS l Z = [] := by unfold cutS; rw [valL_no h]; rfl
    rw [e]
    repeat' (first
      | ((with_reducible apply r_call); exact rfl; exact rfl; exact hc; exact rfl; exact rfl)
      | ((with_reducible apply aw_seq))
      | ((with_reducible apply aw_region))
      | ((with_reducible apply thn_normal))
      | ((with_reducible apply thn_ret))
      | ((with_reducible apply aw_ret))
      | ((with_reducible apply ao_nil))
      | ((with_reducible apply r_move); exact rfl; exact rfl)
      | ((with_reducible apply r_assign); exact rfl; exact rfl)
      | ((with_reducible apply r_neq); exact rfl; exact rfl; exact rfl)
      | ((with_reducible apply r_box_a); exact rfl; exact rfl)
      | (((with_reducible apply aw_cond); exact rfl) <;> intro hg <;> (first | (exact absurd hg (by decide)) | ((try simp only [decide_eq_true_eq, decide_eq_false_iff_not, Bool.not_eq_true', Bool.not_eq_false', Bool.not_true, Bool.not_false, Bool.not_not, Int.not_lt, Int.not_le, Nat.not_lt, Nat.not_le, gt_iff_lt, ge_iff_le, List.cons.injEq, and_true] at hg); first | (exact absurd trivial hg) | (exfalso; omega) | (have hT : True := hg; clear hT hg) | skip)))
      )
    exact ret1 (.tmp rfl cl_none)
  unfold cutS cutV
  rw [valL_ok h]
  have v := sol_V h
  have hu := v.n
  have hZ' := hZ
  unfold fits at hZ'
  repeat' (first
    | ((with_reducible apply r_call); exact rfl; exact rfl; exact hc; exact rfl; exact rfl)
    | ((with_reducible apply aw_seq))
    | ((with_reducible apply aw_region))
    | ((with_reducible apply aw_block))
    | ((with_reducible apply thn_normal))
    | ((with_reducible apply aw_skip))
    | ((with_reducible apply ao_nil))
    | ((with_reducible apply r_move); exact rfl; exact rfl)
    | ((with_reducible apply r_assign); exact rfl; exact rfl)
    | ((with_reducible apply r_field_p); exact rfl; exact rfl)
    | ((with_reducible apply r_load_p); exact rfl; exact rfl; exact rfl; exact rfl)
    | ((with_reducible apply r_neq); exact rfl; exact rfl; exact rfl)
    | ((with_reducible apply r_max); exact rfl; exact rfl; exact rfl)
    | ((with_reducible apply r_min); exact rfl; exact rfl; exact rfl)
    | ((with_reducible apply r_box_a); exact rfl; exact rfl)
    | ((with_reducible apply r_store_pa); exact rfl; exact rfl; exact rfl; exact rfl; exact rfl; exact rfl)
    | ((with_reducible apply r_build); exact rfl; exact rfl; exact rfl)
    | (((with_reducible apply aw_cond); exact rfl) <;> intro hg <;> (first | (exact absurd hg (by decide)) | ((try simp only [decide_eq_true_eq, decide_eq_false_iff_not, Bool.not_eq_true', Bool.not_eq_false', Bool.not_true, Bool.not_false, Bool.not_not, Int.not_lt, Int.not_le, Nat.not_lt, Nat.not_le, gt_iff_lt, ge_iff_le, List.cons.injEq, and_true] at hg); first | (exact absurd trivial hg) | (exfalso; omega) | (have hT : True := hg; clear hT hg) | skip)))
    )
  refine aw_nilvec 5 60 3 rfl rfl ?_
  refine aw_loopG (G := Nat × Nat × Int) (fun ((j, k, p) : Nat × Nat × Int) => j ≤ l.length ∧ (cutN l Z j).length = k ∧ p = pos l j) (fun ((j, k, p) : Nat × Nat × Int) => l.length - j) (fun ((j, k, p) : Nat × Nat × Int) => [(0, .c (LL l)), (3, .ptr 0 0), (5, .vec 1 k), (6, A p), (7, A j)]) (fun ((j, k, p) : Nat × Nat × Int) => [(0, some (.cells 29 [A (max Z.1 0), A (min Z.2 20000)])), (1, some (.vec 60 3 ((cutN l Z j).flatMap slcC)))]) 2 (0, 0, 0) ?_ (by refine weak_mk rfl ?_ ?_ <;> repeat (first | exact envW_nil | exact heapW_nil | refine envW_cons rfl rfl ?_ | refine heapW_cons rfl rfl rfl ?_)) rfl ?_
  · exact ⟨Nat.zero_le _, rfl, rfl⟩
  rintro ⟨j, k, p⟩ hI
  try dsimp only at hI
  try dsimp only
  obtain ⟨hj, hk, hp⟩ := hI
  have hcl := cutN_len l Z j
  by_cases hjl : j < l.length
  · have hp1 := pos_bd v (j := j) (by omega)
    have hp2 := pos_bd v (j := j + 1) (by omega)
    rw [pos_succ, lenD_eq hjl] at hp2
    have h1 := part_con (gl := gl) (max Z.1 0) (min Z.2 20000) p l[j].len (by have := v.one j hjl; unfold fits; omega)
    have hco := clip_ov v hjl Z
    rw [← hp, lenD_eq hjl] at hco
    rw [hco] at h1
    have hsd := secD_eq hjl
    have hps : p + l[j].len = pos l (j + 1) := by rw [pos_succ, lenD_eq hjl, hp]
    by_cases hpo : 0 < ovZ l Z j
    · skip
      repeat' (first
        | ((with_reducible apply r_call); exact rfl; exact rfl; exact h1; exact rfl; exact rfl)
        | ((with_reducible apply (r_push (enc := slcC) (l := cutN l Z j) (x0 := (⟨ovZ l Z j, l[j].sec⟩ : Slc)))); exact rfl; exact rfl; exact inferInstance; exact hk; exact rfl; exact rfl; exact rfl; exact (by omega); exact (by omega); exact rfl)
        | ((with_reducible apply aw_seq))
        | ((with_reducible apply aw_region))
        | ((with_reducible apply aw_block))
        | ((with_reducible apply thn_normal))
        | ((with_reducible apply inb_normal))
        | ((with_reducible apply aw_skip))
        | ((with_reducible apply ao_nil))
        | ((with_reducible apply r_move); exact rfl; exact rfl)
        | ((with_reducible apply r_assign); exact rfl; exact rfl)
        | ((with_reducible apply r_load_pa); exact rfl; exact rfl; exact rfl; exact rfl; exact rfl)
        | ((with_reducible apply r_lss); exact rfl; exact rfl; exact rfl)
        | ((with_reducible apply r_gtr); exact rfl; exact rfl; exact rfl)
        | ((with_reducible apply r_add); exact rfl; exact rfl; exact (by first | assumption | (unfold fits; omega)); exact rfl)
        | ((with_reducible apply r_len_f); exact rfl; exact inferInstance; exact rfl)
        | ((with_reducible apply r_index_f); exact rfl; exact inferInstance; exact rfl; exact rfl; (first | assumption | omega); exact rfl)
        | ((with_reducible apply r_load_f0); exact rfl; exact inferInstance; exact List.getElem?_eq_getElem (by first | assumption | omega); exact rfl; exact rfl)
        | ((with_reducible apply r_load_fa); exact rfl; exact inferInstance; exact List.getElem?_eq_getElem (by first | assumption | omega); exact rfl; exact rfl; exact rfl)
        | ((with_reducible apply r_field_e); exact rfl; exact rfl)
        | ((with_reducible apply r_build); exact rfl; exact rfl; exact rfl)
        | (((with_reducible apply aw_cond); exact rfl) <;> intro hg <;> (first | (exact absurd hg (by decide)) | ((try simp only [decide_eq_true_eq, decide_eq_false_iff_not, Bool.not_eq_true', Bool.not_eq_false', Bool.not_true, Bool.not_false, Bool.not_not, Int.not_lt, Int.not_le, Nat.not_lt, Nat.not_le, gt_iff_lt, ge_iff_le, List.cons.injEq, and_true] at hg); first | (exact absurd trivial hg) | (exfalso; omega) | (have hT : True := hg; clear hT hg) | skip)))
        | (refine aw_drawq ?_ ?_; (kernel_rfl))
        | ((with_reducible apply ds_nil))
        | ((with_reducible apply r_lit); exact rfl; exact rfl; exact rfl; exact rfl; exact rfl; exact rfl; exact rfl)
        )
      rw [← hsd, cutN_yes hpo]
      refine ⟨(j + 1, k + 1, p + l[j].len), ?_, ?_, by refine weak_mk rfl ?_ ?_ <;> repeat (first | exact envW_nil | exact heapW_nil | refine envW_cons rfl rfl ?_ | refine heapW_cons rfl rfl rfl ?_)⟩
      · show _ - (j + 1) < _ - j; omega
      · exact ⟨by show j + 1 ≤ _; omega, by show (cutN l Z (j + 1)).length = k + 1; rw [← cutN_yes hpo]; simp [hk], hps⟩
    · skip
      repeat' (first
        | ((with_reducible apply r_call); exact rfl; exact rfl; exact h1; exact rfl; exact rfl)
        | ((with_reducible apply aw_seq))
        | ((with_reducible apply aw_region))
        | ((with_reducible apply aw_block))
        | ((with_reducible apply thn_normal))
        | ((with_reducible apply inb_normal))
        | ((with_reducible apply aw_skip))
        | ((with_reducible apply ao_nil))
        | ((with_reducible apply r_move); exact rfl; exact rfl)
        | ((with_reducible apply r_assign); exact rfl; exact rfl)
        | ((with_reducible apply r_load_pa); exact rfl; exact rfl; exact rfl; exact rfl; exact rfl)
        | ((with_reducible apply r_lss); exact rfl; exact rfl; exact rfl)
        | ((with_reducible apply r_gtr); exact rfl; exact rfl; exact rfl)
        | ((with_reducible apply r_add); exact rfl; exact rfl; exact (by first | assumption | (unfold fits; omega)); exact rfl)
        | ((with_reducible apply r_len_f); exact rfl; exact inferInstance; exact rfl)
        | ((with_reducible apply r_index_f); exact rfl; exact inferInstance; exact rfl; exact rfl; (first | assumption | omega); exact rfl)
        | ((with_reducible apply r_load_f0); exact rfl; exact inferInstance; exact List.getElem?_eq_getElem (by first | assumption | omega); exact rfl; exact rfl)
        | ((with_reducible apply r_field_e); exact rfl; exact rfl)
        | (((with_reducible apply aw_cond); exact rfl) <;> intro hg <;> (first | (exact absurd hg (by decide)) | ((try simp only [decide_eq_true_eq, decide_eq_false_iff_not, Bool.not_eq_true', Bool.not_eq_false', Bool.not_true, Bool.not_false, Bool.not_not, Int.not_lt, Int.not_le, Nat.not_lt, Nat.not_le, gt_iff_lt, ge_iff_le, List.cons.injEq, and_true] at hg); first | (exact absurd trivial hg) | (exfalso; omega) | (have hT : True := hg; clear hT hg) | skip)))
        | (refine aw_drawq ?_ ?_; (kernel_rfl))
        | ((with_reducible apply ds_nil))
        )
      rw [cutN_no hpo]
      refine ⟨(j + 1, k, p + l[j].len), ?_, ?_, by refine weak_mk rfl ?_ ?_ <;> repeat (first | exact envW_nil | exact heapW_nil | refine envW_cons rfl rfl ?_ | refine heapW_cons rfl rfl rfl ?_)⟩
      · show _ - (j + 1) < _ - j; omega
      · exact ⟨by show j + 1 ≤ _; omega, by show (cutN l Z (j + 1)).length = k; rw [← cutN_no hpo]; exact hk, hps⟩
  · obtain rfl : j = l.length := by omega
    repeat' (first
      | ((with_reducible apply aw_seq))
      | ((with_reducible apply aw_region))
      | ((with_reducible apply thn_normal))
      | ((with_reducible apply thn_exit))
      | ((with_reducible apply inb_exit))
      | ((with_reducible apply aw_exit))
      | ((with_reducible apply aw_ret))
      | ((with_reducible apply ao_nil))
      | ((with_reducible apply r_move); exact rfl; exact rfl)
      | ((with_reducible apply r_assign); exact rfl; exact rfl)
      | ((with_reducible apply r_lss); exact rfl; exact rfl; exact rfl)
      | ((with_reducible apply r_len_f); exact rfl; exact inferInstance; exact rfl)
      | (((with_reducible apply aw_cond); exact rfl) <;> intro hg <;> (first | (exact absurd hg (by decide)) | ((try simp only [decide_eq_true_eq, decide_eq_false_iff_not, Bool.not_eq_true', Bool.not_eq_false', Bool.not_true, Bool.not_false, Bool.not_not, Int.not_lt, Int.not_le, Nat.not_lt, Nat.not_le, gt_iff_lt, ge_iff_le, List.cons.injEq, and_true] at hg); first | (exact absurd trivial hg) | (exfalso; omega) | (have hT : True := hg; clear hT hg) | skip)))
      )
    exact ret1 (.tmp rfl (cl_vec rfl (by rw [flat_len EncL.len, hk])))
end Go.Proofs.Ytjpmidiklfiinaa.Ge
