/- Walks of the laws on solids: SolidCut. -/
import Derived.Test.YtjpmidiklfiinaaGM
import Derived.Test.YtjpmidiklfiinaaGN
import Derived.Test.YtjpmidiklfiinaaEv23
namespace Go.Proofs.Ytjpmidiklfiinaa.Ge
set_option linter.unusedVariables false
set_option linter.unusedSimpArgs false
open Go.RowKit Go.Proofs.Ytjpmidiklfiinaa.Ev
variable {gl : List (Nat × List CV)}

def cutAt (s : Span) (at' : Int) : Int := min (max at' s.1) s.2
theorem split_con (s : Span) (k : Int) : Con Try.prog gl 29 [spV s, I k] (.tup [spV (s.1, cutAt s k), spV (cutAt s k, s.2)]) := by
  refine con_of Try.func29 rfl (by kernel_rfl) rfl ?_
  simp only [Try.ntmps29, Try.results29, argEnv, ofC, of1, List.map]
  repeat' (first
    | (refine aw_drawS [1, 2] [0, 1, 2, 3, 4, 5, 6, 7] 2 ?_ rfl ?_; (decide +kernel); (simp only [pk, List.drop_succ_cons, List.drop_zero, List.map_cons, List.map_nil, List.cons_append, List.nil_append]))
    | ((with_reducible apply ds_nilS))
    | ((with_reducible apply d3_nil); (decide +kernel))
    | (first | (refine d3_step [8] (by decide +kernel) rfl ?_) | (refine d3_step [9] (by decide +kernel) rfl ?_) | (refine d3_step [8, 9] (by decide +kernel) rfl ?_))
    | ((with_reducible refine List.forall_mem_cons.2 ⟨?_, ?_⟩))
    | ((with_reducible exact d3_none))
    | ((with_reducible apply d3_a); exact rfl; exact inferInstance; exact rfl)
    | ((with_reducible apply d3_pa); exact rfl; exact inferInstance; exact rfl; exact rfl; exact rfl; exact rfl; exact rfl; exact rfl; exact rfl; exact rfl)
    | ((with_reducible apply d3_p); exact rfl; exact inferInstance; exact rfl; exact rfl; exact rfl; exact rfl; exact rfl; exact rfl; exact rfl; exact rfl)
    | ((with_reducible apply aw_seq))
    | ((with_reducible apply aw_region))
    | ((with_reducible apply thn_normal))
    | ((with_reducible apply aw_ret))
    | ((with_reducible apply ao_nil))
    | ((with_reducible apply r_move); exact rfl; exact rfl)
    | ((with_reducible apply r_assign); exact rfl; exact rfl)
    | ((with_reducible apply r_field_p); exact rfl; exact rfl)
    | ((with_reducible apply r_load_p); exact rfl; exact rfl; exact rfl; exact rfl)
    | ((with_reducible apply r_max); exact rfl; exact rfl; exact rfl)
    | ((with_reducible apply r_min); exact rfl; exact rfl; exact rfl)
    | ((with_reducible apply r_box_a); exact rfl; exact rfl)
    | ((with_reducible apply r_build); exact rfl; exact rfl; exact rfl)
    | ((with_reducible apply r_alloc); exact rfl)
    )
  refine ret2 (.cons ?_ (.cons ?_ .nil))
  · exact .cell_a inferInstance rfl rfl rfl rfl (cl_cons cl_c (cl_cons cl_c cl_nil))
  · exact .cell_a inferInstance rfl rfl rfl rfl (cl_cons cl_c (cl_cons cl_c cl_nil))
theorem cutAt_bd {s : Span} (h : s.1 < s.2) (k : Int) : s.1 ≤ cutAt s k ∧ cutAt s k ≤ s.2 := by unfold cutAt; omega
theorem winS_bd (l : List Slc) (X Y Z : Span) : 0 ≤ winS l X Y Z ∧ winS l X Y Z ≤ 700000000000 := by
  have v := valL_V l
  have := (sumN_bd (c := 28800000000) (n := (valL l).length) (fun i hi => win_bd v X Y Z hi)) _ (Nat.le_refl _)
  have h2 := v.n
  unfold winS winV; omega
theorem volS_bd (l : List Slc) : 0 ≤ volS l ∧ volS l ≤ 700000000000 := by
  have v := valL_V l
  have := (sumN_bd (c := 28800000000) (n := (valL l).length) (fun i hi => vol_bd v hi)) _ (Nat.le_refl _)
  have h2 := v.n
  unfold volS volV; omega
set_option maxRecDepth 100000 in
set_option maxHeartbeats 16000000 in
theorem cut_law (l : List Slc) (hn : SlQ l) (b : Span × Span × Span) (hb : BoxQ b) (k : Int) (_ : fits k) : Con Try.prog gl 6 [LL l, boxC b, I k] T := by
  have hs := small_con (gl := gl) l hn
  obtain ⟨X, Y, Z⟩ := b
  refine con_of Try.func6 rfl (by kernel_rfl) rfl ?_
  simp only [Try.ntmps6, Try.results6, argEnv, ofC, of1, List.map]
  cases h : smallS l with
  | false =>
    rw [h] at hs
    repeat' (first
      | ((with_reducible apply r_call); exact rfl; exact rfl; (first | exact hs | exact awake_con); exact rfl; exact rfl)
      | ((with_reducible apply aw_seq))
      | ((with_reducible apply aw_region))
      | ((with_reducible apply thn_normal))
      | ((with_reducible apply thn_ret))
      | ((with_reducible apply aw_ret))
      | ((with_reducible apply ao_nil))
      | ((with_reducible apply r_move); exact rfl; exact rfl)
      | ((with_reducible apply r_assign); exact rfl; exact rfl)
      | ((with_reducible apply r_box_a); exact rfl; exact rfl)
      | ((with_reducible apply r_pick_t); exact rfl; exact rfl; exact rfl)
      | ((with_reducible apply r_not); exact rfl; exact rfl)
      | (((with_reducible apply r_guard); exact rfl; exact rfl; exact rfl; exact rfl) <;> intro hg <;> (first | (exact absurd hg (by decide)) | ((try simp only [decide_eq_true_eq, decide_eq_false_iff_not, Bool.not_eq_true', Bool.not_eq_false', Bool.not_true, Bool.not_false, Bool.not_not, Int.not_lt, Int.not_le, Nat.not_lt, Nat.not_le, gt_iff_lt, ge_iff_le, List.cons.injEq, and_true] at hg); first | (exact absurd trivial hg) | (exfalso; omega) | (have hT : True := hg; clear hT hg) | skip)))
      | (((with_reducible apply aw_cond); exact rfl) <;> intro hg <;> (first | (exact absurd hg (by decide)) | ((try simp only [decide_eq_true_eq, decide_eq_false_iff_not, Bool.not_eq_true', Bool.not_eq_false', Bool.not_true, Bool.not_false, Bool.not_not, Int.not_lt, Int.not_le, Nat.not_lt, Nat.not_le, gt_iff_lt, ge_iff_le, List.cons.injEq, and_true] at hg); first | (exact absurd trivial hg) | (exfalso; omega) | (have hT : True := hg; clear hT hg) | skip)))
      )
    all_goals first | exact ret_b rfl rfl | trace_state
  | true =>
  rw [h] at hs
  by_cases hX : X.1 < X.2
  rotate_left
  · skip
    repeat' (first
      | ((with_reducible apply r_call); exact rfl; exact rfl; (first | exact hs | exact awake_con); exact rfl; exact rfl)
      | ((with_reducible apply aw_seq))
      | ((with_reducible apply aw_region))
      | ((with_reducible apply thn_normal))
      | ((with_reducible apply thn_ret))
      | ((with_reducible apply aw_ret))
      | ((with_reducible apply ao_nil))
      | ((with_reducible apply r_move); exact rfl; exact rfl)
      | ((with_reducible apply r_assign); exact rfl; exact rfl)
      | ((with_reducible apply r_field_p); exact rfl; exact rfl)
      | ((with_reducible apply r_load_p); exact rfl; exact rfl; exact rfl; exact rfl)
      | ((with_reducible apply r_geq); exact rfl; exact rfl; exact rfl)
      | ((with_reducible apply r_box_a); exact rfl; exact rfl)
      | ((with_reducible apply r_pick_t); exact rfl; exact rfl; exact rfl)
      | ((with_reducible apply r_pick_f); exact rfl; exact rfl; exact rfl)
      | ((with_reducible apply r_not); exact rfl; exact rfl)
      | (((with_reducible apply r_guard); exact rfl; exact rfl; exact rfl; exact rfl) <;> intro hg <;> (first | (exact absurd hg (by decide)) | ((try simp only [decide_eq_true_eq, decide_eq_false_iff_not, Bool.not_eq_true', Bool.not_eq_false', Bool.not_true, Bool.not_false, Bool.not_not, Int.not_lt, Int.not_le, Nat.not_lt, Nat.not_le, gt_iff_lt, ge_iff_le, List.cons.injEq, and_true] at hg); first | (exact absurd trivial hg) | (exfalso; omega) | (have hT : True := hg; clear hT hg) | skip)))
      | (((with_reducible apply aw_cond); exact rfl) <;> intro hg <;> (first | (exact absurd hg (by decide)) | ((try simp only [decide_eq_true_eq, decide_eq_false_iff_not, Bool.not_eq_true', Bool.not_eq_false', Bool.not_true, Bool.not_false, Bool.not_not, Int.not_lt, Int.not_le, Nat.not_lt, Nat.not_le, gt_iff_lt, ge_iff_le, List.cons.injEq, and_true] at hg); first | (exact absurd trivial hg) | (exfalso; omega) | (have hT : True := hg; clear hT hg) | skip)))
      )
    all_goals first | exact ret_b rfl rfl | trace_state
  by_cases hY : Y.1 < Y.2
  rotate_left
  · skip
    repeat' (first
      | ((with_reducible apply r_call); exact rfl; exact rfl; (first | exact hs | exact awake_con); exact rfl; exact rfl)
      | ((with_reducible apply aw_seq))
      | ((with_reducible apply aw_region))
      | ((with_reducible apply thn_normal))
      | ((with_reducible apply thn_ret))
      | ((with_reducible apply aw_ret))
      | ((with_reducible apply ao_nil))
      | ((with_reducible apply r_move); exact rfl; exact rfl)
      | ((with_reducible apply r_assign); exact rfl; exact rfl)
      | ((with_reducible apply r_field_p); exact rfl; exact rfl)
      | ((with_reducible apply r_load_p); exact rfl; exact rfl; exact rfl; exact rfl)
      | ((with_reducible apply r_geq); exact rfl; exact rfl; exact rfl)
      | ((with_reducible apply r_box_a); exact rfl; exact rfl)
      | ((with_reducible apply r_pick_t); exact rfl; exact rfl; exact rfl)
      | ((with_reducible apply r_pick_f); exact rfl; exact rfl; exact rfl)
      | ((with_reducible apply r_not); exact rfl; exact rfl)
      | (((with_reducible apply r_guard); exact rfl; exact rfl; exact rfl; exact rfl) <;> intro hg <;> (first | (exact absurd hg (by decide)) | ((try simp only [decide_eq_true_eq, decide_eq_false_iff_not, Bool.not_eq_true', Bool.not_eq_false', Bool.not_true, Bool.not_false, Bool.not_not, Int.not_lt, Int.not_le, Nat.not_lt, Nat.not_le, gt_iff_lt, ge_iff_le, List.cons.injEq, and_true] at hg); first | (exact absurd trivial hg) | (exfalso; omega) | (have hT : True := hg; clear hT hg) | skip)))
      | (((with_reducible apply aw_cond); exact rfl) <;> intro hg <;> (first | (exact absurd hg (by decide)) | ((try simp only [decide_eq_true_eq, decide_eq_false_iff_not, Bool.not_eq_true', Bool.not_eq_false', Bool.not_true, Bool.not_false, Bool.not_not, Int.not_lt, Int.not_le, Nat.not_lt, Nat.not_le, gt_iff_lt, ge_iff_le, List.cons.injEq, and_true] at hg); first | (exact absurd trivial hg) | (exfalso; omega) | (have hT : True := hg; clear hT hg) | skip)))
      )
    all_goals first | exact ret_b rfl rfl | trace_state
  by_cases hZ : Z.1 < Z.2
  rotate_left
  · skip
    repeat' (first
      | ((with_reducible apply r_call); exact rfl; exact rfl; (first | exact hs | exact awake_con); exact rfl; exact rfl)
      | ((with_reducible apply aw_seq))
      | ((with_reducible apply aw_region))
      | ((with_reducible apply thn_normal))
      | ((with_reducible apply thn_ret))
      | ((with_reducible apply aw_ret))
      | ((with_reducible apply ao_nil))
      | ((with_reducible apply r_move); exact rfl; exact rfl)
      | ((with_reducible apply r_assign); exact rfl; exact rfl)
      | ((with_reducible apply r_field_p); exact rfl; exact rfl)
      | ((with_reducible apply r_load_p); exact rfl; exact rfl; exact rfl; exact rfl)
      | ((with_reducible apply r_geq); exact rfl; exact rfl; exact rfl)
      | ((with_reducible apply r_box_a); exact rfl; exact rfl)
      | ((with_reducible apply r_pick_f); exact rfl; exact rfl; exact rfl)
      | ((with_reducible apply r_not); exact rfl; exact rfl)
      | (((with_reducible apply r_guard); exact rfl; exact rfl; exact rfl; exact rfl) <;> intro hg <;> (first | (exact absurd hg (by decide)) | ((try simp only [decide_eq_true_eq, decide_eq_false_iff_not, Bool.not_eq_true', Bool.not_eq_false', Bool.not_true, Bool.not_false, Bool.not_not, Int.not_lt, Int.not_le, Nat.not_lt, Nat.not_le, gt_iff_lt, ge_iff_le, List.cons.injEq, and_true] at hg); first | (exact absurd trivial hg) | (exfalso; omega) | (have hT : True := hg; clear hT hg) | skip)))
      | (((with_reducible apply aw_cond); exact rfl) <;> intro hg <;> (first | (exact absurd hg (by decide)) | ((try simp only [decide_eq_true_eq, decide_eq_false_iff_not, Bool.not_eq_true', Bool.not_eq_false', Bool.not_true, Bool.not_false, Bool.not_not, Int.not_lt, Int.not_le, Nat.not_lt, Nat.not_le, gt_iff_lt, ge_iff_le, List.cons.injEq, and_true] at hg); first | (exact absurd trivial hg) | (exfalso; omega) | (have hT : True := hg; clear hT hg) | skip)))
      )
    all_goals first | exact ret_b rfl rfl | trace_state
  have w0 := swithin_con (gl := gl) l hn X Y Z
  have wz1 := swithin_con (gl := gl) l hn X Y (Z.1, cutAt Z k)
  have wz2 := swithin_con (gl := gl) l hn X Y (cutAt Z k, Z.2)
  have wx1 := swithin_con (gl := gl) l hn (X.1, cutAt X k) Y Z
  have wx2 := swithin_con (gl := gl) l hn (cutAt X k, X.2) Y Z
  have wy1 := swithin_con (gl := gl) l hn X (Y.1, cutAt Y k) Z
  have wy2 := swithin_con (gl := gl) l hn X (cutAt Y k, Y.2) Z
  have wb := swithin_con (gl := gl) l hn (sbS l).1 (sbS l).2 Z
  have sz := split_con (gl := gl) Z k
  have sx := split_con (gl := gl) X k
  have sy := split_con (gl := gl) Y k
  have c0 := scut_con (gl := gl) l hn Z
  have c1 := scut_con (gl := gl) l hn (Z.1, cutAt Z k)
  have c2 := scut_con (gl := gl) l hn (cutAt Z k, Z.2)
  have v0 := svolume_con (gl := gl) (cutS l Z) (by have := cutS_len l Z; unfold maxLen; omega)
  have v1 := svolume_con (gl := gl) (cutS l (Z.1, cutAt Z k)) (by have := cutS_len l (Z.1, cutAt Z k); unfold maxLen; omega)
  have v2 := svolume_con (gl := gl) (cutS l (cutAt Z k, Z.2)) (by have := cutS_len l (cutAt Z k, Z.2); unfold maxLen; omega)
  have bo := sbounds_con (gl := gl) l hn
  have ez : winS l X Y (Z.1, cutAt Z k) + winS l X Y (cutAt Z k, Z.2) = winS l X Y Z := win_splitZ _ X Y (cutAt_bd hZ k).1 (cutAt_bd hZ k).2
  have ex : winS l (X.1, cutAt X k) Y Z + winS l (cutAt X k, X.2) Y Z = winS l X Y Z := win_splitX _ Y Z (cutAt_bd hX k).1 (cutAt_bd hX k).2
  have ey : winS l X (Y.1, cutAt Y k) Z + winS l X (cutAt Y k, Y.2) Z = winS l X Y Z := win_splitY _ X Z (cutAt_bd hY k).1 (cutAt_bd hY k).2
  have ev : volS (cutS l (Z.1, cutAt Z k)) + volS (cutS l (cutAt Z k, Z.2)) = volS (cutS l Z) := vol_split l (cutAt_bd hZ k).1 (cutAt_bd hZ k).2
  have eb := win_bounds l Z
  have b1 := winS_bd l X Y (Z.1, cutAt Z k)
  have b2 := winS_bd l X Y (cutAt Z k, Z.2)
  have b3 := winS_bd l (X.1, cutAt X k) Y Z
  have b4 := winS_bd l (cutAt X k, X.2) Y Z
  have b5 := winS_bd l X (Y.1, cutAt Y k) Z
  have b6 := winS_bd l X (cutAt Y k, Y.2) Z
  have b7 := volS_bd (cutS l (Z.1, cutAt Z k))
  have b8 := volS_bd (cutS l (cutAt Z k, Z.2))
  repeat' (first
    | ((with_reducible apply r_call); exact rfl; exact rfl; (first | exact hs | exact awake_con | exact w0 | exact wz1 | exact wz2 | exact wx1 | exact wx2 | exact wy1 | exact wy2 | exact wb | exact sz | exact sx | exact sy | exact c0 | exact c1 | exact c2 | exact v0 | exact v1 | exact v2 | exact bo); exact rfl; exact rfl)
    | (refine aw_drawS [1, 2] [0, 1] 4 ?_ rfl ?_; (decide +kernel); (simp only [pk, List.drop_succ_cons, List.drop_zero, List.map_cons, List.map_nil, List.cons_append, List.nil_append]))
    | ((with_reducible apply ds_nilS))
    | ((with_reducible apply d3_nil); (decide +kernel))
    | (first | (refine d3_step [2] (by decide +kernel) rfl ?_) | (refine d3_step [3] (by decide +kernel) rfl ?_) | (refine d3_step [4] (by decide +kernel) rfl ?_) | (refine d3_step [5] (by decide +kernel) rfl ?_) | (refine d3_step [2, 3] (by decide +kernel) rfl ?_) | (refine d3_step [2, 4] (by decide +kernel) rfl ?_) | (refine d3_step [2, 5] (by decide +kernel) rfl ?_) | (refine d3_step [3, 4] (by decide +kernel) rfl ?_) | (refine d3_step [3, 5] (by decide +kernel) rfl ?_) | (refine d3_step [4, 5] (by decide +kernel) rfl ?_) | (refine d3_step [2, 3, 4] (by decide +kernel) rfl ?_) | (refine d3_step [2, 3, 5] (by decide +kernel) rfl ?_) | (refine d3_step [2, 4, 5] (by decide +kernel) rfl ?_) | (refine d3_step [3, 4, 5] (by decide +kernel) rfl ?_))
    | ((with_reducible refine List.forall_mem_cons.2 ⟨?_, ?_⟩))
    | ((with_reducible exact d3_none))
    | ((with_reducible apply d3_a); exact rfl; exact inferInstance; exact rfl)
    | ((with_reducible apply d3_pa); exact rfl; exact inferInstance; exact rfl; exact rfl; exact rfl; exact rfl; exact rfl; exact rfl; exact rfl; exact rfl)
    | ((with_reducible apply d3_p); exact rfl; exact inferInstance; exact rfl; exact rfl; exact rfl; exact rfl; exact rfl; exact rfl; exact rfl; exact rfl)
    | (refine aw_drawS [1, 2] [0, 1] 2 ?_ rfl ?_; (decide +kernel); (simp only [pk, List.drop_succ_cons, List.drop_zero, List.map_cons, List.map_nil, List.cons_append, List.nil_append]))
    | ((with_reducible apply ds_nilS))
    | ((with_reducible apply d3_nil); (decide +kernel))
    | (first | (refine d3_step [2] (by decide +kernel) rfl ?_) | (refine d3_step [3] (by decide +kernel) rfl ?_) | (refine d3_step [2, 3] (by decide +kernel) rfl ?_))
    | ((with_reducible refine List.forall_mem_cons.2 ⟨?_, ?_⟩))
    | ((with_reducible exact d3_none))
    | ((with_reducible apply d3_a); exact rfl; exact inferInstance; exact rfl)
    | ((with_reducible apply d3_pa); exact rfl; exact inferInstance; exact rfl; exact rfl; exact rfl; exact rfl; exact rfl; exact rfl; exact rfl; exact rfl)
    | ((with_reducible apply d3_p); exact rfl; exact inferInstance; exact rfl; exact rfl; exact rfl; exact rfl; exact rfl; exact rfl; exact rfl; exact rfl)
    | ((with_reducible apply aw_seq))
    | ((with_reducible apply aw_region))
    | ((with_reducible apply thn_normal))
    | ((with_reducible apply aw_skip))
    | ((with_reducible apply aw_ret))
    | ((with_reducible apply ao_nil))
    | ((with_reducible apply r_move); exact rfl; exact rfl)
    | ((with_reducible apply r_assign); exact rfl; exact rfl)
    | ((with_reducible apply r_field_p); exact rfl; exact rfl)
    | ((with_reducible apply r_load_p); exact rfl; exact rfl; exact rfl; exact rfl)
    | ((with_reducible apply r_load_pa); exact rfl; exact rfl; exact rfl; exact rfl; exact rfl)
    | ((with_reducible apply r_geq); exact rfl; exact rfl; exact rfl)
    | ((with_reducible apply r_eql); exact rfl; exact rfl; exact rfl)
    | ((with_reducible apply r_neq); exact rfl; exact rfl; exact rfl)
    | ((with_reducible apply r_add); exact rfl; exact rfl; exact (by first | assumption | (unfold fits; omega)); exact rfl)
    | ((with_reducible apply r_box_a); exact rfl; exact rfl)
    | ((with_reducible apply r_pick_t); exact rfl; exact rfl; exact rfl)
    | ((with_reducible apply r_pick_f); exact rfl; exact rfl; exact rfl)
    | ((with_reducible apply r_not); exact rfl; exact rfl)
    | ((with_reducible apply r_store_pa); exact rfl; exact rfl; exact rfl; exact rfl; exact rfl; exact rfl)
    | ((with_reducible apply r_build); exact rfl; exact rfl; exact rfl)
    | ((with_reducible apply r_extract); exact rfl; exact rfl; exact rfl)
    | ((with_reducible apply r_alloc); exact rfl)
    | (((with_reducible apply r_guard); exact rfl; exact rfl; exact rfl; exact rfl) <;> intro hg <;> (first | (exact absurd hg (by decide)) | ((try simp only [decide_eq_true_eq, decide_eq_false_iff_not, Bool.not_eq_true', Bool.not_eq_false', Bool.not_true, Bool.not_false, Bool.not_not, Int.not_lt, Int.not_le, Nat.not_lt, Nat.not_le, gt_iff_lt, ge_iff_le, List.cons.injEq, and_true] at hg); first | (exact absurd trivial hg) | (exfalso; omega) | (have hT : True := hg; clear hT hg) | skip)))
    | (((with_reducible apply aw_cond); exact rfl) <;> intro hg <;> (first | (exact absurd hg (by decide)) | ((try simp only [decide_eq_true_eq, decide_eq_false_iff_not, Bool.not_eq_true', Bool.not_eq_false', Bool.not_true, Bool.not_false, Bool.not_not, Int.not_lt, Int.not_le, Nat.not_lt, Nat.not_le, gt_iff_lt, ge_iff_le, List.cons.injEq, and_true] at hg); first | (exact absurd trivial hg) | (exfalso; omega) | (have hT : True := hg; clear hT hg) | skip)))
    | (refine aw_drawq ?_ ?_; (kernel_rfl))
    | ((with_reducible apply ds_nil))
    | (((with_reducible apply rd_guard); exact rfl; exact rfl; exact rfl) <;> intro hg <;> (first | (exact absurd hg (by decide)) | ((try rw [hg]); (try simp only [decide_eq_true_eq, decide_eq_false_iff_not, Bool.not_eq_true', Bool.not_eq_false', Bool.not_true, Bool.not_false, Bool.not_not, Int.not_lt, Int.not_le, Nat.not_lt, Nat.not_le, gt_iff_lt, ge_iff_le, List.cons.injEq, and_true] at hg); first | (exact absurd trivial hg) | (exfalso; omega) | (have hT : True := hg; clear hT hg) | skip)))
    )
  all_goals exact ret_b rfl rfl
end Go.Proofs.Ytjpmidiklfiinaa.Ge
