/- Walks of the laws on cutting: awake, and the laws that compare with the reference. -/
import Derived.Test.YtjofnmklkndhoaaDoorCutQ
namespace Go.Proofs.YtjofnmklkndhoaaDoor.Cu
set_option linter.unusedVariables false
set_option linter.unusedSimpArgs false
open Go.RowKit Go.Proofs.YtjofnmklkndhoaaDoor.Ev

theorem cuts_c : cutsS L2 [(0, 0)] = (0, [(4, 5)], [(5, 10)]) := by
  unfold cutsS; rw [if_neg (fun hh => hh chk_L2)]; decide +kernel
theorem val_c : valS L2 [(0, 0)] = (14, 0) := by rw [valS_ok cuts_c]; decide +kernel
set_option maxRecDepth 100000 in
set_option maxHeartbeats 16000000 in
theorem awake_con : Con Tryd.prog G 12 [] T := by
  have hU1 := uniform_con (gl := G) ⟨10, 1, 1, [4], [5], 0, 0⟩ (by decide) (by decide)
  have hU2 := uniform_con (gl := G) ⟨10, 1, 1, [4], [5], 2, -1⟩ (by decide) (by decide)
  have hB1 := best_con L1
  have hB2 := best_con L2
  have hCa := cuts_con (gl := G) L1 [(0, 2)] (by decide)
  have hCb := cuts_con (gl := G) L1 [(0, 1)] (by decide)
  have hV := value_con (gl := G) L2 [(0, 0)] (by decide)
  rw [uni_L1] at hU1
  rw [uni_L2] at hU2
  rw [best_L1] at hB1
  rw [best_L2] at hB2
  rw [cuts_a] at hCa
  rw [cuts_b] at hCb
  rw [val_c] at hV
  refine con_of Tryd.func12 rfl (by kernel_rfl) rfl ?_
  simp only [Tryd.ntmps12, Tryd.results12, argEnv, ofC, of1, List.map]
  repeat' (first
    | ((with_reducible apply r_litq); exact rfl; exact rfl; exact rfl; exact rfl; exact rfl; exact rfl; exact rfl)
    | ((with_reducible apply r_call); exact rfl; exact rfl; (first | exact hU1 | exact hU2 | exact hB1 | exact hB2 | exact hCa | exact hCb | exact hV); exact rfl; exact rfl)
    | ((with_reducible apply (r_index_f (k := 0))); exact rfl; exact inferInstance; exact rfl; exact rfl; exact (by decide); exact rfl)
    | ((with_reducible apply (r_index_f (k := 1))); exact rfl; exact inferInstance; exact rfl; exact rfl; exact (by decide); exact rfl)
    | ((with_reducible apply (r_load_fa0 (k := 0))); exact rfl; exact inferInstance; exact rfl; exact rfl; exact rfl; exact rfl)
    | ((with_reducible apply (r_load_fa0 (k := 1))); exact rfl; exact inferInstance; exact rfl; exact rfl; exact rfl; exact rfl)
    | ((with_reducible apply aw_seq))
    | ((with_reducible apply aw_region))
    | ((with_reducible apply thn_normal))
    | ((with_reducible apply aw_skip))
    | ((with_reducible apply aw_ret))
    | ((with_reducible apply ao_nil))
    | ((with_reducible apply r_move); exact rfl; exact rfl)
    | ((with_reducible apply r_assign); exact rfl; exact rfl)
    | ((with_reducible apply r_field_p); exact rfl; exact rfl)
    | ((with_reducible apply r_load_pa); exact rfl; exact rfl; exact rfl; exact rfl; exact rfl)
    | ((with_reducible apply r_eql); exact rfl; exact rfl; exact rfl)
    | ((with_reducible apply r_neq); exact rfl; exact rfl; exact rfl)
    | ((with_reducible apply r_pick_t); exact rfl; exact rfl; exact rfl)
    | ((with_reducible apply r_pick_f); exact rfl; exact rfl; exact rfl)
    | ((with_reducible apply r_len_f); exact rfl; exact inferInstance; exact rfl)
    | ((with_reducible apply r_store_p); exact rfl; exact rfl; exact rfl; exact rfl; exact rfl; exact rfl)
    | ((with_reducible apply r_store_pa); exact rfl; exact rfl; exact rfl; exact rfl; exact rfl; exact rfl)
    | ((with_reducible apply r_build); exact rfl; exact rfl; exact rfl)
    | ((with_reducible apply r_extract); exact rfl; exact rfl; exact rfl)
    | ((with_reducible apply r_alloc); exact rfl)
    | (((with_reducible apply r_guard); exact rfl; exact rfl; exact rfl; exact rfl) <;> intro hg <;> (first | (exact absurd hg (by decide)) | ((try simp only [decide_eq_true_eq, decide_eq_false_iff_not, Bool.not_eq_true', Bool.not_eq_false', Bool.not_true, Bool.not_false, Bool.not_not, Int.not_lt, Int.not_le, Nat.not_lt, Nat.not_le, gt_iff_lt, ge_iff_le, List.cons.injEq, and_true] at hg); first | (exact absurd trivial hg) | (exfalso; omega) | (have hT : True := hg; clear hT hg) | skip)))
    | (((with_reducible apply aw_cond); exact rfl) <;> intro hg <;> (first | (exact absurd hg (by decide)) | ((try simp only [decide_eq_true_eq, decide_eq_false_iff_not, Bool.not_eq_true', Bool.not_eq_false', Bool.not_true, Bool.not_false, Bool.not_not, Int.not_lt, Int.not_le, Nat.not_lt, Nat.not_le, gt_iff_lt, ge_iff_le, List.cons.injEq, and_true] at hg); first | (exact absurd trivial hg) | (exfalso; omega) | (have hT : True := hg; clear hT hg) | skip)))
    | ((with_reducible apply r_eqs); exact rfl; exact rfl; exact rfl; exact rfl; exact rfl; exact rfl; exact rfl)
    )
  all_goals first | exact ret_b rfl rfl | exact ret_b rfl (by decide) | trace_state
end Go.Proofs.YtjofnmklkndhoaaDoor.Cu
