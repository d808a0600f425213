/- Walks of the laws on solids: sample, awake, Small; SolidChecks, SolidWithin. -/
import Derived.Test.YtjpmidiklfiinaaGF
namespace Go.Proofs.Ytjpmidiklfiinaa.Ge
set_option linter.unusedVariables false
set_option linter.unusedSimpArgs false
open Go.RowKit Go.Proofs.Ytjpmidiklfiinaa.Ev
variable {gl : List (Nat × List CV)}

def L0 : List Slc := [⟨2000, ⟨0, [(-50, 50), (-60, 60)]⟩⟩, ⟨1000, ⟨0, [(-50, 50)]⟩⟩]
theorem sample_con : Con Try.prog gl 37 [] (LL L0) := by
  refine con_of Try.func37 rfl (by kernel_rfl) rfl ?_
  simp only [Try.ntmps37, Try.results37, argEnv, ofC, of1, List.map]
  repeat' (first
    | ((with_reducible apply r_litq); exact rfl; exact rfl; exact rfl; exact rfl; exact rfl; exact rfl; exact rfl)
    | ((with_reducible apply aw_seq))
    | ((with_reducible apply aw_region))
    | ((with_reducible apply thn_normal))
    | ((with_reducible apply aw_ret))
    | ((with_reducible apply ao_nil))
    | ((with_reducible apply r_assign); exact rfl; exact rfl)
    | ((with_reducible apply r_load_pa); exact rfl; exact rfl; exact rfl; exact rfl; exact rfl)
    | ((with_reducible apply r_store_pa); exact rfl; exact rfl; exact rfl; exact rfl; exact rfl; exact rfl)
    | ((with_reducible apply r_build); exact rfl; exact rfl; exact rfl)
    | ((with_reducible apply r_alloc); exact rfl)
    )
  exact ret1 (.tmp rfl cl_c)
theorem chk_a : secChk ⟨0, [(-50, 50), (-60, 60)]⟩ = 0 := (sc_ok ⟨by decide, ⟨by decide, by decide⟩, fun i h => by
  match i, h with
  | 0, _ => rfl
  | 1, _ => rfl⟩ (by decide) (fun ⟨_, h⟩ => by rcases h with h | h <;> (unfold emptyS at h; simp at h)) (fun i h => by
  match i, h with
  | 0, _ => rfl
  | 1, _ => rfl)).symm
theorem chk_b : secChk ⟨0, [(-50, 50)]⟩ = 0 := (sc_ok ⟨by decide, ⟨by decide, by decide⟩, fun i h => by
  match i, h with
  | 0, _ => rfl⟩ (by decide) (fun ⟨_, h⟩ => by rcases h with h | h <;> (unfold emptyS at h; simp at h)) (fun i h => by
  match i, h with
  | 0, _ => rfl)).symm
theorem chk_L0 : solChk L0 = 0 := by
  unfold solChk
  rw [if_neg (by decide), if_neg (by decide)]
  unfold L0 solGo
  rw [if_neg (fun h => h chk_a), if_neg (by decide), if_neg (by decide)]
  unfold solGo
  rw [if_neg (fun h => h chk_b), if_neg (by decide), if_neg (by decide)]
  rfl
theorem L0_len : L0.length ≤ maxLen := by decide
theorem at_2000 : atS L0 2000 = (⟨0, [(-50, 50)]⟩, true) := by unfold atS; rw [valL_ok chk_L0]; rfl
theorem at_3000 : atS L0 3000 = (sec0, false) := by unfold atS; rw [valL_ok chk_L0]; rfl
theorem cut_1500 : cutS L0 (1500, 2500) = [⟨500, ⟨0, [(-50, 50), (-60, 60)]⟩⟩, ⟨500, ⟨0, [(-50, 50)]⟩⟩] := by unfold cutS; rw [valL_ok chk_L0]; rfl
theorem cut_3000 : cutS L0 (0, 3000) = L0 := by unfold cutS; rw [valL_ok chk_L0]; rfl
theorem com_3000 : comS L0 (0, 3000) = ⟨0, [(-50, 50)]⟩ := by
  unfold comS
  rw [cut_3000]
  show meetSec ⟨0, [(-50, 50), (-60, 60)]⟩ ⟨0, [(-50, 50)]⟩ = _
  unfold meetSec
  rw [valS_ok chk_a, valS_ok chk_b]
  kernel_rfl
theorem bd_L0 : sbS L0 = ((-60, 60), (0, 20)) := by
  unfold sbS
  rw [valL_ok chk_L0]
  show joinR (joinR (bdS ⟨0, [(-50, 50), (-60, 60)]⟩) (bdS ⟨0, [(-50, 50), (-60, 60)]⟩)) (bdS ⟨0, [(-50, 50)]⟩) = _
  unfold bdS
  rw [valS_ok chk_a, valS_ok chk_b]
  kernel_rfl
theorem len_L0 : lengthS L0 = 3000 := by unfold lengthS; rw [valL_ok chk_L0]; rfl
theorem vol_L0 : volS L0 = 5400000 := by unfold volS; rw [valL_ok chk_L0]; rfl
theorem win_L0 : winS L0 (0, 100) (5, 15) (1500, 2500) = 400000 := by unfold winS; rw [valL_ok chk_L0]; rfl
set_option maxRecDepth 100000 in
set_option maxHeartbeats 16000000 in
theorem awake_con : Con Try.prog gl 12 [] T := by
  have h0 := sample_con (gl := gl)
  have h1 := sat_con (gl := gl) L0 L0_len 2000
  have h2 := sat_con (gl := gl) L0 L0_len 3000
  have h3 := scut_con (gl := gl) L0 L0_len (1500, 2500)
  have h4 := scommon_con (gl := gl) L0 L0_len (0, 3000)
  have h5 := sbounds_con (gl := gl) L0 L0_len
  have h6 := scheck_con (gl := gl) L0 L0_len
  have h7 := slength_con (gl := gl) L0 L0_len
  have h8 := svolume_con (gl := gl) L0 L0_len
  have h9 := swithin_con (gl := gl) L0 L0_len (0, 100) (5, 15) (1500, 2500)
  rw [at_2000] at h1
  rw [at_3000] at h2
  rw [cut_1500] at h3
  rw [com_3000] at h4
  rw [bd_L0] at h5
  rw [chk_L0] at h6
  rw [len_L0] at h7
  rw [vol_L0] at h8
  rw [win_L0] at h9
  refine con_of Try.func12 rfl (by kernel_rfl) rfl ?_
  simp only [Try.ntmps12, Try.results12, argEnv, ofC, of1, List.map]
  repeat' (first
    | ((with_reducible apply r_call); exact rfl; exact rfl; (first | exact h0 | exact h1 | exact h2 | exact h3 | exact h4 | exact h5 | exact h6 | exact h7 | exact h8 | exact h9); exact rfl; exact rfl)
    | ((with_reducible apply (r_index_f (k := 0))); exact rfl; exact inferInstance; exact rfl; exact rfl; exact (by decide); exact rfl)
    | ((with_reducible apply (r_index_f (k := 1))); exact rfl; exact inferInstance; exact rfl; exact rfl; exact (by decide); exact rfl)
    | ((with_reducible apply (r_field_e2 (s := 36) (j := 1))); exact rfl; exact rfl)
    | ((with_reducible apply (r_load_fa0 (t := 29) (k := 0))); exact rfl; exact inferInstance; exact rfl; exact rfl; exact rfl; exact rfl)
    | ((with_reducible apply (r_load_f (t := 3) (k := 0))); exact rfl; exact inferInstance; exact rfl; exact rfl; exact rfl; exact rfl)
    | ((with_reducible apply (r_load_f (t := 34) (k := 0))); exact rfl; exact inferInstance; exact rfl; exact rfl; exact rfl; exact rfl)
    | ((with_reducible apply (r_load_f (t := 3) (k := 1))); exact rfl; exact inferInstance; exact rfl; exact rfl; exact rfl; exact rfl)
    | ((with_reducible apply (r_load_f (t := 34) (k := 1))); exact rfl; exact inferInstance; exact rfl; exact rfl; exact rfl; exact rfl)
    | ((with_reducible apply aw_seq))
    | ((with_reducible apply aw_region))
    | ((with_reducible apply thn_normal))
    | ((with_reducible apply aw_skip))
    | ((with_reducible apply aw_ret))
    | ((with_reducible apply ao_nil))
    | ((with_reducible apply r_move); exact rfl; exact rfl)
    | ((with_reducible apply r_assign); exact rfl; exact rfl)
    | ((with_reducible apply r_field_p); exact rfl; exact rfl)
    | ((with_reducible apply r_load_p); exact rfl; exact rfl; exact rfl; exact rfl)
    | ((with_reducible apply r_load_pa); exact rfl; exact rfl; exact rfl; exact rfl; exact rfl)
    | ((with_reducible apply r_eql); exact rfl; exact rfl; exact rfl)
    | ((with_reducible apply r_neq); exact rfl; exact rfl; exact rfl)
    | ((with_reducible apply r_pick_t); exact rfl; exact rfl; exact rfl)
    | ((with_reducible apply r_pick_f); exact rfl; exact rfl; exact rfl)
    | ((with_reducible apply r_not); exact rfl; exact rfl)
    | ((with_reducible apply r_len_f); exact rfl; exact inferInstance; exact rfl)
    | ((with_reducible apply r_field_e); exact rfl; exact rfl)
    | ((with_reducible apply r_store_pa); exact rfl; exact rfl; exact rfl; exact rfl; exact rfl; exact rfl)
    | ((with_reducible apply r_build); exact rfl; exact rfl; exact rfl)
    | ((with_reducible apply r_extract); exact rfl; exact rfl; exact rfl)
    | ((with_reducible apply r_alloc); exact rfl)
    | (((with_reducible apply r_guard); exact rfl; exact rfl; exact rfl; exact rfl) <;> intro hg <;> (first | (exact absurd hg (by decide)) | ((try simp only [decide_eq_true_eq, decide_eq_false_iff_not, Bool.not_eq_true', Bool.not_eq_false', Bool.not_true, Bool.not_false, Bool.not_not, Int.not_lt, Int.not_le, Nat.not_lt, Nat.not_le, gt_iff_lt, ge_iff_le, List.cons.injEq, and_true] at hg); first | (exact absurd trivial hg) | (exfalso; omega) | (have hT : True := hg; clear hT hg) | skip)))
    | (((with_reducible apply aw_cond); exact rfl) <;> intro hg <;> (first | (exact absurd hg (by decide)) | ((try simp only [decide_eq_true_eq, decide_eq_false_iff_not, Bool.not_eq_true', Bool.not_eq_false', Bool.not_true, Bool.not_false, Bool.not_not, Int.not_lt, Int.not_le, Nat.not_lt, Nat.not_le, gt_iff_lt, ge_iff_le, List.cons.injEq, and_true] at hg); first | (exact absurd trivial hg) | (exfalso; omega) | (have hT : True := hg; clear hT hg) | skip)))
    | (refine aw_drawq ?_ ?_; (kernel_rfl))
    | ((with_reducible apply ds_nil))
    | (((with_reducible apply rd_guard); exact rfl; exact rfl; exact rfl) <;> intro hg <;> (first | (exact absurd hg (by decide)) | ((try rw [hg]); (try simp only [decide_eq_true_eq, decide_eq_false_iff_not, Bool.not_eq_true', Bool.not_eq_false', Bool.not_true, Bool.not_false, Bool.not_not, Int.not_lt, Int.not_le, Nat.not_lt, Nat.not_le, gt_iff_lt, ge_iff_le, List.cons.injEq, and_true] at hg); first | (exact absurd trivial hg) | (exfalso; omega) | (have hT : True := hg; clear hT hg) | skip)))
    | ((with_reducible apply r_eqs); exact rfl; exact rfl; exact rfl; exact rfl; exact rfl; exact rfl; exact rfl)
    )
  all_goals first | exact ret_b rfl rfl | exact ret_b rfl (by decide) | trace_state
end Go.Proofs.Ytjpmidiklfiinaa.Ge
