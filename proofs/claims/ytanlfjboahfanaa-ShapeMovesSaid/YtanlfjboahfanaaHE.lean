/- Walks of the laws on measures: awake; ShapeSections, ShapeLogs, ShapeSweeps, ShapeStraight. -/
import Derived.Test.YtanlfjboahfanaaHD
import Derived.Test.YtanlfjboahfanaaGM
namespace Go.Proofs.Ytanlfjboahfanaa.Ge
set_option linter.unusedVariables false
set_option linter.unusedSimpArgs false
open Go.RowKit Go.Proofs.Ytanlfjboahfanaa.Ev
variable {gl : List (Nat × List CV)}

def s0 : Sec := ⟨0, [(-50, 50), (-60, 60)]⟩
def s1 : Sec := ⟨0, [(-50, 50)]⟩
def s2 : Sec := ⟨0, [(-40, 60)]⟩
def M0 : List Slc := [⟨1000, s1⟩, ⟨1000, s2⟩, ⟨1000, s1⟩]
theorem chk_c : secChk ⟨0, [(-40, 60)]⟩ = 0 := (sc_ok ⟨by decide, ⟨by decide, by decide⟩, fun i h => by
  match i, h with
  | 0, _ => rfl⟩ (by decide) (fun ⟨_, h⟩ => by rcases h with h | h <;> (unfold emptyS at h; simp at h)) (fun i h => by
  match i, h with
  | 0, _ => rfl)).symm
theorem chk_M0 : solChk M0 = 0 := by
  unfold solChk
  rw [if_neg (by decide), if_neg (by decide)]
  unfold M0 solGo
  rw [if_neg (fun h => h chk_b), if_neg (by decide), if_neg (by decide)]
  unfold solGo
  rw [if_neg (fun h => h chk_c), if_neg (by decide), if_neg (by decide)]
  unfold solGo
  rw [if_neg (fun h => h chk_b), if_neg (by decide), if_neg (by decide)]
  rfl
theorem dia_s0 : diaS s0 = 52 := by
  unfold diaS
  rw [show areaS s0 = 2200 by unfold areaS s0; rw [valS_ok chk_a]; rfl]
  exact (show IsRoot (452 * 2200 / 355) 52 from ⟨by decide, by decide, by decide⟩).eq
theorem dia_s1 : diaS s1 = 35 := by
  unfold diaS
  rw [show areaS s1 = 1000 by unfold areaS s1; rw [valS_ok chk_b]; rfl]
  exact (show IsRoot (452 * 1000 / 355) 35 from ⟨by decide, by decide, by decide⟩).eq
theorem bd_s0 : bdS s0 = ((-60, 60), (0, 20)) := by unfold bdS s0; rw [valS_ok chk_a]; rfl
theorem bd_s1 : bdS s1 = ((-50, 50), (0, 10)) := by unfold bdS s1; rw [valS_ok chk_b]; rfl
theorem bd_s2 : bdS s2 = ((-40, 60), (0, 10)) := by unfold bdS s2; rw [valS_ok chk_c]; rfl
theorem top_L0 : topS L0 = 35 := by
  unfold topS
  rw [if_pos chk_L0]; exact dia_s1
theorem taper_L0 : taperS L0 = 56 := by
  unfold taperS
  rw [if_pos chk_L0, show secD L0 0 = s0 from rfl, show secD L0 (L0.length - 1) = s1 from rfl, dia_s0, dia_s1]; rfl
theorem sweep_L0 : sweepS L0 = 0 := if_neg (fun h => absurd h.2 (by decide))
theorem cen_s1 : cenX s1 = 0 ∧ cenY s1 = 10 := by unfold cenX cenY; rw [bd_s1]; decide
theorem cen_s2 : cenX s2 = 20 ∧ cenY s2 = 10 := by unfold cenX cenY; rw [bd_s2]; decide
theorem sweep_M0 : sweepS M0 = 20 := by
  unfold sweepS
  rw [if_pos ⟨chk_M0, by decide⟩]
  show max (max (max (max (max (max 0 (devS M0 0).1) (devS M0 0).2) (devS M0 1).1) (devS M0 1).2) (devS M0 2).1) (devS M0 2).2 = 20
  unfold devS
  rw [show secD M0 0 = s1 from rfl, show secD M0 1 = s2 from rfl, show secD M0 2 = s1 from rfl, show secD M0 (M0.length - 1) = s1 from rfl]
  rw [cen_s1.1, cen_s1.2, cen_s2.1, cen_s2.2]
  rfl
theorem one_con (a b : Int) : Con Try.prog gl 35 [I a, I b] (secC ⟨0, [(a, b)]⟩) := by
  refine con_of Try.func35 rfl (by kernel_rfl) rfl ?_
  simp only [Try.ntmps35, Try.results35, argEnv, ofC, of1, List.map]
  repeat' (first
    | ((with_reducible apply r_litq); exact rfl; exact rfl; exact rfl; exact rfl; exact rfl; exact rfl; exact rfl)
    | ((with_reducible apply aw_seq))
    | ((with_reducible apply aw_region))
    | ((with_reducible apply thn_normal))
    | ((with_reducible apply aw_ret))
    | ((with_reducible apply ao_nil))
    | ((with_reducible apply r_move); exact rfl; exact rfl)
    | ((with_reducible apply r_store_pa); exact rfl; exact rfl; exact rfl; exact rfl; exact rfl; exact rfl)
    | ((with_reducible apply r_build); exact rfl; exact rfl; exact rfl)
    | ((with_reducible apply r_alloc); exact rfl)
    )
  exact ret1 (.cell_a inferInstance rfl rfl rfl rfl (cl_cons cl_c (cl_cons cl_c cl_nil)))
theorem M0_len : M0.length ≤ maxLen := by decide
set_option maxRecDepth 100000 in
set_option maxHeartbeats 16000000 in
theorem awake14_con : Con Try.prog gl 11 [] T := by
  have h0 := one_con (gl := gl) (-50) 50
  have h1 := one_con (gl := gl) (-40) 60
  have h2 := dia_con (gl := gl) s0
  have h3 := cen_con (gl := gl) s0
  have h4 := oval_con (gl := gl) s0
  have h5 := top_con (gl := gl) L0 L0_len
  have h6 := taper_con (gl := gl) L0 L0_len
  have h7 := sweep_con (gl := gl) M0 M0_len
  have h8 := sweep_con (gl := gl) L0 L0_len
  rw [dia_s0] at h2
  rw [show cenX s0 = 0 by unfold cenX; rw [bd_s0]; rfl, show cenY s0 = 20 by unfold cenY; rw [bd_s0]; rfl] at h3
  rw [show ovalS s0 = 100 by unfold ovalS; rw [bd_s0]; rfl] at h4
  rw [top_L0] at h5
  rw [taper_L0] at h6
  rw [sweep_M0] at h7
  rw [sweep_L0] at h8
  refine con_of Try.func11 rfl (by kernel_rfl) rfl ?_
  simp only [Try.ntmps11, Try.results11, argEnv, ofC, of1, List.map]
  repeat' (first
    | (refine aw_drawP 6 [0, 1, 2, 3, 4, 5] ?_ rfl ?_; (decide +kernel); (simp only [pk, List.drop_succ_cons, List.drop_zero]))
    | ((with_reducible apply r_litq); exact rfl; exact rfl; exact rfl; exact rfl; exact rfl; exact rfl; exact rfl)
    | ((with_reducible apply r_call); exact rfl; exact rfl; (first | exact h0 | exact h1 | exact h2 | exact h3 | exact h4 | exact h5 | exact h6 | exact h7 | exact h8); exact rfl; exact rfl)
    | ((with_reducible apply aw_seq))
    | ((with_reducible apply aw_region))
    | ((with_reducible apply thn_normal))
    | ((with_reducible apply aw_ret))
    | ((with_reducible apply ao_nil))
    | ((with_reducible apply r_move); exact rfl; exact rfl)
    | ((with_reducible apply r_assign); exact rfl; exact rfl)
    | ((with_reducible apply r_load_pa); exact rfl; exact rfl; exact rfl; exact rfl; exact rfl)
    | ((with_reducible apply r_eql); exact rfl; exact rfl; exact rfl)
    | ((with_reducible apply r_pick_t); exact rfl; exact rfl; exact rfl)
    | ((with_reducible apply r_store_pa); exact rfl; exact rfl; exact rfl; exact rfl; exact rfl; exact rfl)
    | ((with_reducible apply r_build); exact rfl; exact rfl; exact rfl)
    | ((with_reducible apply r_alloc); exact rfl)
    | (((with_reducible apply r_guard); exact rfl; exact rfl; exact rfl; exact rfl) <;> intro hg <;> (first | (exact absurd hg (by decide)) | ((try simp only [decide_eq_true_eq, decide_eq_false_iff_not, Bool.not_eq_true', Bool.not_eq_false', Bool.not_true, Bool.not_false, Bool.not_not, Int.not_lt, Int.not_le, Nat.not_lt, Nat.not_le, gt_iff_lt, ge_iff_le, List.cons.injEq, and_true] at hg); first | (exact absurd trivial hg) | (exfalso; omega) | (have hT : True := hg; clear hT hg) | skip)))
    | ((with_reducible apply ds_nil))
    | ((with_reducible apply r_eqs); exact rfl; exact rfl; exact rfl; exact rfl; exact rfl; exact rfl; exact rfl)
    )
  all_goals first | exact ret_b rfl rfl | exact ret_b rfl (by decide) | trace_state
set_option maxRecDepth 100000 in
set_option maxHeartbeats 4000000 in
theorem small14_con (l : List Slc) (hn : l.length ≤ maxLen) : Con Try.prog gl 18 [LL l] (.v (.bool (smallS l))) := by
  refine con_of Try.func18 rfl (by kernel_rfl) rfl ?_
  simp only [Try.ntmps18, Try.results18, argEnv, ofC, of1, List.map]
  by_cases h30 : 30 < l.length
  · skip
    repeat' (first
      | ((with_reducible apply aw_seq))
      | ((with_reducible apply aw_region))
      | ((with_reducible apply thn_normal))
      | ((with_reducible apply thn_ret))
      | ((with_reducible apply aw_ret))
      | ((with_reducible apply ao_nil))
      | ((with_reducible apply r_move); exact rfl; exact rfl)
      | ((with_reducible apply r_assign); exact rfl; exact rfl)
      | ((with_reducible apply r_gtr); exact rfl; exact rfl; exact rfl)
      | ((with_reducible apply r_len_f); exact rfl; exact inferInstance; exact rfl)
      | (((with_reducible apply aw_cond); exact rfl) <;> intro hg <;> (first | (exact absurd hg (by decide)) | ((try simp only [decide_eq_true_eq, decide_eq_false_iff_not, Bool.not_eq_true', Bool.not_eq_false', Bool.not_true, Bool.not_false, Bool.not_not, Int.not_lt, Int.not_le, Nat.not_lt, Nat.not_le, gt_iff_lt, ge_iff_le, List.cons.injEq, and_true] at hg); first | (exact absurd trivial hg) | (exfalso; omega) | (have hT : True := hg; clear hT hg) | skip)))
      )
    exact ret_b rfl (by unfold smallS; rw [decide_eq_false (by omega)]; rfl)
  have h30' : decide (l.length ≤ 30) = true := decide_eq_true (by omega)
  repeat' (first
    | ((with_reducible apply aw_seq))
    | ((with_reducible apply aw_region))
    | ((with_reducible apply aw_block))
    | ((with_reducible apply thn_normal))
    | ((with_reducible apply aw_skip))
    | ((with_reducible apply ao_nil))
    | ((with_reducible apply r_move); exact rfl; exact rfl)
    | ((with_reducible apply r_assign); exact rfl; exact rfl)
    | ((with_reducible apply r_gtr); exact rfl; exact rfl; exact rfl)
    | ((with_reducible apply r_len_f); exact rfl; exact inferInstance; exact rfl)
    | (((with_reducible apply aw_cond); exact rfl) <;> intro hg <;> (first | (exact absurd hg (by decide)) | ((try simp only [decide_eq_true_eq, decide_eq_false_iff_not, Bool.not_eq_true', Bool.not_eq_false', Bool.not_true, Bool.not_false, Bool.not_not, Int.not_lt, Int.not_le, Nat.not_lt, Nat.not_le, gt_iff_lt, ge_iff_le, List.cons.injEq, and_true] at hg); first | (exact absurd trivial hg) | (exfalso; omega) | (have hT : True := hg; clear hT hg) | skip)))
    )
  refine aw_loopG (G := Nat) (fun (j : Nat) => j ≤ l.length ∧ ∀ i (h : i < l.length), i < j → rowB l[i] = true) (fun (j : Nat) => l.length - j) (fun (j : Nat) => [(0, .c (LL l)), (3, A j)]) (fun (j : Nat) => []) 0 0 ?_ (by refine weak_mk rfl ?_ ?_ <;> repeat (first | exact envW_nil | exact heapW_nil | refine envW_cons rfl rfl ?_ | refine heapW_cons rfl rfl rfl ?_)) rfl ?_
  · exact ⟨Nat.zero_le _, fun _ _ h => absurd h (Nat.not_lt_zero _)⟩
  rintro j hI
  try dsimp only at hI
  try dsimp only
  obtain ⟨hj, hall⟩ := hI
  by_cases hjl : j < l.length
  · by_cases hr : l[j].sec.rows.length ≤ 130
    · skip
      repeat' (first
        | ((with_reducible apply (r_field_e2 (j := 1))); exact rfl; exact rfl)
        | ((with_reducible apply aw_seq))
        | ((with_reducible apply aw_region))
        | ((with_reducible apply aw_block))
        | ((with_reducible apply thn_normal))
        | ((with_reducible apply inb_normal))
        | ((with_reducible apply aw_skip))
        | ((with_reducible apply ao_nil))
        | ((with_reducible apply r_move); exact rfl; exact rfl)
        | ((with_reducible apply r_assign); exact rfl; exact rfl)
        | ((with_reducible apply r_lss); exact rfl; exact rfl; exact rfl)
        | ((with_reducible apply r_gtr); exact rfl; exact rfl; exact rfl)
        | ((with_reducible apply r_add); exact rfl; exact rfl; exact (by first | assumption | (unfold fits; omega)); exact rfl)
        | ((with_reducible apply r_len_f); exact rfl; exact inferInstance; exact rfl)
        | ((with_reducible apply r_index_f); exact rfl; exact inferInstance; exact rfl; exact rfl; (first | assumption | omega); exact rfl)
        | ((with_reducible apply r_load_f); exact rfl; exact inferInstance; exact List.getElem?_eq_getElem (by first | assumption | omega); exact rfl; exact rfl; exact rfl)
        | ((with_reducible apply r_field_e); exact rfl; exact rfl)
        | (((with_reducible apply aw_cond); exact rfl) <;> intro hg <;> (first | (exact absurd hg (by decide)) | ((try simp only [decide_eq_true_eq, decide_eq_false_iff_not, Bool.not_eq_true', Bool.not_eq_false', Bool.not_true, Bool.not_false, Bool.not_not, Int.not_lt, Int.not_le, Nat.not_lt, Nat.not_le, gt_iff_lt, ge_iff_le, List.cons.injEq, and_true] at hg); first | (exact absurd trivial hg) | (exfalso; omega) | (have hT : True := hg; clear hT hg) | skip)))
        )
      refine ⟨j + 1, ?_, ?_, by refine weak_mk rfl ?_ ?_ <;> repeat (first | exact envW_nil | exact heapW_nil | refine envW_cons rfl rfl ?_ | refine heapW_cons rfl rfl rfl ?_)⟩
      · show _ - (j + 1) < _ - j; omega
      · exact ⟨by show j + 1 ≤ _; omega, step_all hjl hall (by unfold rowB; exact decide_eq_true hr)⟩
    · skip
      repeat' (first
        | ((with_reducible apply (r_field_e2 (j := 1))); exact rfl; exact rfl)
        | ((with_reducible apply aw_seq))
        | ((with_reducible apply aw_region))
        | ((with_reducible apply aw_block))
        | ((with_reducible apply thn_normal))
        | ((with_reducible apply thn_ret))
        | ((with_reducible apply inb_ret))
        | ((with_reducible apply aw_skip))
        | ((with_reducible apply aw_ret))
        | ((with_reducible apply ao_nil))
        | ((with_reducible apply r_move); exact rfl; exact rfl)
        | ((with_reducible apply r_assign); exact rfl; exact rfl)
        | ((with_reducible apply r_lss); exact rfl; exact rfl; exact rfl)
        | ((with_reducible apply r_gtr); exact rfl; exact rfl; exact rfl)
        | ((with_reducible apply r_len_f); exact rfl; exact inferInstance; exact rfl)
        | ((with_reducible apply r_index_f); exact rfl; exact inferInstance; exact rfl; exact rfl; (first | assumption | omega); exact rfl)
        | ((with_reducible apply r_load_f); exact rfl; exact inferInstance; exact List.getElem?_eq_getElem (by first | assumption | omega); exact rfl; exact rfl; exact rfl)
        | ((with_reducible apply r_field_e); exact rfl; exact rfl)
        | (((with_reducible apply aw_cond); exact rfl) <;> intro hg <;> (first | (exact absurd hg (by decide)) | ((try simp only [decide_eq_true_eq, decide_eq_false_iff_not, Bool.not_eq_true', Bool.not_eq_false', Bool.not_true, Bool.not_false, Bool.not_not, Int.not_lt, Int.not_le, Nat.not_lt, Nat.not_le, gt_iff_lt, ge_iff_le, List.cons.injEq, and_true] at hg); first | (exact absurd trivial hg) | (exfalso; omega) | (have hT : True := hg; clear hT hg) | skip)))
        )
      exact ret_b rfl (by unfold smallS; rw [all_not hjl (by unfold rowB; exact decide_eq_false hr), Bool.and_false])
  · skip
    repeat' (first
      | ((with_reducible apply aw_seq))
      | ((with_reducible apply aw_region))
      | ((with_reducible apply thn_normal))
      | ((with_reducible apply thn_exit))
      | ((with_reducible apply inb_exit))
      | ((with_reducible apply aw_exit))
      | ((with_reducible apply aw_ret))
      | ((with_reducible apply ao_nil))
      | ((with_reducible apply r_move); exact rfl; exact rfl)
      | ((with_reducible apply r_assign); exact rfl; exact rfl)
      | ((with_reducible apply r_lss); exact rfl; exact rfl; exact rfl)
      | ((with_reducible apply r_len_f); exact rfl; exact inferInstance; exact rfl)
      | (((with_reducible apply aw_cond); exact rfl) <;> intro hg <;> (first | (exact absurd hg (by decide)) | ((try simp only [decide_eq_true_eq, decide_eq_false_iff_not, Bool.not_eq_true', Bool.not_eq_false', Bool.not_true, Bool.not_false, Bool.not_not, Int.not_lt, Int.not_le, Nat.not_lt, Nat.not_le, gt_iff_lt, ge_iff_le, List.cons.injEq, and_true] at hg); first | (exact absurd trivial hg) | (exfalso; omega) | (have hT : True := hg; clear hT hg) | skip)))
      )
    exact ret_b rfl (by unfold smallS; rw [h30', all_of (fun i hi => hall i hi (by omega))]; rfl)
set_option maxRecDepth 100000 in
set_option maxHeartbeats 4000000 in
theorem sections_law (s : Sec) (_ : s.rows.length ≤ maxLen) : Con Try.prog gl 3 [secC s] T := by
  have h1 := dia_con (gl := gl) s
  have h2 := rdia_con (gl := gl) s
  have h3 := cen_con (gl := gl) s
  have h4 := rcen_con (gl := gl) s
  have h5 := oval_con (gl := gl) s
  have h6 := roval_con (gl := gl) s
  refine con_of Try.func3 rfl (by kernel_rfl) rfl ?_
  simp only [Try.ntmps3, Try.results3, argEnv, ofC, of1, List.map]
  by_cases h : 130 < s.rows.length
  · skip
    repeat' (first
      | ((with_reducible apply r_call); exact rfl; exact rfl; exact awake14_con; exact rfl; exact rfl)
      | ((with_reducible apply aw_seq))
      | ((with_reducible apply aw_region))
      | ((with_reducible apply thn_normal))
      | ((with_reducible apply thn_ret))
      | ((with_reducible apply aw_ret))
      | ((with_reducible apply ao_nil))
      | ((with_reducible apply r_assign); exact rfl; exact rfl)
      | ((with_reducible apply r_field_p); exact rfl; exact rfl)
      | ((with_reducible apply r_load_p); exact rfl; exact rfl; exact rfl; exact rfl)
      | ((with_reducible apply r_gtr); exact rfl; exact rfl; exact rfl)
      | ((with_reducible apply r_box_a); exact rfl; exact rfl)
      | ((with_reducible apply r_len_f); exact rfl; exact inferInstance; exact rfl)
      | (((with_reducible apply aw_cond); exact rfl) <;> intro hg <;> (first | (exact absurd hg (by decide)) | ((try simp only [decide_eq_true_eq, decide_eq_false_iff_not, Bool.not_eq_true', Bool.not_eq_false', Bool.not_true, Bool.not_false, Bool.not_not, Int.not_lt, Int.not_le, Nat.not_lt, Nat.not_le, gt_iff_lt, ge_iff_le, List.cons.injEq, and_true] at hg); first | (exact absurd trivial hg) | (exfalso; omega) | (have hT : True := hg; clear hT hg) | skip)))
      )
    all_goals exact ret_b rfl rfl
  · skip
    repeat' (first
      | ((with_reducible apply r_call); exact rfl; exact rfl; (first | exact h1 | exact h2 | exact h3 | exact h4 | exact h5 | exact h6 | exact awake14_con); exact rfl; exact rfl)
      | ((with_reducible apply aw_seq))
      | ((with_reducible apply aw_region))
      | ((with_reducible apply thn_normal))
      | ((with_reducible apply aw_skip))
      | ((with_reducible apply aw_ret))
      | ((with_reducible apply ao_nil))
      | ((with_reducible apply r_move); exact rfl; exact rfl)
      | ((with_reducible apply r_assign); exact rfl; exact rfl)
      | ((with_reducible apply r_field_p); exact rfl; exact rfl)
      | ((with_reducible apply r_load_p); exact rfl; exact rfl; exact rfl; exact rfl)
      | ((with_reducible apply r_load_pa); exact rfl; exact rfl; exact rfl; exact rfl; exact rfl)
      | ((with_reducible apply r_gtr); exact rfl; exact rfl; exact rfl)
      | ((with_reducible apply r_eql); exact rfl; exact rfl; exact rfl)
      | ((with_reducible apply r_box_a); exact rfl; exact rfl)
      | ((with_reducible apply r_pick_t); exact rfl; exact rfl; exact rfl)
      | ((with_reducible apply r_len_f); exact rfl; exact inferInstance; exact rfl)
      | (((with_reducible apply aw_cond); exact rfl) <;> intro hg <;> (first | (exact absurd hg (by decide)) | ((try simp only [decide_eq_true_eq, decide_eq_false_iff_not, Bool.not_eq_true', Bool.not_eq_false', Bool.not_true, Bool.not_false, Bool.not_not, Int.not_lt, Int.not_le, Nat.not_lt, Nat.not_le, gt_iff_lt, ge_iff_le, List.cons.injEq, and_true] at hg); first | (exact absurd trivial hg) | (exfalso; omega) | (have hT : True := hg; clear hT hg) | skip)))
      | (refine aw_drawq ?_ ?_; (kernel_rfl))
      | ((with_reducible apply ds_nil))
      | (((with_reducible apply rd_guard); exact rfl; exact rfl; exact rfl) <;> intro hg <;> (first | (exact absurd hg (by decide)) | ((try rw [hg]); (try simp only [decide_eq_true_eq, decide_eq_false_iff_not, Bool.not_eq_true', Bool.not_eq_false', Bool.not_true, Bool.not_false, Bool.not_not, Int.not_lt, Int.not_le, Nat.not_lt, Nat.not_le, gt_iff_lt, ge_iff_le, List.cons.injEq, and_true] at hg); first | (exact absurd trivial hg) | (exfalso; omega) | (have hT : True := hg; clear hT hg) | skip)))
      | ((with_reducible apply r_eqs); exact rfl; exact rfl; exact rfl; exact rfl; exact rfl; exact rfl; exact rfl)
      )
    all_goals first | exact ret_b rfl rfl | exact ret_b rfl (by simp) | trace_state
set_option maxRecDepth 100000 in
set_option maxHeartbeats 4000000 in
theorem logs_law (l : List Slc) (hn : SlQ l) : Con Try.prog gl 4 [LL l] T := by
  have hs := small14_con (gl := gl) l hn
  have h1 := top_con (gl := gl) l hn
  have h2 := rtop_con (gl := gl) l hn
  have h3 := taper_con (gl := gl) l hn
  have h4 := rtaper_con (gl := gl) l hn
  refine con_of Try.func4 rfl (by kernel_rfl) rfl ?_
  simp only [Try.ntmps4, Try.results4, argEnv, ofC, of1, List.map]
  cases h : smallS l with
  | false =>
    rw [h] at hs
    repeat' (first
      | ((with_reducible apply r_call); exact rfl; exact rfl; (first | exact hs | exact awake14_con); exact rfl; exact rfl)
      | ((with_reducible apply aw_seq))
      | ((with_reducible apply aw_region))
      | ((with_reducible apply thn_normal))
      | ((with_reducible apply thn_ret))
      | ((with_reducible apply aw_ret))
      | ((with_reducible apply ao_nil))
      | ((with_reducible apply r_move); exact rfl; exact rfl)
      | ((with_reducible apply r_assign); exact rfl; exact rfl)
      | ((with_reducible apply r_not); exact rfl; exact rfl)
      | (((with_reducible apply aw_cond); exact rfl) <;> intro hg <;> (first | (exact absurd hg (by decide)) | ((try simp only [decide_eq_true_eq, decide_eq_false_iff_not, Bool.not_eq_true', Bool.not_eq_false', Bool.not_true, Bool.not_false, Bool.not_not, Int.not_lt, Int.not_le, Nat.not_lt, Nat.not_le, gt_iff_lt, ge_iff_le, List.cons.injEq, and_true] at hg); first | (exact absurd trivial hg) | (exfalso; omega) | (have hT : True := hg; clear hT hg) | skip)))
      )
    all_goals exact ret_b rfl rfl
  | true =>
    rw [h] at hs
    repeat' (first
      | ((with_reducible apply r_call); exact rfl; exact rfl; (first | exact hs | exact h1 | exact h2 | exact h3 | exact h4 | exact awake14_con); exact rfl; exact rfl)
      | ((with_reducible apply aw_seq))
      | ((with_reducible apply aw_region))
      | ((with_reducible apply thn_normal))
      | ((with_reducible apply aw_skip))
      | ((with_reducible apply aw_ret))
      | ((with_reducible apply ao_nil))
      | ((with_reducible apply r_move); exact rfl; exact rfl)
      | ((with_reducible apply r_assign); exact rfl; exact rfl)
      | ((with_reducible apply r_eql); exact rfl; exact rfl; exact rfl)
      | ((with_reducible apply r_pick_t); exact rfl; exact rfl; exact rfl)
      | ((with_reducible apply r_not); exact rfl; exact rfl)
      | (((with_reducible apply r_guard); exact rfl; exact rfl; exact rfl; exact rfl) <;> intro hg <;> (first | (exact absurd hg (by decide)) | ((try simp only [decide_eq_true_eq, decide_eq_false_iff_not, Bool.not_eq_true', Bool.not_eq_false', Bool.not_true, Bool.not_false, Bool.not_not, Int.not_lt, Int.not_le, Nat.not_lt, Nat.not_le, gt_iff_lt, ge_iff_le, List.cons.injEq, and_true] at hg); first | (exact absurd trivial hg) | (exfalso; omega) | (have hT : True := hg; clear hT hg) | skip)))
      | (((with_reducible apply aw_cond); exact rfl) <;> intro hg <;> (first | (exact absurd hg (by decide)) | ((try simp only [decide_eq_true_eq, decide_eq_false_iff_not, Bool.not_eq_true', Bool.not_eq_false', Bool.not_true, Bool.not_false, Bool.not_not, Int.not_lt, Int.not_le, Nat.not_lt, Nat.not_le, gt_iff_lt, ge_iff_le, List.cons.injEq, and_true] at hg); first | (exact absurd trivial hg) | (exfalso; omega) | (have hT : True := hg; clear hT hg) | skip)))
      )
    all_goals first | exact ret_b rfl rfl | trace_state
set_option maxRecDepth 100000 in
set_option maxHeartbeats 4000000 in
theorem sweeps_law (l : List Slc) (hn : SlQ l) : Con Try.prog gl 5 [LL l] T := by
  have hs := small14_con (gl := gl) l hn
  have h1 := sweep_con (gl := gl) l hn
  have h2 := rsweep_con (gl := gl) l hn
  refine con_of Try.func5 rfl (by kernel_rfl) rfl ?_
  simp only [Try.ntmps5, Try.results5, argEnv, ofC, of1, List.map]
  cases h : smallS l with
  | false =>
    rw [h] at hs
    repeat' (first
      | ((with_reducible apply r_call); exact rfl; exact rfl; (first | exact hs | exact awake14_con); exact rfl; exact rfl)
      | ((with_reducible apply aw_seq))
      | ((with_reducible apply aw_region))
      | ((with_reducible apply thn_normal))
      | ((with_reducible apply thn_ret))
      | ((with_reducible apply aw_ret))
      | ((with_reducible apply ao_nil))
      | ((with_reducible apply r_move); exact rfl; exact rfl)
      | ((with_reducible apply r_assign); exact rfl; exact rfl)
      | ((with_reducible apply r_not); exact rfl; exact rfl)
      | (((with_reducible apply aw_cond); exact rfl) <;> intro hg <;> (first | (exact absurd hg (by decide)) | ((try simp only [decide_eq_true_eq, decide_eq_false_iff_not, Bool.not_eq_true', Bool.not_eq_false', Bool.not_true, Bool.not_false, Bool.not_not, Int.not_lt, Int.not_le, Nat.not_lt, Nat.not_le, gt_iff_lt, ge_iff_le, List.cons.injEq, and_true] at hg); first | (exact absurd trivial hg) | (exfalso; omega) | (have hT : True := hg; clear hT hg) | skip)))
      )
    all_goals exact ret_b rfl rfl
  | true =>
    rw [h] at hs
    repeat' (first
      | ((with_reducible apply r_call); exact rfl; exact rfl; (first | exact hs | exact h1 | exact h2 | exact awake14_con); exact rfl; exact rfl)
      | ((with_reducible apply aw_seq))
      | ((with_reducible apply aw_region))
      | ((with_reducible apply thn_normal))
      | ((with_reducible apply aw_skip))
      | ((with_reducible apply aw_ret))
      | ((with_reducible apply ao_nil))
      | ((with_reducible apply r_move); exact rfl; exact rfl)
      | ((with_reducible apply r_assign); exact rfl; exact rfl)
      | ((with_reducible apply r_eql); exact rfl; exact rfl; exact rfl)
      | ((with_reducible apply r_pick_t); exact rfl; exact rfl; exact rfl)
      | ((with_reducible apply r_not); exact rfl; exact rfl)
      | (((with_reducible apply r_guard); exact rfl; exact rfl; exact rfl; exact rfl) <;> intro hg <;> (first | (exact absurd hg (by decide)) | ((try simp only [decide_eq_true_eq, decide_eq_false_iff_not, Bool.not_eq_true', Bool.not_eq_false', Bool.not_true, Bool.not_false, Bool.not_not, Int.not_lt, Int.not_le, Nat.not_lt, Nat.not_le, gt_iff_lt, ge_iff_le, List.cons.injEq, and_true] at hg); first | (exact absurd trivial hg) | (exfalso; omega) | (have hT : True := hg; clear hT hg) | skip)))
      | (((with_reducible apply aw_cond); exact rfl) <;> intro hg <;> (first | (exact absurd hg (by decide)) | ((try simp only [decide_eq_true_eq, decide_eq_false_iff_not, Bool.not_eq_true', Bool.not_eq_false', Bool.not_true, Bool.not_false, Bool.not_not, Int.not_lt, Int.not_le, Nat.not_lt, Nat.not_le, gt_iff_lt, ge_iff_le, List.cons.injEq, and_true] at hg); first | (exact absurd trivial hg) | (exfalso; omega) | (have hT : True := hg; clear hT hg) | skip)))
      )
    all_goals first | exact ret_b rfl rfl | trace_state

/-- Slices of one section. -/
def eqL (s : Sec) (lens : List Int) : List Slc := lens.map fun n => ⟨n, s⟩
theorem eqL_sec (s : Sec) (lens : List Int) {i : Nat} (h : i < lens.length) : secD (eqL s lens) i = s := by
  rw [secD_eq (by unfold eqL; simpa using h)]; simp [eqL]
theorem eq_top {s : Sec} {lens : List Int} (h : solChk (eqL s lens) = 0) : topS (eqL s lens) = diaS s := by
  have hp := sol_pos h
  have hl : (eqL s lens).length = lens.length := by simp [eqL]
  unfold topS; rw [if_pos h, eqL_sec _ _ (by omega)]
theorem eq_taper {s : Sec} {lens : List Int} : taperS (eqL s lens) = 0 := by
  unfold taperS
  split
  · rename_i h
    have hp := sol_pos h
    have hl : (eqL s lens).length = lens.length := by simp [eqL]
    rw [eqL_sec _ _ (by omega), eqL_sec _ _ (by omega), Int.sub_self, show max (0 : Int) 0 = 0 from rfl, Int.zero_mul, Int.zero_ediv]
  · rfl
theorem eq_sweep {s : Sec} {lens : List Int} : sweepS (eqL s lens) = 0 := by
  unfold sweepS
  split
  · rename_i h
    have hl : (eqL s lens).length = lens.length := by simp [eqL]
    have : ∀ j, j ≤ lens.length → swN (eqL s lens) j = 0 := by
      intro j
      induction j with
      | zero => intro _; rfl
      | succ j ih =>
        intro hj
        have h1 := ih (by omega)
        have h2 : devS (eqL s lens) j = (0, 0) := by
          unfold devS alongS distS
          rw [eqL_sec _ _ (by omega), eqL_sec _ _ (by omega), eqL_sec _ _ (by omega)]
          simp
        unfold swN
        rw [h1, h2]; rfl
    rw [hl]; exact this _ (Nat.le_refl _)
  · rfl
set_option maxRecDepth 100000 in
set_option maxHeartbeats 8000000 in
theorem straight_law (s : Sec) (_ : s.rows.length ≤ maxLen) (lens : List Int) (_ : lens.length ≤ maxLen) : Con Try.prog gl 6 [secC s, LI lens] T := by
  refine con_of Try.func6 rfl (by kernel_rfl) rfl ?_
  simp only [Try.ntmps6, Try.results6, argEnv, ofC, of1, List.map]
  by_cases h : s.rows.length ≤ 130 ∧ lens.length ≤ 30
  rotate_left
  · skip
    repeat' (first
      | ((with_reducible apply r_call); exact rfl; exact rfl; exact awake14_con; exact rfl; exact rfl)
      | ((with_reducible apply aw_seq))
      | ((with_reducible apply aw_region))
      | ((with_reducible apply thn_normal))
      | ((with_reducible apply thn_ret))
      | ((with_reducible apply aw_ret))
      | ((with_reducible apply ao_nil))
      | ((with_reducible apply r_move); exact rfl; exact rfl)
      | ((with_reducible apply r_assign); exact rfl; exact rfl)
      | ((with_reducible apply r_field_p); exact rfl; exact rfl)
      | ((with_reducible apply r_load_p); exact rfl; exact rfl; exact rfl; exact rfl)
      | ((with_reducible apply r_gtr); exact rfl; exact rfl; exact rfl)
      | ((with_reducible apply r_box_a); exact rfl; exact rfl)
      | ((with_reducible apply r_pick_t); exact rfl; exact rfl; exact rfl)
      | ((with_reducible apply r_pick_f); exact rfl; exact rfl; exact rfl)
      | ((with_reducible apply r_len_f); exact rfl; exact inferInstance; exact rfl)
      | (((with_reducible apply r_guard); exact rfl; exact rfl; exact rfl; exact rfl) <;> intro hg <;> (first | (exact absurd hg (by decide)) | ((try simp only [decide_eq_true_eq, decide_eq_false_iff_not, Bool.not_eq_true', Bool.not_eq_false', Bool.not_true, Bool.not_false, Bool.not_not, Int.not_lt, Int.not_le, Nat.not_lt, Nat.not_le, gt_iff_lt, ge_iff_le, List.cons.injEq, and_true] at hg); first | (exact absurd trivial hg) | (exfalso; omega) | (have hT : True := hg; clear hT hg) | skip)))
      | (((with_reducible apply aw_cond); exact rfl) <;> intro hg <;> (first | (exact absurd hg (by decide)) | ((try simp only [decide_eq_true_eq, decide_eq_false_iff_not, Bool.not_eq_true', Bool.not_eq_false', Bool.not_true, Bool.not_false, Bool.not_not, Int.not_lt, Int.not_le, Nat.not_lt, Nat.not_le, gt_iff_lt, ge_iff_le, List.cons.injEq, and_true] at hg); first | (exact absurd trivial hg) | (exfalso; omega) | (have hT : True := hg; clear hT hg) | skip)))
      )
    all_goals exact ret_b rfl rfl
  obtain ⟨h1, h2⟩ := h
  repeat' (first
    | ((with_reducible apply aw_seq))
    | ((with_reducible apply aw_region))
    | ((with_reducible apply aw_block))
    | ((with_reducible apply thn_normal))
    | ((with_reducible apply aw_skip))
    | ((with_reducible apply ao_nil))
    | ((with_reducible apply r_move); exact rfl; exact rfl)
    | ((with_reducible apply r_assign); exact rfl; exact rfl)
    | ((with_reducible apply r_field_p); exact rfl; exact rfl)
    | ((with_reducible apply r_load_p); exact rfl; exact rfl; exact rfl; exact rfl)
    | ((with_reducible apply r_gtr); exact rfl; exact rfl; exact rfl)
    | ((with_reducible apply r_box_a); exact rfl; exact rfl)
    | ((with_reducible apply r_pick_f); exact rfl; exact rfl; exact rfl)
    | ((with_reducible apply r_len_f); exact rfl; exact inferInstance; exact rfl)
    | (((with_reducible apply r_guard); exact rfl; exact rfl; exact rfl; exact rfl) <;> intro hg <;> (first | (exact absurd hg (by decide)) | ((try simp only [decide_eq_true_eq, decide_eq_false_iff_not, Bool.not_eq_true', Bool.not_eq_false', Bool.not_true, Bool.not_false, Bool.not_not, Int.not_lt, Int.not_le, Nat.not_lt, Nat.not_le, gt_iff_lt, ge_iff_le, List.cons.injEq, and_true] at hg); first | (exact absurd trivial hg) | (exfalso; omega) | (have hT : True := hg; clear hT hg) | skip)))
    | (((with_reducible apply aw_cond); exact rfl) <;> intro hg <;> (first | (exact absurd hg (by decide)) | ((try simp only [decide_eq_true_eq, decide_eq_false_iff_not, Bool.not_eq_true', Bool.not_eq_false', Bool.not_true, Bool.not_false, Bool.not_not, Int.not_lt, Int.not_le, Nat.not_lt, Nat.not_le, gt_iff_lt, ge_iff_le, List.cons.injEq, and_true] at hg); first | (exact absurd trivial hg) | (exfalso; omega) | (have hT : True := hg; clear hT hg) | skip)))
    )
  refine aw_nilvec 5 36 3 rfl rfl ?_
  refine aw_loopG (G := Nat × Nat) (fun ((j, k) : Nat × Nat) => j ≤ lens.length ∧ k = j) (fun ((j, k) : Nat × Nat) => lens.length - j) (fun ((j, k) : Nat × Nat) => [(1, .c (LI lens)), (2, .ptr 0 0), (5, .vec 1 k), (6, A j)]) (fun ((j, k) : Nat × Nat) => [(0, some (secB s)), (1, some (.vec 36 3 ((eqL s (lens.take j)).flatMap slcC)))]) 2 (0, 0) ?_ (by refine weak_mk rfl ?_ ?_ <;> repeat (first | exact envW_nil | exact heapW_nil | refine envW_cons rfl rfl ?_ | refine heapW_cons rfl rfl rfl ?_)) rfl ?_
  · exact ⟨Nat.zero_le _, rfl⟩
  rintro ⟨j, k⟩ hI
  try dsimp only at hI
  try dsimp only
  obtain ⟨hj, rfl⟩ := hI
  have hl : (eqL s (lens.take k)).length = k := by unfold eqL; simp; omega
  by_cases hjl : k < lens.length
  · have hst : eqL s (lens.take (k + 1)) = eqL s (lens.take k) ++ [(⟨lens[k], s⟩ : Slc)] := by
      unfold eqL; rw [List.take_succ_eq_append_getElem hjl, List.map_append]; rfl
    repeat' (first
      | (refine aw_drawP 8 [0, 1, 2, 3, 4, 5, 6, 7] ?_ rfl ?_; (decide +kernel); (simp only [pk, List.drop_succ_cons, List.drop_zero]))
      | ((with_reducible apply (r_push (enc := slcC) (l := eqL s (lens.take k)) (x0 := (⟨lens[k], s⟩ : Slc)))); exact rfl; exact rfl; exact inferInstance; exact hl; exact rfl; exact rfl; exact rfl; exact (by omega); exact (by omega); exact rfl)
      | ((with_reducible apply (r_appendl (enc := slcC) (l := eqL s (lens.take k)) (l2 := [(⟨lens[k], s⟩ : Slc)]))); exact rfl; exact rfl; exact inferInstance; exact hl; exact rfl; exact (by show k + 1 < _; omega); exact (by show (k + 1) * 40 ≤ _; omega); exact rfl)
      | ((with_reducible apply aw_seq))
      | ((with_reducible apply aw_region))
      | ((with_reducible apply aw_block))
      | ((with_reducible apply thn_normal))
      | ((with_reducible apply inb_normal))
      | ((with_reducible apply aw_skip))
      | ((with_reducible apply ao_nil))
      | ((with_reducible apply r_move); exact rfl; exact rfl)
      | ((with_reducible apply r_assign); exact rfl; exact rfl)
      | ((with_reducible apply r_load_pa); exact rfl; exact rfl; exact rfl; exact rfl; exact rfl)
      | ((with_reducible apply r_lss); exact rfl; exact rfl; exact rfl)
      | ((with_reducible apply r_add); exact rfl; exact rfl; exact (by first | assumption | (unfold fits; omega)); exact rfl)
      | ((with_reducible apply r_len_f); exact rfl; exact inferInstance; exact rfl)
      | ((with_reducible apply r_index_f); exact rfl; exact inferInstance; exact rfl; exact rfl; (first | assumption | omega); exact rfl)
      | ((with_reducible apply r_load_f0); exact rfl; exact inferInstance; exact List.getElem?_eq_getElem (by first | assumption | omega); exact rfl; exact rfl)
      | ((with_reducible apply r_build); exact rfl; exact rfl; exact rfl)
      | (((with_reducible apply aw_cond); exact rfl) <;> intro hg <;> (first | (exact absurd hg (by decide)) | ((try simp only [decide_eq_true_eq, decide_eq_false_iff_not, Bool.not_eq_true', Bool.not_eq_false', Bool.not_true, Bool.not_false, Bool.not_not, Int.not_lt, Int.not_le, Nat.not_lt, Nat.not_le, gt_iff_lt, ge_iff_le, List.cons.injEq, and_true] at hg); first | (exact absurd trivial hg) | (exfalso; omega) | (have hT : True := hg; clear hT hg) | skip)))
      | ((with_reducible apply ds_nil))
      | ((with_reducible apply r_litq); exact rfl; exact rfl; exact rfl; exact rfl; exact rfl; exact rfl; exact rfl)
      )
    rw [← hst]
    refine ⟨(k + 1, k + 1), ?_, ?_, by refine weak_mk rfl ?_ ?_ <;> repeat (first | exact envW_nil | exact heapW_nil | refine envW_cons rfl rfl ?_ | refine heapW_cons rfl rfl rfl ?_)⟩
    · show _ - (k + 1) < _ - k; omega
    · exact ⟨by show k + 1 ≤ _; omega, rfl⟩
  obtain rfl : k = lens.length := by omega
  rw [List.take_length] at hl ⊢
  have hn : (eqL s lens).length ≤ maxLen := by rw [hl]; unfold maxLen; omega
  have hc := scheck_con (gl := gl) (eqL s lens) hn
  have t1 := top_con (gl := gl) (eqL s lens) hn
  have t2 := taper_con (gl := gl) (eqL s lens) hn
  have t3 := sweep_con (gl := gl) (eqL s lens) hn
  have t4 := dia_con (gl := gl) s
  rw [eq_taper] at t2
  rw [eq_sweep] at t3
  by_cases hok : solChk (eqL s lens) = 0
  · rw [eq_top hok] at t1
    repeat' (first
      | ((with_reducible apply (r_freeze 5)); exact rfl; exact rfl; exact (by rw [flat_len EncL.len, hl]))
      | ((with_reducible apply r_call); exact rfl; exact rfl; (first | exact hc | exact t1 | exact t2 | exact t3 | exact t4 | exact awake14_con); exact rfl; exact rfl)
      | ((with_reducible apply aw_seq))
      | ((with_reducible apply aw_region))
      | ((with_reducible apply thn_normal))
      | ((with_reducible apply thn_exit))
      | ((with_reducible apply inb_exit))
      | ((with_reducible apply aw_skip))
      | ((with_reducible apply aw_exit))
      | ((with_reducible apply aw_ret))
      | ((with_reducible apply ao_nil))
      | ((with_reducible apply r_move); exact rfl; exact rfl)
      | ((with_reducible apply r_assign); exact rfl; exact rfl)
      | ((with_reducible apply r_load_pa); exact rfl; exact rfl; exact rfl; exact rfl; exact rfl)
      | ((with_reducible apply r_lss); exact rfl; exact rfl; exact rfl)
      | ((with_reducible apply r_eql); exact rfl; exact rfl; exact rfl)
      | ((with_reducible apply r_neq); exact rfl; exact rfl; exact rfl)
      | ((with_reducible apply r_pick_t); exact rfl; exact rfl; exact rfl)
      | ((with_reducible apply r_len_f); exact rfl; exact inferInstance; exact rfl)
      | (((with_reducible apply aw_cond); exact rfl) <;> intro hg <;> (first | (exact absurd hg (by decide)) | ((try simp only [decide_eq_true_eq, decide_eq_false_iff_not, Bool.not_eq_true', Bool.not_eq_false', Bool.not_true, Bool.not_false, Bool.not_not, Int.not_lt, Int.not_le, Nat.not_lt, Nat.not_le, gt_iff_lt, ge_iff_le, List.cons.injEq, and_true] at hg); first | (exact absurd trivial hg) | (exfalso; omega) | (have hT : True := hg; clear hT hg) | skip)))
      | (refine aw_drawq ?_ ?_; (kernel_rfl))
      | ((with_reducible apply ds_nil))
      | (((with_reducible apply rd_guard); exact rfl; exact rfl; exact rfl) <;> intro hg <;> (first | (exact absurd hg (by decide)) | ((try rw [hg]); (try simp only [decide_eq_true_eq, decide_eq_false_iff_not, Bool.not_eq_true', Bool.not_eq_false', Bool.not_true, Bool.not_false, Bool.not_not, Int.not_lt, Int.not_le, Nat.not_lt, Nat.not_le, gt_iff_lt, ge_iff_le, List.cons.injEq, and_true] at hg); first | (exact absurd trivial hg) | (exfalso; omega) | (have hT : True := hg; clear hT hg) | skip)))
      )
    all_goals first | exact ret_b rfl rfl | trace_state
  · have e : topS (eqL s lens) = 0 := if_neg hok
    rw [e] at t1
    repeat' (first
      | ((with_reducible apply (r_freeze 5)); exact rfl; exact rfl; exact (by rw [flat_len EncL.len, hl]))
      | ((with_reducible apply r_call); exact rfl; exact rfl; (first | exact hc | exact t1 | exact t2 | exact t3 | exact awake14_con); exact rfl; exact rfl)
      | ((with_reducible apply aw_seq))
      | ((with_reducible apply aw_region))
      | ((with_reducible apply thn_normal))
      | ((with_reducible apply thn_ret))
      | ((with_reducible apply thn_exit))
      | ((with_reducible apply inb_exit))
      | ((with_reducible apply aw_exit))
      | ((with_reducible apply aw_ret))
      | ((with_reducible apply ao_nil))
      | ((with_reducible apply r_move); exact rfl; exact rfl)
      | ((with_reducible apply r_assign); exact rfl; exact rfl)
      | ((with_reducible apply r_lss); exact rfl; exact rfl; exact rfl)
      | ((with_reducible apply r_eql); exact rfl; exact rfl; exact rfl)
      | ((with_reducible apply r_neq); exact rfl; exact rfl; exact rfl)
      | ((with_reducible apply r_pick_t); exact rfl; exact rfl; exact rfl)
      | ((with_reducible apply r_len_f); exact rfl; exact inferInstance; exact rfl)
      | (((with_reducible apply r_guard); exact rfl; exact rfl; exact rfl; exact rfl) <;> intro hg <;> (first | (exact absurd hg (by decide)) | ((try simp only [decide_eq_true_eq, decide_eq_false_iff_not, Bool.not_eq_true', Bool.not_eq_false', Bool.not_true, Bool.not_false, Bool.not_not, Int.not_lt, Int.not_le, Nat.not_lt, Nat.not_le, gt_iff_lt, ge_iff_le, List.cons.injEq, and_true] at hg); first | (exact absurd trivial hg) | (exfalso; omega) | (have hT : True := hg; clear hT hg) | skip)))
      | (((with_reducible apply aw_cond); exact rfl) <;> intro hg <;> (first | (exact absurd hg (by decide)) | ((try simp only [decide_eq_true_eq, decide_eq_false_iff_not, Bool.not_eq_true', Bool.not_eq_false', Bool.not_true, Bool.not_false, Bool.not_not, Int.not_lt, Int.not_le, Nat.not_lt, Nat.not_le, gt_iff_lt, ge_iff_le, List.cons.injEq, and_true] at hg); first | (exact absurd trivial hg) | (exfalso; omega) | (have hT : True := hg; clear hT hg) | skip)))
      )
    all_goals first | exact ret_b rfl rfl | trace_state
end Go.Proofs.Ytanlfjboahfanaa.Ge
