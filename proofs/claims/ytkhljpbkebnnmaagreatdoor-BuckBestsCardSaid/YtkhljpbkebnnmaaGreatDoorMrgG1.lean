/- HC HD GN: texts laid together. -/
import Derived.Test.YtkhljpbkebnnmaaGreatDoorMrgG0
set_option maxRecDepth 100000
set_option maxHeartbeats 64000000
/- Walks of measures: Diameter, Center2, Oval, Top, Taper in both. -/
namespace Go.Proofs.YtkhljpbkebnnmaaGreatDoor.Ge
set_option linter.unusedVariables false
set_option linter.unusedSimpArgs false
open Go.RowKit Go.Proofs.YtkhljpbkebnnmaaGreatDoor.Ev
variable {gl : List (Nat × List CV)}
theorem quo_355 {n : Int} (h : 0 ≤ n) : n.tdiv 355 = n / 355 := Int.tdiv_eq_ediv_of_nonneg h
theorem dia_con (s : Sec) : Con Tryz.prog gl 116 [secC s] (I (diaS s)) := by
  have ha := areaS_bd s
  have h1 := area_con (gl := gl) s
  have h2 := root_con (gl := gl) (452 * areaS s / 355) (by omega) (by omega)
  have hq : (452 * areaS s).tdiv 355 = 452 * areaS s / 355 := quo_355 (by omega)
  have hf : fits ((452 * areaS s).tdiv 355) := by rw [hq]; unfold fits; omega
  refine con_of Tryz.func116 rfl (by kernel_rfl) rfl ?_
  simp only [Tryz.ntmps116, Tryz.results116, argEnv, ofC, of1, List.map]
  repeat' (first
 | ((with_reducible apply r_quo); exact rfl; exact rfl; exact (by decide); exact hf; exact rfl)
 | (rw [hq])
 | ((with_reducible apply r_call); exact rfl; exact rfl; (first | exact h1 | exact h2); exact rfl; exact rfl)
 | ((with_reducible apply aw_seq))
 | ((with_reducible apply aw_region))
 | ((with_reducible apply thn_normal))
 | ((with_reducible apply aw_ret))
 | ((with_reducible apply ao_nil))
 | ((with_reducible apply r_assign); exact rfl; exact rfl)
 | ((with_reducible apply r_load_pa); exact rfl; exact rfl; exact rfl; exact rfl; exact rfl)
 | ((with_reducible apply r_mul); exact rfl; exact rfl; exact (by first | assumption | (unfold fits; omega)); exact rfl)
 | ((with_reducible apply r_box_a); exact rfl; exact rfl)
 )
  exact ret_i rfl rfl
theorem rdia_con (s : Sec) : Con Tryz.prog gl 121 [secC s] (I (diaS s)) := by
  have ha := areaS_bd s
  have h1 := rarea_con (gl := gl) s
  have hc := rcheck_con (gl := gl) s
  have hq : (452 * areaS s).tdiv 355 = 452 * areaS s / 355 := quo_355 (by omega)
  have hf : fits ((452 * areaS s).tdiv 355) := by rw [hq]; unfold fits; omega
  have hr := dia_is s
  have hb := dia_bd s
  unfold diaS at hr hb ⊢
  have hn : 0 ≤ 452 * areaS s / 355 ∧ 452 * areaS s / 355 ≤ 2000000 := by omega
  by_cases h : secChk s = 0
  · skip
    refine con_of Tryz.func121 rfl (by kernel_rfl) rfl ?_
    simp only [Tryz.ntmps121, Tryz.results121, argEnv, ofC, of1, List.map]
    repeat' (first
 | ((with_reducible apply r_quo); exact rfl; exact rfl; exact (by decide); exact hf; exact rfl)
 | (rw [hq])
 | ((with_reducible apply r_call); exact rfl; exact rfl; (first | exact h1 | exact hc); exact rfl; exact rfl)
 | ((with_reducible apply aw_seq))
 | ((with_reducible apply aw_region))
 | ((with_reducible apply aw_block))
 | ((with_reducible apply thn_normal))
 | ((with_reducible apply ao_nil))
 | ((with_reducible apply r_assign); exact rfl; exact rfl)
 | ((with_reducible apply r_load_pa); exact rfl; exact rfl; exact rfl; exact rfl; exact rfl)
 | ((with_reducible apply r_eql); exact rfl; exact rfl; exact rfl)
 | ((with_reducible apply r_mul); exact rfl; exact rfl; exact (by first | assumption | (unfold fits; omega)); exact rfl)
 | ((with_reducible apply r_box_a); exact rfl; exact rfl)
 | (((with_reducible apply aw_cond); exact rfl) <;> intro hg <;> (first | (exact absurd hg (by decide)) | ((try simp only [decide_eq_true_eq, decide_eq_false_iff_not, Bool.not_eq_true', Bool.not_eq_false', Bool.not_true, Bool.not_false, Bool.not_not, Int.not_lt, Int.not_le, Nat.not_lt, Nat.not_le, gt_iff_lt, ge_iff_le, List.cons.injEq, and_true] at hg); first | (exact absurd trivial hg) | (exfalso; omega) | (have hT : True := hg; clear hT hg) | skip)))
 )
    generalize 452 * areaS s / 355 = n at *
    generalize rootI n = r at *
    obtain ⟨r1, r2, r3⟩ := hr
    refine aw_loopG (G := Nat) (fun (d : Nat) => (d : Int) ≤ r) (fun (d : Nat) => (r - d).toNat) (fun (d : Nat) => [(3, A n), (4, A d)]) (fun (d : Nat) => []) 1 0 ?_ (by refine weak_mk rfl ?_ ?_ <;> repeat (first | exact envW_nil | exact heapW_nil | refine envW_cons rfl rfl ?_ | refine heapW_cons rfl rfl rfl ?_)) rfl ?_
    · exact r1
    rintro d hI
    try dsimp only at hI
    try dsimp only
    have hd : (d : Int) ≤ r := hI
    by_cases hlt : (d : Int) < r
    · have hm : ((d : Int) + 1) * ((d : Int) + 1) ≤ r * r := Int.mul_le_mul (by omega) (by omega) (by omega) (by omega)
      have hm0 : 0 ≤ ((d : Int) + 1) * ((d : Int) + 1) := Int.mul_nonneg (by omega) (by omega)
      have hf1 : fits (((d : Int) + 1) * ((d : Int) + 1)) := by unfold fits; omega
      repeat' (first
 | ((with_reducible apply aw_seq))
 | ((with_reducible apply aw_region))
 | ((with_reducible apply aw_block))
 | ((with_reducible apply thn_normal))
 | ((with_reducible apply inb_normal))
 | ((with_reducible apply aw_skip))
 | ((with_reducible apply ao_nil))
 | ((with_reducible apply r_move); exact rfl; exact rfl)
 | ((with_reducible apply r_assign); exact rfl; exact rfl)
 | ((with_reducible apply r_leq); exact rfl; exact rfl; exact rfl)
 | ((with_reducible apply r_add); exact rfl; exact rfl; exact (by first | assumption | (unfold fits; omega)); exact rfl)
 | ((with_reducible apply r_mul); exact rfl; exact rfl; exact (by first | assumption | (unfold fits; omega)); exact rfl)
 | (((with_reducible apply aw_cond); exact rfl) <;> intro hg <;> (first | (exact absurd hg (by decide)) | ((try simp only [decide_eq_true_eq, decide_eq_false_iff_not, Bool.not_eq_true', Bool.not_eq_false', Bool.not_true, Bool.not_false, Bool.not_not, Int.not_lt, Int.not_le, Nat.not_lt, Nat.not_le, gt_iff_lt, ge_iff_le, List.cons.injEq, and_true] at hg); first | (exact absurd trivial hg) | (exfalso; omega) | (have hT : True := hg; clear hT hg) | skip)))
 )
      refine ⟨d + 1, ?_, ?_, by refine weak_mk rfl ?_ ?_ <;> repeat (first | exact envW_nil | exact heapW_nil | refine envW_cons rfl rfl ?_ | refine heapW_cons rfl rfl rfl ?_)⟩
      · show (r - ((d + 1 : Nat) : Int)).toNat < (r - (d : Int)).toNat; omega
      · show ((d + 1 : Nat) : Int) ≤ r; omega
    · have e : (d : Int) = r := by omega
      rw [← e] at r3
      have hm : ((d : Int) + 1) * ((d : Int) + 1) ≤ 1355 * 1355 := Int.mul_le_mul (by omega) (by omega) (by omega) (by omega)
      have hf1 : fits (((d : Int) + 1) * ((d : Int) + 1)) := by unfold fits; omega
      repeat' (first
 | ((with_reducible apply aw_seq))
 | ((with_reducible apply aw_region))
 | ((with_reducible apply thn_normal))
 | ((with_reducible apply thn_exit))
 | ((with_reducible apply inb_exit))
 | ((with_reducible apply aw_exit))
 | ((with_reducible apply aw_ret))
 | ((with_reducible apply ao_nil))
 | ((with_reducible apply r_move); exact rfl; exact rfl)
 | ((with_reducible apply r_assign); exact rfl; exact rfl)
 | ((with_reducible apply r_leq); exact rfl; exact rfl; exact rfl)
 | ((with_reducible apply r_add); exact rfl; exact rfl; exact (by first | assumption | (unfold fits; omega)); exact rfl)
 | ((with_reducible apply r_mul); exact rfl; exact rfl; exact (by first | assumption | (unfold fits; omega)); exact rfl)
 | (((with_reducible apply aw_cond); exact rfl) <;> intro hg <;> (first | (exact absurd hg (by decide)) | ((try simp only [decide_eq_true_eq, decide_eq_false_iff_not, Bool.not_eq_true', Bool.not_eq_false', Bool.not_true, Bool.not_false, Bool.not_not, Int.not_lt, Int.not_le, Nat.not_lt, Nat.not_le, gt_iff_lt, ge_iff_le, List.cons.injEq, and_true] at hg); first | (exact absurd trivial hg) | (exfalso; omega) | (have hT : True := hg; clear hT hg) | skip)))
 )
      exact ret_i rfl e
  · have h0 : areaS s = 0 := area_no h
    rw [h0] at hr hb ⊢
    have e0 : rootI (452 * 0 / 355) = 0 := (show IsRoot (452 * 0 / 355) 0 from ⟨by decide, by decide, by decide⟩).eq
    rw [e0]
    refine con_of Tryz.func121 rfl (by kernel_rfl) rfl ?_
    simp only [Tryz.ntmps121, Tryz.results121, argEnv, ofC, of1, List.map]
    repeat' (first
 | ((with_reducible apply r_call); exact rfl; exact rfl; exact hc; exact rfl; exact rfl)
 | ((with_reducible apply aw_seq))
 | ((with_reducible apply aw_region))
 | ((with_reducible apply aw_block))
 | ((with_reducible apply thn_normal))
 | ((with_reducible apply aw_skip))
 | ((with_reducible apply ao_nil))
 | ((with_reducible apply r_assign); exact rfl; exact rfl)
 | ((with_reducible apply r_load_pa); exact rfl; exact rfl; exact rfl; exact rfl; exact rfl)
 | ((with_reducible apply r_eql); exact rfl; exact rfl; exact rfl)
 | ((with_reducible apply r_box_a); exact rfl; exact rfl)
 | (((with_reducible apply aw_cond); exact rfl) <;> intro hg <;> (first | (exact absurd hg (by decide)) | ((try simp only [decide_eq_true_eq, decide_eq_false_iff_not, Bool.not_eq_true', Bool.not_eq_false', Bool.not_true, Bool.not_false, Bool.not_not, Int.not_lt, Int.not_le, Nat.not_lt, Nat.not_le, gt_iff_lt, ge_iff_le, List.cons.injEq, and_true] at hg); first | (exact absurd trivial hg) | (exfalso; omega) | (have hT : True := hg; clear hT hg) | skip)))
 )
    refine aw_loopG (G := Nat) (fun (d : Nat) => d = 0) (fun (d : Nat) => d) (fun (d : Nat) => [(3, A 0), (4, A d)]) (fun (d : Nat) => []) 1 0 ?_ (by refine weak_mk rfl ?_ ?_ <;> repeat (first | exact envW_nil | exact heapW_nil | refine envW_cons rfl rfl ?_ | refine heapW_cons rfl rfl rfl ?_)) rfl ?_
    · exact rfl
    rintro d hI
    try dsimp only at hI
    try dsimp only
    have hd : d = 0 := hI
    subst hd
    repeat' (first
 | ((with_reducible apply aw_seq))
 | ((with_reducible apply aw_region))
 | ((with_reducible apply thn_normal))
 | ((with_reducible apply thn_exit))
 | ((with_reducible apply inb_exit))
 | ((with_reducible apply aw_exit))
 | ((with_reducible apply aw_ret))
 | ((with_reducible apply ao_nil))
 | ((with_reducible apply r_move); exact rfl; exact rfl)
 | ((with_reducible apply r_assign); exact rfl; exact rfl)
 | ((with_reducible apply r_leq); exact rfl; exact rfl; exact rfl)
 | ((with_reducible apply r_add); exact rfl; exact rfl; exact (by first | assumption | (unfold fits; omega)); exact rfl)
 | ((with_reducible apply r_mul); exact rfl; exact rfl; exact (by first | assumption | (unfold fits; omega)); exact rfl)
 | (((with_reducible apply aw_cond); exact rfl) <;> intro hg <;> (first | (exact absurd hg (by decide)) | ((try simp only [decide_eq_true_eq, decide_eq_false_iff_not, Bool.not_eq_true', Bool.not_eq_false', Bool.not_true, Bool.not_false, Bool.not_not, Int.not_lt, Int.not_le, Nat.not_lt, Nat.not_le, gt_iff_lt, ge_iff_le, List.cons.injEq, and_true] at hg); first | (exact absurd trivial hg) | (exfalso; omega) | (have hT : True := hg; clear hT hg) | skip)))
 )
    exact ret_i rfl rfl
theorem cen_con (s : Sec) : Con Tryz.prog gl 118 [secC s] (.agg [I (cenX s), I (cenY s)]) := by
  have h1 := bounds_con (gl := gl) s
  have hb := bd_bd s
  refine con_of Tryz.func118 rfl (by kernel_rfl) rfl ?_
  simp only [Tryz.ntmps118, Tryz.results118, argEnv, ofC, of1, List.map]
  repeat' (first
 | ((with_reducible apply r_call); exact rfl; exact rfl; exact h1; exact rfl; exact rfl)
 | ((with_reducible apply aw_seq))
 | ((with_reducible apply aw_region))
 | ((with_reducible apply thn_normal))
 | ((with_reducible apply aw_ret))
 | ((with_reducible apply ao_nil))
 | ((with_reducible apply r_field_p); exact rfl; exact rfl)
 | ((with_reducible apply r_load_p); exact rfl; exact rfl; exact rfl; exact rfl)
 | ((with_reducible apply r_load_pa); exact rfl; exact rfl; exact rfl; exact rfl; exact rfl)
 | ((with_reducible apply r_add); exact rfl; exact rfl; exact (by first | assumption | (unfold fits; omega)); exact rfl)
 | ((with_reducible apply r_box_a); exact rfl; exact rfl)
 | ((with_reducible apply r_store_pa); exact rfl; exact rfl; exact rfl; exact rfl; exact rfl; exact rfl)
 | ((with_reducible apply r_build); exact rfl; exact rfl; exact rfl)
 | ((with_reducible apply r_alloc); exact rfl)
 )
  exact ret1 (.cell_a inferInstance rfl rfl rfl rfl (cl_cons cl_c (cl_cons cl_c cl_nil)))
theorem rbnd_con (s : Sec) : Con Tryz.prog gl 129 [secC s] (rectC (bdS s)) := by
  have h1 := rbounds_con (gl := gl) s
  have hc := rcheck_con (gl := gl) s
  by_cases h : secChk s = 0
  · skip
    refine con_of Tryz.func129 rfl (by kernel_rfl) rfl ?_
    simp only [Tryz.ntmps129, Tryz.results129, argEnv, ofC, of1, List.map]
    repeat' (first
 | ((with_reducible apply r_call); exact rfl; exact rfl; (first | exact h1 | exact hc); exact rfl; exact rfl)
 | ((with_reducible apply aw_seq))
 | ((with_reducible apply aw_region))
 | ((with_reducible apply thn_normal))
 | ((with_reducible apply aw_skip))
 | ((with_reducible apply aw_ret))
 | ((with_reducible apply ao_nil))
 | ((with_reducible apply r_load_pa); exact rfl; exact rfl; exact rfl; exact rfl; exact rfl)
 | ((with_reducible apply r_neq); exact rfl; exact rfl; exact rfl)
 | ((with_reducible apply r_box_a); exact rfl; exact rfl)
 | ((with_reducible apply r_store_pa); exact rfl; exact rfl; exact rfl; exact rfl; exact rfl; exact rfl)
 | ((with_reducible apply r_alloc); exact rfl)
 | (((with_reducible apply aw_cond); exact rfl) <;> intro hg <;> (first | (exact absurd hg (by decide)) | ((try simp only [decide_eq_true_eq, decide_eq_false_iff_not, Bool.not_eq_true', Bool.not_eq_false', Bool.not_true, Bool.not_false, Bool.not_not, Int.not_lt, Int.not_le, Nat.not_lt, Nat.not_le, gt_iff_lt, ge_iff_le, List.cons.injEq, and_true] at hg); first | (exact absurd trivial hg) | (exfalso; omega) | (have hT : True := hg; clear hT hg) | skip)))
 )
    exact ret1 (.cell_a inferInstance rfl rfl rfl rfl (cl_cons cl_c (cl_cons cl_c (cl_cons cl_c (cl_cons cl_c cl_nil)))))
  · rw [bd_no h]
    refine con_of Tryz.func129 rfl (by kernel_rfl) rfl ?_
    simp only [Tryz.ntmps129, Tryz.results129, argEnv, ofC, of1, List.map]
    repeat' (first
 | ((with_reducible apply r_call); exact rfl; exact rfl; exact hc; exact rfl; exact rfl)
 | ((with_reducible apply aw_seq))
 | ((with_reducible apply aw_region))
 | ((with_reducible apply thn_normal))
 | ((with_reducible apply thn_ret))
 | ((with_reducible apply aw_ret))
 | ((with_reducible apply ao_nil))
 | ((with_reducible apply r_load_pa); exact rfl; exact rfl; exact rfl; exact rfl; exact rfl)
 | ((with_reducible apply r_neq); exact rfl; exact rfl; exact rfl)
 | ((with_reducible apply r_box_a); exact rfl; exact rfl)
 | ((with_reducible apply r_store_pa); exact rfl; exact rfl; exact rfl; exact rfl; exact rfl; exact rfl)
 | ((with_reducible apply r_build); exact rfl; exact rfl; exact rfl)
 | ((with_reducible apply r_alloc); exact rfl)
 | (((with_reducible apply aw_cond); exact rfl) <;> intro hg <;> (first | (exact absurd hg (by decide)) | ((try simp only [decide_eq_true_eq, decide_eq_false_iff_not, Bool.not_eq_true', Bool.not_eq_false', Bool.not_true, Bool.not_false, Bool.not_not, Int.not_lt, Int.not_le, Nat.not_lt, Nat.not_le, gt_iff_lt, ge_iff_le, List.cons.injEq, and_true] at hg); first | (exact absurd trivial hg) | (exfalso; omega) | (have hT : True := hg; clear hT hg) | skip)))
 )
    exact ret1 (.cell_a inferInstance rfl rfl rfl rfl (cl_cons cl_c (cl_cons cl_c (cl_cons cl_c (cl_cons cl_c cl_nil)))))
theorem rcen_con (s : Sec) : Con Tryz.prog gl 123 [secC s] (.agg [I (cenX s), I (cenY s)]) := by
  have h1 := rbnd_con (gl := gl) s
  have hb := bd_bd s
  refine con_of Tryz.func123 rfl (by kernel_rfl) rfl ?_
  simp only [Tryz.ntmps123, Tryz.results123, argEnv, ofC, of1, List.map]
  repeat' (first
 | ((with_reducible apply r_call); exact rfl; exact rfl; exact h1; exact rfl; exact rfl)
 | ((with_reducible apply aw_seq))
 | ((with_reducible apply aw_region))
 | ((with_reducible apply thn_normal))
 | ((with_reducible apply aw_ret))
 | ((with_reducible apply ao_nil))
 | ((with_reducible apply r_field_p); exact rfl; exact rfl)
 | ((with_reducible apply r_load_p); exact rfl; exact rfl; exact rfl; exact rfl)
 | ((with_reducible apply r_load_pa); exact rfl; exact rfl; exact rfl; exact rfl; exact rfl)
 | ((with_reducible apply r_add); exact rfl; exact rfl; exact (by first | assumption | (unfold fits; omega)); exact rfl)
 | ((with_reducible apply r_box_a); exact rfl; exact rfl)
 | ((with_reducible apply r_store_pa); exact rfl; exact rfl; exact rfl; exact rfl; exact rfl; exact rfl)
 | ((with_reducible apply r_build); exact rfl; exact rfl; exact rfl)
 | ((with_reducible apply r_alloc); exact rfl)
 )
  exact ret1 (.cell_a inferInstance rfl rfl rfl rfl (cl_cons cl_c (cl_cons cl_c cl_nil)))
theorem last_con (l : List Slc) (h : 0 < l.length) : ((l.length : Int) - 1).toNat = l.length - 1 := by omega
theorem top_con (l : List Slc) (hn : l.length ≤ maxLen) : Con Tryz.prog gl 103 [LL l] (I (topS l)) := by
  have hc := scheck_con (gl := gl) l hn
  unfold topS
  by_cases h : solChk l = 0
  · rw [if_pos h]
    have hp := sol_pos h
    have hu := (sol_V h).n
    have hd := dia_con (gl := gl) (l[((l.length : Int) - 1).toNat]'(by omega)).sec
    have e : secD l (l.length - 1) = (l[((l.length : Int) - 1).toNat]'(by omega)).sec := by
      have := secD_eq (l := l) (i := ((l.length : Int) - 1).toNat) (by omega)
      rw [← this, last_con l hp]
    rw [e]
    refine con_of Tryz.func103 rfl (by kernel_rfl) rfl ?_
    simp only [Tryz.ntmps103, Tryz.results103, argEnv, ofC, of1, List.map]
    repeat' (first
 | ((with_reducible apply r_call); exact rfl; exact rfl; (first | exact hc | exact hd); exact rfl; exact rfl)
 | ((with_reducible apply (r_field_e2 (j := 1))); exact rfl; exact rfl)
 | ((with_reducible apply aw_seq))
 | ((with_reducible apply aw_region))
 | ((with_reducible apply thn_normal))
 | ((with_reducible apply aw_skip))
 | ((with_reducible apply aw_ret))
 | ((with_reducible apply ao_nil))
 | ((with_reducible apply r_move); exact rfl; exact rfl)
 | ((with_reducible apply r_assign); exact rfl; exact rfl)
 | ((with_reducible apply r_neq); exact rfl; exact rfl; exact rfl)
 | ((with_reducible apply r_sub); exact rfl; exact rfl; exact (by first | assumption | (unfold fits; omega)); exact rfl)
 | ((with_reducible apply r_len_f); exact rfl; exact inferInstance; exact rfl)
 | ((with_reducible apply r_index_f); exact rfl; exact inferInstance; exact rfl; exact (Int.toNat_of_nonneg (by omega)).symm; (first | assumption | omega); exact rfl)
 | ((with_reducible apply r_load_fa); exact rfl; exact inferInstance; exact List.getElem?_eq_getElem (by first | assumption | omega); exact rfl; exact rfl; exact rfl)
 | ((with_reducible apply r_field_e); exact rfl; exact rfl)
 | (((with_reducible apply aw_cond); exact rfl) <;> intro hg <;> (first | (exact absurd hg (by decide)) | ((try simp only [decide_eq_true_eq, decide_eq_false_iff_not, Bool.not_eq_true', Bool.not_eq_false', Bool.not_true, Bool.not_false, Bool.not_not, Int.not_lt, Int.not_le, Nat.not_lt, Nat.not_le, gt_iff_lt, ge_iff_le, List.cons.injEq, and_true] at hg); first | (exact absurd trivial hg) | (exfalso; omega) | (have hT : True := hg; clear hT hg) | skip)))
 )
    exact ret_i rfl rfl
  · rw [if_neg h]
    refine con_of Tryz.func103 rfl (by kernel_rfl) rfl ?_
    simp only [Tryz.ntmps103, Tryz.results103, argEnv, ofC, of1, List.map]
    repeat' (first
 | ((with_reducible apply r_call); exact rfl; exact rfl; exact hc; exact rfl; exact rfl)
 | ((with_reducible apply aw_seq))
 | ((with_reducible apply aw_region))
 | ((with_reducible apply thn_normal))
 | ((with_reducible apply thn_ret))
 | ((with_reducible apply aw_ret))
 | ((with_reducible apply ao_nil))
 | ((with_reducible apply r_move); exact rfl; exact rfl)
 | ((with_reducible apply r_assign); exact rfl; exact rfl)
 | ((with_reducible apply r_neq); exact rfl; exact rfl; exact rfl)
 | (((with_reducible apply aw_cond); exact rfl) <;> intro hg <;> (first | (exact absurd hg (by decide)) | ((try simp only [decide_eq_true_eq, decide_eq_false_iff_not, Bool.not_eq_true', Bool.not_eq_false', Bool.not_true, Bool.not_false, Bool.not_not, Int.not_lt, Int.not_le, Nat.not_lt, Nat.not_le, gt_iff_lt, ge_iff_le, List.cons.injEq, and_true] at hg); first | (exact absurd trivial hg) | (exfalso; omega) | (have hT : True := hg; clear hT hg) | skip)))
 )
    exact ret_i rfl rfl
theorem rtop_con (l : List Slc) (hn : l.length ≤ maxLen) : Con Tryz.prog gl 111 [LL l] (I (topS l)) := by
  have hc := rscheck_con (gl := gl) l hn
  unfold topS
  by_cases h : solChk l = 0
  · rw [if_pos h]
    have hp := sol_pos h
    have hu := (sol_V h).n
    have hd := rdia_con (gl := gl) (l[((l.length : Int) - 1).toNat]'(by omega)).sec
    have e : secD l (l.length - 1) = (l[((l.length : Int) - 1).toNat]'(by omega)).sec := by
      have := secD_eq (l := l) (i := ((l.length : Int) - 1).toNat) (by omega)
      rw [← this, last_con l hp]
    rw [e]
    refine con_of Tryz.func111 rfl (by kernel_rfl) rfl ?_
    simp only [Tryz.ntmps111, Tryz.results111, argEnv, ofC, of1, List.map]
    repeat' (first
 | ((with_reducible apply r_call); exact rfl; exact rfl; (first | exact hc | exact hd); exact rfl; exact rfl)
 | ((with_reducible apply (r_field_e2 (j := 1))); exact rfl; exact rfl)
 | ((with_reducible apply aw_seq))
 | ((with_reducible apply aw_region))
 | ((with_reducible apply thn_normal))
 | ((with_reducible apply aw_skip))
 | ((with_reducible apply aw_ret))
 | ((with_reducible apply ao_nil))
 | ((with_reducible apply r_move); exact rfl; exact rfl)
 | ((with_reducible apply r_assign); exact rfl; exact rfl)
 | ((with_reducible apply r_neq); exact rfl; exact rfl; exact rfl)
 | ((with_reducible apply r_sub); exact rfl; exact rfl; exact (by first | assumption | (unfold fits; omega)); exact rfl)
 | ((with_reducible apply r_len_f); exact rfl; exact inferInstance; exact rfl)
 | ((with_reducible apply r_index_f); exact rfl; exact inferInstance; exact rfl; exact (Int.toNat_of_nonneg (by omega)).symm; (first | assumption | omega); exact rfl)
 | ((with_reducible apply r_load_fa); exact rfl; exact inferInstance; exact List.getElem?_eq_getElem (by first | assumption | omega); exact rfl; exact rfl; exact rfl)
 | ((with_reducible apply r_field_e); exact rfl; exact rfl)
 | (((with_reducible apply aw_cond); exact rfl) <;> intro hg <;> (first | (exact absurd hg (by decide)) | ((try simp only [decide_eq_true_eq, decide_eq_false_iff_not, Bool.not_eq_true', Bool.not_eq_false', Bool.not_true, Bool.not_false, Bool.not_not, Int.not_lt, Int.not_le, Nat.not_lt, Nat.not_le, gt_iff_lt, ge_iff_le, List.cons.injEq, and_true] at hg); first | (exact absurd trivial hg) | (exfalso; omega) | (have hT : True := hg; clear hT hg) | skip)))
 )
    exact ret_i rfl rfl
  · rw [if_neg h]
    refine con_of Tryz.func111 rfl (by kernel_rfl) rfl ?_
    simp only [Tryz.ntmps111, Tryz.results111, argEnv, ofC, of1, List.map]
    repeat' (first
 | ((with_reducible apply r_call); exact rfl; exact rfl; exact hc; exact rfl; exact rfl)
 | ((with_reducible apply aw_seq))
 | ((with_reducible apply aw_region))
 | ((with_reducible apply thn_normal))
 | ((with_reducible apply thn_ret))
 | ((with_reducible apply aw_ret))
 | ((with_reducible apply ao_nil))
 | ((with_reducible apply r_move); exact rfl; exact rfl)
 | ((with_reducible apply r_assign); exact rfl; exact rfl)
 | ((with_reducible apply r_neq); exact rfl; exact rfl; exact rfl)
 | (((with_reducible apply aw_cond); exact rfl) <;> intro hg <;> (first | (exact absurd hg (by decide)) | ((try simp only [decide_eq_true_eq, decide_eq_false_iff_not, Bool.not_eq_true', Bool.not_eq_false', Bool.not_true, Bool.not_false, Bool.not_not, Int.not_lt, Int.not_le, Nat.not_lt, Nat.not_le, gt_iff_lt, ge_iff_le, List.cons.injEq, and_true] at hg); first | (exact absurd trivial hg) | (exfalso; omega) | (have hT : True := hg; clear hT hg) | skip)))
 )
    exact ret_i rfl rfl
theorem lengthS_ok {l : List Slc} (h : solChk l = 0) : lengthS l = pos l l.length := by unfold lengthS; rw [valL_ok h]
theorem len_pos {l : List Slc} (h : solChk l = 0) : 1 ≤ pos l l.length ∧ pos l l.length ≤ 20000 := by
  have v := sol_V h
  have hp := sol_pos h
  have h1 := pos_mono v (l.length - 1) 1 (by omega)
  rw [show 1 + (l.length - 1) = l.length by omega, pos_succ, lenD_eq hp] at h1
  have h2 := v.one 0 hp
  have h3 : pos l 0 = 0 := rfl
  have := v.all
  omega
theorem taper_con (l : List Slc) (hn : l.length ≤ maxLen) : Con Tryz.prog gl 105 [LL l] (I (taperS l)) := by
  have hc := scheck_con (gl := gl) l hn
  have ht := top_con (gl := gl) l hn
  have hl := slength_con (gl := gl) l hn
  by_cases h : solChk l = 0
  · have hp := sol_pos h
    have hd := dia_con (gl := gl) (l[0]'hp).sec
    rw [lengthS_ok h] at hl
    have hlb := len_pos h
    have e1 : topS l = diaS (secD l (l.length - 1)) := if_pos h
    rw [e1] at ht
    have e2 : taperS l = max (0 : Int) (diaS (l[0]'hp).sec - diaS (secD l (l.length - 1))) * 10000 / pos l l.length := by unfold taperS; rw [if_pos h, secD_eq hp]
    rw [e2]
    have b1 := dia_bd (l[0]'hp).sec
    have b2 := dia_bd (secD l (l.length - 1))
    generalize diaS (secD l (l.length - 1)) = dt at *
    generalize diaS (l[0]'hp).sec = d0 at *
    generalize pos l l.length = n at *
    have hq : (max 0 (d0 - dt) * 10000).tdiv n = max 0 (d0 - dt) * 10000 / n := Int.tdiv_eq_ediv_of_nonneg (by omega)
    have hf : fits ((max 0 (d0 - dt) * 10000).tdiv n) := by
      have := quo_bd (a := max 0 (d0 - dt) * 10000) (b := n) (by omega) (by omega)
      unfold fits; omega
    refine con_of Tryz.func105 rfl (by kernel_rfl) rfl ?_
    simp only [Tryz.ntmps105, Tryz.results105, argEnv, ofC, of1, List.map]
    repeat' (first
 | ((with_reducible apply (r_index_f (k := 0))); exact rfl; exact inferInstance; exact rfl; exact rfl; (omega); exact rfl)
 | ((with_reducible apply r_quo); exact rfl; exact rfl; exact (by omega); exact hf; exact rfl)
 | (rw [hq])
 | ((with_reducible apply r_call); exact rfl; exact rfl; (first | exact hc | exact hd | exact ht | exact hl); exact rfl; exact rfl)
 | ((with_reducible apply aw_seq))
 | ((with_reducible apply aw_region))
 | ((with_reducible apply thn_normal))
 | ((with_reducible apply aw_skip))
 | ((with_reducible apply aw_ret))
 | ((with_reducible apply ao_nil))
 | ((with_reducible apply r_move); exact rfl; exact rfl)
 | ((with_reducible apply r_assign); exact rfl; exact rfl)
 | ((with_reducible apply r_neq); exact rfl; exact rfl; exact rfl)
 | ((with_reducible apply r_sub); exact rfl; exact rfl; exact (by first | assumption | (unfold fits; omega)); exact rfl)
 | ((with_reducible apply r_mul); exact rfl; exact rfl; exact (by first | assumption | (unfold fits; omega)); exact rfl)
 | ((with_reducible apply r_max); exact rfl; exact rfl; exact rfl)
 | ((with_reducible apply r_load_fa); exact rfl; exact inferInstance; exact List.getElem?_eq_getElem (by first | assumption | omega); exact rfl; exact rfl; exact rfl)
 | ((with_reducible apply r_field_e); exact rfl; exact rfl)
 | (((with_reducible apply aw_cond); exact rfl) <;> intro hg <;> (first | (exact absurd hg (by decide)) | ((try simp only [decide_eq_true_eq, decide_eq_false_iff_not, Bool.not_eq_true', Bool.not_eq_false', Bool.not_true, Bool.not_false, Bool.not_not, Int.not_lt, Int.not_le, Nat.not_lt, Nat.not_le, gt_iff_lt, ge_iff_le, List.cons.injEq, and_true] at hg); first | (exact absurd trivial hg) | (exfalso; omega) | (have hT : True := hg; clear hT hg) | skip)))
 )
    exact ret_i rfl rfl
  · have e : taperS l = 0 := if_neg h
    rw [e]
    refine con_of Tryz.func105 rfl (by kernel_rfl) rfl ?_
    simp only [Tryz.ntmps105, Tryz.results105, argEnv, ofC, of1, List.map]
    repeat' (first
 | ((with_reducible apply r_call); exact rfl; exact rfl; exact hc; exact rfl; exact rfl)
 | ((with_reducible apply aw_seq))
 | ((with_reducible apply aw_region))
 | ((with_reducible apply thn_normal))
 | ((with_reducible apply thn_ret))
 | ((with_reducible apply aw_ret))
 | ((with_reducible apply ao_nil))
 | ((with_reducible apply r_move); exact rfl; exact rfl)
 | ((with_reducible apply r_assign); exact rfl; exact rfl)
 | ((with_reducible apply r_neq); exact rfl; exact rfl; exact rfl)
 | (((with_reducible apply aw_cond); exact rfl) <;> intro hg <;> (first | (exact absurd hg (by decide)) | ((try simp only [decide_eq_true_eq, decide_eq_false_iff_not, Bool.not_eq_true', Bool.not_eq_false', Bool.not_true, Bool.not_false, Bool.not_not, Int.not_lt, Int.not_le, Nat.not_lt, Nat.not_le, gt_iff_lt, ge_iff_le, List.cons.injEq, and_true] at hg); first | (exact absurd trivial hg) | (exfalso; omega) | (have hT : True := hg; clear hT hg) | skip)))
 )
    exact ret_i rfl rfl
theorem rtaper_con (l : List Slc) (hn : l.length ≤ maxLen) : Con Tryz.prog gl 113 [LL l] (I (taperS l)) := by
  have hc := rscheck_con (gl := gl) l hn
  have ht := rtop_con (gl := gl) l hn
  have hl := rslength_con (gl := gl) l hn
  by_cases h : solChk l = 0
  · have hp := sol_pos h
    have hd := rdia_con (gl := gl) (l[0]'hp).sec
    rw [lengthS_ok h] at hl
    have hlb := len_pos h
    have e1 : topS l = diaS (secD l (l.length - 1)) := if_pos h
    rw [e1] at ht
    have e2 : taperS l = max (0 : Int) (diaS (l[0]'hp).sec - diaS (secD l (l.length - 1))) * 10000 / pos l l.length := by unfold taperS; rw [if_pos h, secD_eq hp]
    rw [e2]
    have b1 := dia_bd (l[0]'hp).sec
    have b2 := dia_bd (secD l (l.length - 1))
    generalize diaS (secD l (l.length - 1)) = dt at *
    generalize diaS (l[0]'hp).sec = d0 at *
    generalize pos l l.length = n at *
    have hr := rfloor_con (gl := gl) ((d0 - dt) * 10000) n (by omega) (by omega)
    have hq : max 0 ((d0 - dt) * 10000 / n) = max 0 (d0 - dt) * 10000 / n := by
      by_cases hh : 0 ≤ d0 - dt
      · have h0 : 0 ≤ (d0 - dt) * 10000 / n := Int.ediv_nonneg (by omega) (by omega)
        rw [show max 0 (d0 - dt) = d0 - dt by omega]; omega
      · have h0 : (d0 - dt) * 10000 / n < 0 := Int.ediv_neg_of_neg_of_pos (by omega) (by omega)
        rw [show max 0 (d0 - dt) = 0 by omega, Int.zero_mul, Int.zero_ediv]; omega
    refine con_of Tryz.func113 rfl (by kernel_rfl) rfl ?_
    simp only [Tryz.ntmps113, Tryz.results113, argEnv, ofC, of1, List.map]
    repeat' (first
 | ((with_reducible apply (r_index_f (k := 0))); exact rfl; exact inferInstance; exact rfl; exact rfl; (omega); exact rfl)
 | ((with_reducible apply r_call); exact rfl; exact rfl; (first | exact hc | exact hd | exact ht | exact hl | exact hr); exact rfl; exact rfl)
 | ((with_reducible apply aw_seq))
 | ((with_reducible apply aw_region))
 | ((with_reducible apply thn_normal))
 | ((with_reducible apply aw_skip))
 | ((with_reducible apply aw_ret))
 | ((with_reducible apply ao_nil))
 | ((with_reducible apply r_move); exact rfl; exact rfl)
 | ((with_reducible apply r_assign); exact rfl; exact rfl)
 | ((with_reducible apply r_neq); exact rfl; exact rfl; exact rfl)
 | ((with_reducible apply r_sub); exact rfl; exact rfl; exact (by first | assumption | (unfold fits; omega)); exact rfl)
 | ((with_reducible apply r_mul); exact rfl; exact rfl; exact (by first | assumption | (unfold fits; omega)); exact rfl)
 | ((with_reducible apply r_max); exact rfl; exact rfl; exact rfl)
 | ((with_reducible apply r_load_fa); exact rfl; exact inferInstance; exact List.getElem?_eq_getElem (by first | assumption | omega); exact rfl; exact rfl; exact rfl)
 | ((with_reducible apply r_field_e); exact rfl; exact rfl)
 | (((with_reducible apply aw_cond); exact rfl) <;> intro hg <;> (first | (exact absurd hg (by decide)) | ((try simp only [decide_eq_true_eq, decide_eq_false_iff_not, Bool.not_eq_true', Bool.not_eq_false', Bool.not_true, Bool.not_false, Bool.not_not, Int.not_lt, Int.not_le, Nat.not_lt, Nat.not_le, gt_iff_lt, ge_iff_le, List.cons.injEq, and_true] at hg); first | (exact absurd trivial hg) | (exfalso; omega) | (have hT : True := hg; clear hT hg) | skip)))
 )
    exact ret_i rfl hq
  · have e : taperS l = 0 := if_neg h
    rw [e]
    refine con_of Tryz.func113 rfl (by kernel_rfl) rfl ?_
    simp only [Tryz.ntmps113, Tryz.results113, argEnv, ofC, of1, List.map]
    repeat' (first
 | ((with_reducible apply r_call); exact rfl; exact rfl; exact hc; exact rfl; exact rfl)
 | ((with_reducible apply aw_seq))
 | ((with_reducible apply aw_region))
 | ((with_reducible apply thn_normal))
 | ((with_reducible apply thn_ret))
 | ((with_reducible apply aw_ret))
 | ((with_reducible apply ao_nil))
 | ((with_reducible apply r_move); exact rfl; exact rfl)
 | ((with_reducible apply r_assign); exact rfl; exact rfl)
 | ((with_reducible apply r_neq); exact rfl; exact rfl; exact rfl)
 | (((with_reducible apply aw_cond); exact rfl) <;> intro hg <;> (first | (exact absurd hg (by decide)) | ((try simp only [decide_eq_true_eq, decide_eq_false_iff_not, Bool.not_eq_true', Bool.not_eq_false', Bool.not_true, Bool.not_false, Bool.not_not, Int.not_lt, Int.not_le, Nat.not_lt, Nat.not_le, gt_iff_lt, ge_iff_le, List.cons.injEq, and_true] at hg); first | (exact absurd trivial hg) | (exfalso; omega) | (have hT : True := hg; clear hT hg) | skip)))
 )
    exact ret_i rfl rfl
end Go.Proofs.YtkhljpbkebnnmaaGreatDoor.Ge
/- Walks of measures: middles, along, Sweep in both. -/
namespace Go.Proofs.YtkhljpbkebnnmaaGreatDoor.Ge
set_option linter.unusedVariables false
set_option linter.unusedSimpArgs false
open Go.RowKit Go.Proofs.YtkhljpbkebnnmaaGreatDoor.Ev
variable {gl : List (Nat × List CV)}
def midL (l : List Slc) : List Int := (List.range l.length).map (midS l)
theorem midL_len (l : List Slc) : (midL l).length = l.length := by simp [midL]
theorem midL_get (l : List Slc) (i : Nat) (h : i < (midL l).length) : (midL l)[i] = midS l i := by simp [midL]
theorem middles_con (l : List Slc) (v : SolV l) : Con Tryz.prog gl 117 [LL l] (LI (midL l)) := by
  have hn := v.n
  refine con_of Tryz.func117 rfl (by kernel_rfl) rfl ?_
  simp only [Tryz.ntmps117, Tryz.results117, argEnv, ofC, of1, List.map]
  repeat' (first
 | ((with_reducible apply r_make (enc := inC) 0 l.length); exact inferInstance; exact rfl; exact rfl; exact rfl; exact rfl; exact rfl; omega; omega; exact rfl)
 | ((with_reducible apply aw_seq))
 | ((with_reducible apply aw_region))
 | ((with_reducible apply aw_block))
 | ((with_reducible apply thn_normal))
 | ((with_reducible apply ao_nil))
 | ((with_reducible apply r_move); exact rfl; exact rfl)
 | ((with_reducible apply r_assign); exact rfl; exact rfl)
 | ((with_reducible apply r_len_f); exact rfl; exact inferInstance; exact rfl)
 )
  refine aw_loopG (G := Nat × Int × List Int) (fun ((j, t, s) : Nat × Int × List Int) => j ≤ l.length ∧ t = pos l j ∧ s.length = l.length ∧ ∀ i (h : i < s.length), i < j → s[i] = midS l i) (fun ((j, t, s) : Nat × Int × List Int) => l.length - j) (fun ((j, t, s) : Nat × Int × List Int) => [(0, .c (LL l)), (3, .vec 0 l.length), (4, A t), (10, A l.length), (11, A j)]) (fun ((j, t, s) : Nat × Int × List Int) => [(0, some (.vec 3 1 (s.flatMap inC)))]) 1 (0, 0, List.replicate l.length 0) ?_ (by refine weak_mk rfl ?_ ?_ <;> repeat (first | exact envW_nil | exact heapW_nil | refine envW_cons rfl rfl ?_ | refine heapW_cons rfl rfl rfl ?_)) rfl ?_
  · exact ⟨Nat.zero_le _, rfl, by simp, fun _ _ h => absurd h (Nat.not_lt_zero _)⟩
  rintro ⟨j, t, s⟩ hI
  try dsimp only at hI
  try dsimp only
  obtain ⟨hj, ht, hs, hall⟩ := hI
  have hb := pos_bd v hj
  by_cases hjl : j < l.length
  · have hb2 := pos_bd v (j := j + 1) (by omega)
    rw [pos_succ, lenD_eq hjl] at hb2
    have hlb := len_bd v hjl
    repeat' (first
 | ((with_reducible apply (r_store_v (enc := inC) (k := j) (l := s) (2 * t + l[j].len))); exact rfl; exact rfl; exact inferInstance; exact hs; exact (by omega); exact rfl; exact rfl; exact rfl; exact rfl)
 | ((with_reducible apply aw_seq))
 | ((with_reducible apply aw_region))
 | ((with_reducible apply aw_block))
 | ((with_reducible apply thn_normal))
 | ((with_reducible apply inb_normal))
 | ((with_reducible apply aw_skip))
 | ((with_reducible apply ao_nil))
 | ((with_reducible apply r_move); exact rfl; exact rfl)
 | ((with_reducible apply r_assign); exact rfl; exact rfl)
 | ((with_reducible apply r_lss); exact rfl; exact rfl; exact rfl)
 | ((with_reducible apply r_add); exact rfl; exact rfl; exact (by first | assumption | (unfold fits; omega)); exact rfl)
 | ((with_reducible apply r_mul); exact rfl; exact rfl; exact (by first | assumption | (unfold fits; omega)); exact rfl)
 | ((with_reducible apply r_index_f); exact rfl; exact inferInstance; exact rfl; exact rfl; (first | assumption | omega); exact rfl)
 | ((with_reducible apply r_load_f0); exact rfl; exact inferInstance; exact List.getElem?_eq_getElem (by first | assumption | omega); exact rfl; exact rfl)
 | ((with_reducible apply r_index_vf); exact rfl; exact rfl; exact inferInstance; (first | exact rfl | assumption | omega); exact rfl; exact rfl; (first | assumption | omega); exact rfl)
 | ((with_reducible apply r_field_e); exact rfl; exact rfl)
 | (((with_reducible apply aw_cond); exact rfl) <;> intro hg <;> (first | (exact absurd hg (by decide)) | ((try simp only [decide_eq_true_eq, decide_eq_false_iff_not, Bool.not_eq_true', Bool.not_eq_false', Bool.not_true, Bool.not_false, Bool.not_not, Int.not_lt, Int.not_le, Nat.not_lt, Nat.not_le, gt_iff_lt, ge_iff_le, List.cons.injEq, and_true] at hg); first | (exact absurd trivial hg) | (exfalso; omega) | (have hT : True := hg; clear hT hg) | skip)))
 )
    refine ⟨(j + 1, t + l[j].len, s.set j (2 * t + l[j].len)), ?_, ?_, by refine weak_mk rfl ?_ ?_ <;> repeat (first | exact envW_nil | exact heapW_nil | refine envW_cons rfl rfl ?_ | refine heapW_cons rfl rfl rfl ?_)⟩
    · show _ - (j + 1) < _ - j; omega
    · refine ⟨by show j + 1 ≤ _; omega, by show t + l[j].len = _; rw [pos_succ, lenD_eq hjl, ht], by simp [hs], fun i hi hij => ?_⟩
      by_cases he : i = j
      · subst he; rw [List.getElem_set_self, ht]; unfold midS; rw [lenD_eq hjl]
      · have hij' : i < j + 1 := hij
        rw [List.getElem_set_ne (by omega)]; exact hall i (by simpa using hi) (by omega)
  · obtain rfl : j = l.length := by omega
    have e : s = midL l := List.ext_getElem (by rw [hs, midL_len]) (fun i h1 h2 => by rw [hall i h1 (by omega), midL_get])
    repeat' (first
 | ((with_reducible apply aw_seq))
 | ((with_reducible apply aw_region))
 | ((with_reducible apply thn_normal))
 | ((with_reducible apply thn_exit))
 | ((with_reducible apply inb_exit))
 | ((with_reducible apply aw_exit))
 | ((with_reducible apply aw_ret))
 | ((with_reducible apply ao_nil))
 | ((with_reducible apply r_move); exact rfl; exact rfl)
 | ((with_reducible apply r_assign); exact rfl; exact rfl)
 | ((with_reducible apply r_lss); exact rfl; exact rfl; exact rfl)
 | (((with_reducible apply aw_cond); exact rfl) <;> intro hg <;> (first | (exact absurd hg (by decide)) | ((try simp only [decide_eq_true_eq, decide_eq_false_iff_not, Bool.not_eq_true', Bool.not_eq_false', Bool.not_true, Bool.not_false, Bool.not_not, Int.not_lt, Int.not_le, Nat.not_lt, Nat.not_le, gt_iff_lt, ge_iff_le, List.cons.injEq, and_true] at hg); first | (exact absurd trivial hg) | (exfalso; omega) | (have hT : True := hg; clear hT hg) | skip)))
 )
    rw [← e]
    exact ret1 (.tmp rfl (cl_vec rfl (by rw [flat_len EncL.len, hs])))
theorem midL_take (l : List Slc) (j : Nat) (h : j < l.length) : (midL l).take (j + 1) = (midL l).take j ++ [midS l j] := by
  rw [List.take_succ_eq_append_getElem (by rw [midL_len]; exact h), midL_get]
theorem rmiddles_con (l : List Slc) (v : SolV l) : Con Tryz.prog gl 122 [LL l] (LI (midL l)) := by
  have hn := v.n
  refine con_of Tryz.func122 rfl (by kernel_rfl) rfl ?_
  simp only [Tryz.ntmps122, Tryz.results122, argEnv, ofC, of1, List.map]
  repeat' (first
 | ((with_reducible apply aw_seq))
 | ((with_reducible apply aw_region))
 | ((with_reducible apply aw_block))
 | ((with_reducible apply thn_normal))
 | ((with_reducible apply ao_nil))
 | ((with_reducible apply r_assign); exact rfl; exact rfl)
 )
  refine aw_nilvec 3 3 1 rfl rfl ?_
  refine aw_loopG (G := Nat × Int) (fun ((j, t) : Nat × Int) => j ≤ l.length ∧ t = pos l j) (fun ((j, t) : Nat × Int) => l.length - j) (fun ((j, t) : Nat × Int) => [(0, .c (LL l)), (3, .vec 0 j), (4, A t), (5, A j)]) (fun ((j, t) : Nat × Int) => [(0, some (.vec 3 1 (((midL l).take j).flatMap inC)))]) 1 (0, 0) ?_ (by refine weak_mk rfl ?_ ?_ <;> repeat (first | exact envW_nil | exact heapW_nil | refine envW_cons rfl rfl ?_ | refine heapW_cons rfl rfl rfl ?_)) rfl ?_
  · exact ⟨Nat.zero_le _, rfl⟩
  rintro ⟨j, t⟩ hI
  try dsimp only at hI
  try dsimp only
  obtain ⟨hj, ht⟩ := hI
  have hb := pos_bd v hj
  have hml := midL_len l
  have htl : ((midL l).take j).length = j := by rw [List.length_take]; omega
  by_cases hjl : j < l.length
  · have hb2 := pos_bd v (j := j + 1) (by omega)
    rw [pos_succ, lenD_eq hjl] at hb2
    have hlb := len_bd v hjl
    have hst := midL_take l j hjl
    have hms : midS l j = 2 * t + l[j].len := by unfold midS; rw [lenD_eq hjl, ht]
    rw [hms] at hst
    repeat' (first
 | ((with_reducible apply (r_push (enc := inC) (l := (midL l).take j) (x0 := 2 * t + l[j].len))); exact rfl; exact rfl; exact inferInstance; exact htl; exact rfl; exact rfl; exact rfl; exact (by omega); exact (by omega); exact rfl)
 | ((with_reducible apply aw_seq))
 | ((with_reducible apply aw_region))
 | ((with_reducible apply aw_block))
 | ((with_reducible apply thn_normal))
 | ((with_reducible apply inb_normal))
 | ((with_reducible apply aw_skip))
 | ((with_reducible apply ao_nil))
 | ((with_reducible apply r_move); exact rfl; exact rfl)
 | ((with_reducible apply r_assign); exact rfl; exact rfl)
 | ((with_reducible apply r_lss); exact rfl; exact rfl; exact rfl)
 | ((with_reducible apply r_add); exact rfl; exact rfl; exact (by first | assumption | (unfold fits; omega)); exact rfl)
 | ((with_reducible apply r_mul); exact rfl; exact rfl; exact (by first | assumption | (unfold fits; omega)); exact rfl)
 | ((with_reducible apply r_len_f); exact rfl; exact inferInstance; exact rfl)
 | ((with_reducible apply r_index_f); exact rfl; exact inferInstance; exact rfl; exact rfl; (first | assumption | omega); exact rfl)
 | ((with_reducible apply r_load_f0); exact rfl; exact inferInstance; exact List.getElem?_eq_getElem (by first | assumption | omega); exact rfl; exact rfl)
 | ((with_reducible apply r_field_e); exact rfl; exact rfl)
 | (((with_reducible apply aw_cond); exact rfl) <;> intro hg <;> (first | (exact absurd hg (by decide)) | ((try simp only [decide_eq_true_eq, decide_eq_false_iff_not, Bool.not_eq_true', Bool.not_eq_false', Bool.not_true, Bool.not_false, Bool.not_not, Int.not_lt, Int.not_le, Nat.not_lt, Nat.not_le, gt_iff_lt, ge_iff_le, List.cons.injEq, and_true] at hg); first | (exact absurd trivial hg) | (exfalso; omega) | (have hT : True := hg; clear hT hg) | skip)))
 | ((with_reducible apply r_lit); exact rfl; exact rfl; exact rfl; exact rfl; exact rfl; exact rfl; exact rfl)
 )
    rw [← hst]
    refine ⟨(j + 1, t + l[j].len), ?_, ?_, by refine weak_mk rfl ?_ ?_ <;> repeat (first | exact envW_nil | exact heapW_nil | refine envW_cons rfl rfl ?_ | refine heapW_cons rfl rfl rfl ?_)⟩
    · show _ - (j + 1) < _ - j; omega
    · exact ⟨by show j + 1 ≤ _; omega, by show t + l[j].len = _; rw [pos_succ, lenD_eq hjl, ht]⟩
  · obtain rfl : j = l.length := by omega
    have e : (midL l).take l.length = midL l := by rw [← hml, List.take_length]
    rw [e]
    repeat' (first
 | ((with_reducible apply aw_seq))
 | ((with_reducible apply aw_region))
 | ((with_reducible apply thn_normal))
 | ((with_reducible apply thn_exit))
 | ((with_reducible apply inb_exit))
 | ((with_reducible apply aw_exit))
 | ((with_reducible apply aw_ret))
 | ((with_reducible apply ao_nil))
 | ((with_reducible apply r_move); exact rfl; exact rfl)
 | ((with_reducible apply r_assign); exact rfl; exact rfl)
 | ((with_reducible apply r_lss); exact rfl; exact rfl; exact rfl)
 | ((with_reducible apply r_len_f); exact rfl; exact inferInstance; exact rfl)
 | (((with_reducible apply aw_cond); exact rfl) <;> intro hg <;> (first | (exact absurd hg (by decide)) | ((try simp only [decide_eq_true_eq, decide_eq_false_iff_not, Bool.not_eq_true', Bool.not_eq_false', Bool.not_true, Bool.not_false, Bool.not_not, Int.not_lt, Int.not_le, Nat.not_lt, Nat.not_le, gt_iff_lt, ge_iff_le, List.cons.injEq, and_true] at hg); first | (exact absurd trivial hg) | (exfalso; omega) | (have hT : True := hg; clear hT hg) | skip)))
 )
    exact ret1 (.tmp rfl (cl_vec rfl (by rw [flat_len EncL.len, hml])))
theorem along_con (a b s t m : Int) (h : s < t) (h1 : s ≤ m ∧ m ≤ t) (ha : -1200 ≤ a ∧ a ≤ 1200) (hb : -1200 ≤ b ∧ b ≤ 1200) (hs : 0 ≤ s ∧ t ≤ 40000) : Con Tryz.prog gl 119 [I a, I b, I s, I t, I m] (I (alongS a b s t m)) := by
  have px := prod_bd (x := b - a) (y := m - s) (by omega) (by omega)
  have f1 : fits ((b - a) * (m - s)) := by unfold fits; omega
  have hf := floor_con (gl := gl) ((b - a) * (m - s)) (t - s) (by omega) (by omega)
  have hab := along_bd h h1.1 h1.2 ha hb
  have f2 : fits (a + (b - a) * (m - s) / (t - s)) := by unfold alongS at hab; unfold fits; omega
  refine con_of Tryz.func119 rfl (by kernel_rfl) rfl ?_
  simp only [Tryz.ntmps119, Tryz.results119, argEnv, ofC, of1, List.map]
  repeat' (first
 | ((with_reducible apply r_call); exact rfl; exact rfl; exact hf; exact rfl; exact rfl)
 | ((with_reducible apply aw_seq))
 | ((with_reducible apply aw_region))
 | ((with_reducible apply thn_normal))
 | ((with_reducible apply aw_ret))
 | ((with_reducible apply ao_nil))
 | ((with_reducible apply r_move); exact rfl; exact rfl)
 | ((with_reducible apply r_assign); exact rfl; exact rfl)
 | ((with_reducible apply r_add); exact rfl; exact rfl; exact (by first | assumption | (unfold fits; omega)); exact rfl)
 | ((with_reducible apply r_sub); exact rfl; exact rfl; exact (by first | assumption | (unfold fits; omega)); exact rfl)
 | ((with_reducible apply r_mul); exact rfl; exact rfl; exact (by first | assumption | (unfold fits; omega)); exact rfl)
 | ((with_reducible apply r_extract); exact rfl; exact rfl; exact rfl)
 )
  exact ret_i rfl rfl
theorem dist_con (a b : Int) (ha : -1200 ≤ a ∧ a ≤ 1200) (hb : -1200 ≤ b ∧ b ≤ 1200) : Con Tryz.prog gl 120 [I a, I b] (I (distS a b)) := by
  refine con_of Tryz.func120 rfl (by kernel_rfl) rfl ?_
  simp only [Tryz.ntmps120, Tryz.results120, argEnv, ofC, of1, List.map]
  repeat' (first
 | ((with_reducible apply aw_seq))
 | ((with_reducible apply aw_region))
 | ((with_reducible apply thn_normal))
 | ((with_reducible apply aw_ret))
 | ((with_reducible apply ao_nil))
 | ((with_reducible apply r_move); exact rfl; exact rfl)
 | ((with_reducible apply r_assign); exact rfl; exact rfl)
 | ((with_reducible apply r_sub); exact rfl; exact rfl; exact (by first | assumption | (unfold fits; omega)); exact rfl)
 | ((with_reducible apply r_max); exact rfl; exact rfl; exact rfl)
 )
  exact ret_i rfl rfl
theorem away_con (a b : Int) (ha : -1200 ≤ a ∧ a ≤ 1200) (hb : -1200 ≤ b ∧ b ≤ 1200) : Con Tryz.prog gl 125 [I a, I b] (I (distS a b)) := by
  refine con_of Tryz.func125 rfl (by kernel_rfl) rfl ?_
  simp only [Tryz.ntmps125, Tryz.results125, argEnv, ofC, of1, List.map]
  repeat' (first
 | ((with_reducible apply aw_seq))
 | ((with_reducible apply aw_region))
 | ((with_reducible apply thn_normal))
 | ((with_reducible apply aw_ret))
 | ((with_reducible apply ao_nil))
 | ((with_reducible apply r_move); exact rfl; exact rfl)
 | ((with_reducible apply r_assign); exact rfl; exact rfl)
 | ((with_reducible apply r_sub); exact rfl; exact rfl; exact (by first | assumption | (unfold fits; omega)); exact rfl)
 | ((with_reducible apply r_max); exact rfl; exact rfl; exact rfl)
 )
  exact ret_i rfl rfl
theorem sweep_con (l : List Slc) (hn : l.length ≤ maxLen) : Con Tryz.prog gl 104 [LL l] (I (sweepS l)) := by
  have hc := scheck_con (gl := gl) l hn
  by_cases h : solChk l = 0 ∧ 3 ≤ l.length
  rotate_left
  · have e : sweepS l = 0 := if_neg h
    rw [e]
    refine con_of Tryz.func104 rfl (by kernel_rfl) rfl ?_
    simp only [Tryz.ntmps104, Tryz.results104, argEnv, ofC, of1, List.map]
    by_cases h0 : solChk l = 0
    · have h3 : l.length < 3 := by
        by_cases hh : l.length < 3
        · exact hh
        · exact absurd ⟨h0, by omega⟩ h
      repeat' (first
 | ((with_reducible apply r_call); exact rfl; exact rfl; (first | exact hc); exact rfl; exact rfl)
 | ((with_reducible apply aw_seq))
 | ((with_reducible apply aw_region))
 | ((with_reducible apply thn_normal))
 | ((with_reducible apply thn_ret))
 | ((with_reducible apply aw_ret))
 | ((with_reducible apply ao_nil))
 | ((with_reducible apply r_move); exact rfl; exact rfl)
 | ((with_reducible apply r_assign); exact rfl; exact rfl)
 | ((with_reducible apply r_lss); exact rfl; exact rfl; exact rfl)
 | ((with_reducible apply r_neq); exact rfl; exact rfl; exact rfl)
 | ((with_reducible apply r_pick_f); exact rfl; exact rfl; exact rfl)
 | ((with_reducible apply r_len_f); exact rfl; exact inferInstance; exact rfl)
 | (((with_reducible apply r_guard); exact rfl; exact rfl; exact rfl; exact rfl) <;> intro hg <;> (first | (exact absurd hg (by decide)) | ((try simp only [decide_eq_true_eq, decide_eq_false_iff_not, Bool.not_eq_true', Bool.not_eq_false', Bool.not_true, Bool.not_false, Bool.not_not, Int.not_lt, Int.not_le, Nat.not_lt, Nat.not_le, gt_iff_lt, ge_iff_le, List.cons.injEq, and_true] at hg); first | (exact absurd trivial hg) | (exfalso; omega) | (have hT : True := hg; clear hT hg) | skip)))
 | (((with_reducible apply aw_cond); exact rfl) <;> intro hg <;> (first | (exact absurd hg (by decide)) | ((try simp only [decide_eq_true_eq, decide_eq_false_iff_not, Bool.not_eq_true', Bool.not_eq_false', Bool.not_true, Bool.not_false, Bool.not_not, Int.not_lt, Int.not_le, Nat.not_lt, Nat.not_le, gt_iff_lt, ge_iff_le, List.cons.injEq, and_true] at hg); first | (exact absurd trivial hg) | (exfalso; omega) | (have hT : True := hg; clear hT hg) | skip)))
 )
      exact ret_i rfl rfl
    · skip
      repeat' (first
 | ((with_reducible apply r_call); exact rfl; exact rfl; (first | exact hc); exact rfl; exact rfl)
 | ((with_reducible apply aw_seq))
 | ((with_reducible apply aw_region))
 | ((with_reducible apply thn_normal))
 | ((with_reducible apply thn_ret))
 | ((with_reducible apply aw_ret))
 | ((with_reducible apply ao_nil))
 | ((with_reducible apply r_move); exact rfl; exact rfl)
 | ((with_reducible apply r_assign); exact rfl; exact rfl)
 | ((with_reducible apply r_neq); exact rfl; exact rfl; exact rfl)
 | ((with_reducible apply r_pick_t); exact rfl; exact rfl; exact rfl)
 | (((with_reducible apply r_guard); exact rfl; exact rfl; exact rfl; exact rfl) <;> intro hg <;> (first | (exact absurd hg (by decide)) | ((try simp only [decide_eq_true_eq, decide_eq_false_iff_not, Bool.not_eq_true', Bool.not_eq_false', Bool.not_true, Bool.not_false, Bool.not_not, Int.not_lt, Int.not_le, Nat.not_lt, Nat.not_le, gt_iff_lt, ge_iff_le, List.cons.injEq, and_true] at hg); first | (exact absurd trivial hg) | (exfalso; omega) | (have hT : True := hg; clear hT hg) | skip)))
 | (((with_reducible apply aw_cond); exact rfl) <;> intro hg <;> (first | (exact absurd hg (by decide)) | ((try simp only [decide_eq_true_eq, decide_eq_false_iff_not, Bool.not_eq_true', Bool.not_eq_false', Bool.not_true, Bool.not_false, Bool.not_not, Int.not_lt, Int.not_le, Nat.not_lt, Nat.not_le, gt_iff_lt, ge_iff_le, List.cons.injEq, and_true] at hg); first | (exact absurd trivial hg) | (exfalso; omega) | (have hT : True := hg; clear hT hg) | skip)))
 )
      exact ret_i rfl rfl
  obtain ⟨h0, h3⟩ := h
  have e : sweepS l = swN l l.length := if_pos ⟨h0, h3⟩
  rw [e]
  have v := sol_V h0
  have hu := v.n
  have hmi := middles_con (gl := gl) l v
  have hml := midL_len l
  have hq : ((l.length : Int) - 1).toNat = l.length - 1 := by omega
  have hla : secD l (l.length - 1) = (l[((l.length : Int) - 1).toNat]'(by omega)).sec := by rw [← secD_eq (by omega), hq]
  have hfi : secD l 0 = (l[0]'(by omega)).sec := secD_eq (by omega)
  have c0 : Con Tryz.prog gl 118 [secC (l[0]'(by omega)).sec] (.agg [I (cenX (secD l 0)), I (cenY (secD l 0))]) := by rw [hfi]; exact cen_con _
  have c1 : Con Tryz.prog gl 118 [secC (l[((l.length : Int) - 1).toNat]'(by omega)).sec] (.agg [I (cenX (secD l (l.length - 1))), I (cenY (secD l (l.length - 1)))]) := by rw [hla]; exact cen_con _
  have b0 := cen_bd (l[0]'(by omega)).sec
  have b1 := cen_bd (l[((l.length : Int) - 1).toNat]'(by omega)).sec
  have m0 : (midL l)[0]'(by omega) = midS l 0 := midL_get l 0 (by omega)
  have m1 : (midL l)[((l.length : Int) - 1).toNat]'(by omega) = midS l (l.length - 1) := by rw [midL_get, hq]
  have mb0 := mid_bd v (i := 0) (by omega)
  have mb1 := mid_bd v (i := l.length - 1) (by omega)
  have mlt := mid_lt v (i := 0) (j := l.length - 1) (by omega) (by omega)
  rw [← hfi] at b0
  rw [← hla] at b1
  refine con_of Tryz.func104 rfl (by kernel_rfl) rfl ?_
  simp only [Tryz.ntmps104, Tryz.results104, argEnv, ofC, of1, List.map]
  repeat' (first
 | (refine aw_drawS [0, 1] [0, 1, 2, 3, 4, 5, 6, 7, 8, 9, 10] 4 ?_ rfl ?_; (decide +kernel); (simp only [pk, List.drop_succ_cons, List.drop_zero, List.map_cons, List.map_nil, List.cons_append, List.nil_append]))
 | ((with_reducible apply ds_nilS))
 | ((with_reducible apply d3_nil); (decide +kernel))
 | (first | (refine d3_step [11] (by decide +kernel) rfl ?_) | (refine d3_step [12] (by decide +kernel) rfl ?_) | (refine d3_step [13] (by decide +kernel) rfl ?_) | (refine d3_step [14] (by decide +kernel) rfl ?_) | (refine d3_step [11, 12] (by decide +kernel) rfl ?_) | (refine d3_step [11, 13] (by decide +kernel) rfl ?_) | (refine d3_step [11, 14] (by decide +kernel) rfl ?_) | (refine d3_step [12, 13] (by decide +kernel) rfl ?_) | (refine d3_step [12, 14] (by decide +kernel) rfl ?_) | (refine d3_step [13, 14] (by decide +kernel) rfl ?_) | (refine d3_step [11, 12, 13] (by decide +kernel) rfl ?_) | (refine d3_step [11, 12, 14] (by decide +kernel) rfl ?_) | (refine d3_step [11, 13, 14] (by decide +kernel) rfl ?_) | (refine d3_step [12, 13, 14] (by decide +kernel) rfl ?_))
 | ((with_reducible refine List.forall_mem_cons.2 ⟨?_, ?_⟩))
 | ((with_reducible exact d3_none))
 | ((with_reducible apply d3_a); exact rfl; exact inferInstance; exact rfl)
 | ((with_reducible apply d3_pa); exact rfl; exact inferInstance; exact rfl; exact rfl; exact rfl; exact rfl; exact rfl; exact rfl; exact rfl; exact rfl)
 | ((with_reducible apply d3_p); exact rfl; exact inferInstance; exact rfl; exact rfl; exact rfl; exact rfl; exact rfl; exact rfl; exact rfl; exact rfl)
 | ((with_reducible apply (r_index_f (k := 0))); exact rfl; exact inferInstance; exact rfl; exact rfl; exact (by omega); exact rfl)
 | ((with_reducible apply r_call); exact rfl; exact rfl; (first | exact hc | exact hmi | exact c0 | exact c1); exact rfl; exact rfl)
 | ((with_reducible apply aw_seq))
 | ((with_reducible apply aw_region))
 | ((with_reducible apply aw_block))
 | ((with_reducible apply thn_normal))
 | ((with_reducible apply aw_skip))
 | ((with_reducible apply ao_nil))
 | ((with_reducible apply r_move); exact rfl; exact rfl)
 | ((with_reducible apply r_assign); exact rfl; exact rfl)
 | ((with_reducible apply r_lss); exact rfl; exact rfl; exact rfl)
 | ((with_reducible apply r_neq); exact rfl; exact rfl; exact rfl)
 | ((with_reducible apply r_sub); exact rfl; exact rfl; exact (by first | assumption | (unfold fits; omega)); exact rfl)
 | ((with_reducible apply r_pick_f); exact rfl; exact rfl; exact rfl)
 | ((with_reducible apply r_len_f); exact rfl; exact inferInstance; exact rfl)
 | ((with_reducible apply r_index_f); exact rfl; exact inferInstance; exact rfl; exact (Int.toNat_of_nonneg (by omega)).symm; (first | assumption | omega); exact rfl)
 | ((with_reducible apply r_load_fa); exact rfl; exact inferInstance; exact List.getElem?_eq_getElem (by first | assumption | omega); exact rfl; exact rfl; exact rfl)
 | ((with_reducible apply r_field_e); exact rfl; exact rfl)
 | (((with_reducible apply r_guard); exact rfl; exact rfl; exact rfl; exact rfl) <;> intro hg <;> (first | (exact absurd hg (by decide)) | ((try simp only [decide_eq_true_eq, decide_eq_false_iff_not, Bool.not_eq_true', Bool.not_eq_false', Bool.not_true, Bool.not_false, Bool.not_not, Int.not_lt, Int.not_le, Nat.not_lt, Nat.not_le, gt_iff_lt, ge_iff_le, List.cons.injEq, and_true] at hg); first | (exact absurd trivial hg) | (exfalso; omega) | (have hT : True := hg; clear hT hg) | skip)))
 | (((with_reducible apply aw_cond); exact rfl) <;> intro hg <;> (first | (exact absurd hg (by decide)) | ((try simp only [decide_eq_true_eq, decide_eq_false_iff_not, Bool.not_eq_true', Bool.not_eq_false', Bool.not_true, Bool.not_false, Bool.not_not, Int.not_lt, Int.not_le, Nat.not_lt, Nat.not_le, gt_iff_lt, ge_iff_le, List.cons.injEq, and_true] at hg); first | (exact absurd trivial hg) | (exfalso; omega) | (have hT : True := hg; clear hT hg) | skip)))
 )
  · skip
    refine aw_loopG (G := Nat × Int) (fun ((j, t) : Nat × Int) => j ≤ l.length ∧ 0 ≤ t ∧ t ≤ 2400 ∧ t = swN l j) (fun ((j, t) : Nat × Int) => l.length - j) (fun ((j, t) : Nat × Int) => [(0, .c (LL l)), (3, A ((l.length : Int) - 1)), (4, .c (LI (midL l))), (5, .ptr 0 0), (6, .ptr 1 0), (7, A t), (37, A l.length), (38, A j)]) (fun ((j, t) : Nat × Int) => [(0, some (.cells 141 [A (cenX (secD l 0)), A (cenY (secD l 0))])), (1, some (.cells 141 [A (cenX (secD l (l.length - 1))), A (cenY (secD l (l.length - 1)))]))]) 2 (0, 0) ?_ (by refine weak_mk rfl ?_ ?_ <;> repeat (first | exact envW_nil | exact heapW_nil | refine envW_cons rfl rfl ?_ | refine heapW_cons rfl rfl rfl ?_)) rfl ?_
    · exact ⟨Nat.zero_le _, by decide, by decide, rfl⟩
    rintro ⟨j, t⟩ hI
    try dsimp only at hI
    try dsimp only
    obtain ⟨hj, ht0, ht1, ht⟩ := hI
    by_cases hjl : j < l.length
    · have hsj : secD l j = l[j].sec := secD_eq hjl
      have bj := cen_bd (secD l j)
      have cj : Con Tryz.prog gl 118 [secC l[j].sec] (.agg [I (cenX (secD l j)), I (cenY (secD l j))]) := by rw [hsj]; exact cen_con _
      have mj : (midL l)[j]'(by omega) = midS l j := midL_get l j (by omega)
      have mbj := mid_bd v hjl
      have mj0 : midS l 0 ≤ midS l j := by
        by_cases he : j = 0
        · rw [he]; exact Int.le_refl _
        · have := mid_lt v (i := 0) (j := j) (by omega) hjl; omega
      have mj1 : midS l j ≤ midS l (l.length - 1) := by
        by_cases he : j = l.length - 1
        · rw [← he]; exact Int.le_refl _
        · have := mid_lt v (i := j) (j := l.length - 1) (by omega) (by omega); omega
      have abx := along_bd (a := cenX (secD l 0)) (b := cenX (secD l (l.length - 1))) (s := midS l 0) (t := midS l (l.length - 1)) (m := midS l j) (by omega) mj0 mj1 (by omega) (by omega)
      have aby := along_bd (a := cenY (secD l 0)) (b := cenY (secD l (l.length - 1))) (s := midS l 0) (t := midS l (l.length - 1)) (m := midS l j) (by omega) mj0 mj1 (by omega) (by omega)
      have px := prod_bd (x := cenX (secD l (l.length - 1)) - cenX (secD l 0)) (y := midS l j - midS l 0) (by omega) (by omega)
      have py := prod_bd (x := cenY (secD l (l.length - 1)) - cenY (secD l 0)) (y := midS l j - midS l 0) (by omega) (by omega)
      have hst : swN l (j + 1) = max (max t (devS l j).1) (devS l j).2 := by rw [ht]; rfl
      have hd1 : (devS l j).1 = distS (cenX (secD l j)) (alongS (cenX (secD l 0)) (cenX (secD l (l.length - 1))) (midS l 0) (midS l (l.length - 1)) (midS l j)) := rfl
      have hd2 : (devS l j).2 = distS (cenY (secD l j)) (alongS (cenY (secD l 0)) (cenY (secD l (l.length - 1))) (midS l 0) (midS l (l.length - 1)) (midS l j)) := rfl
      have ax := along_con (gl := gl) (cenX (secD l 0)) (cenX (secD l (l.length - 1))) (midS l 0) (midS l (l.length - 1)) (midS l j) (by omega) (by omega) (by omega) (by omega) (by omega)
      have ay := along_con (gl := gl) (cenY (secD l 0)) (cenY (secD l (l.length - 1))) (midS l 0) (midS l (l.length - 1)) (midS l j) (by omega) (by omega) (by omega) (by omega) (by omega)
      have dx := dist_con (gl := gl) (cenX (secD l j)) (alongS (cenX (secD l 0)) (cenX (secD l (l.length - 1))) (midS l 0) (midS l (l.length - 1)) (midS l j)) (by omega) (by omega)
      have dy := dist_con (gl := gl) (cenY (secD l j)) (alongS (cenY (secD l 0)) (cenY (secD l (l.length - 1))) (midS l 0) (midS l (l.length - 1)) (midS l j)) (by omega) (by omega)
      repeat' (first
 | (rw [mj])
 | (rw [m0])
 | (rw [m1])
 | ((with_reducible apply (r_index_f (k := 0))); exact rfl; exact inferInstance; exact rfl; exact rfl; exact (by omega); exact rfl)
 | ((with_reducible apply r_call); exact rfl; exact rfl; (first | exact hc | exact cj | exact ax | exact ay | exact dx | exact dy); exact rfl; exact rfl)
 | ((with_reducible apply aw_seq))
 | ((with_reducible apply aw_region))
 | ((with_reducible apply aw_block))
 | ((with_reducible apply thn_normal))
 | ((with_reducible apply inb_normal))
 | ((with_reducible apply aw_skip))
 | ((with_reducible apply ao_nil))
 | ((with_reducible apply r_move); exact rfl; exact rfl)
 | ((with_reducible apply r_assign); exact rfl; exact rfl)
 | ((with_reducible apply r_field_p); exact rfl; exact rfl)
 | ((with_reducible apply r_load_p); exact rfl; exact rfl; exact rfl; exact rfl)
 | ((with_reducible apply r_lss); exact rfl; exact rfl; exact rfl)
 | ((with_reducible apply r_add); exact rfl; exact rfl; exact (by first | assumption | (unfold fits; omega)); exact rfl)
 | ((with_reducible apply r_index_f); exact rfl; exact inferInstance; exact rfl; exact rfl; (first | assumption | omega); exact rfl)
 | ((with_reducible apply r_index_f); exact rfl; exact inferInstance; exact rfl; exact (Int.toNat_of_nonneg (by omega)).symm; (first | assumption | omega); exact rfl)
 | ((with_reducible apply r_load_f0); exact rfl; exact inferInstance; exact List.getElem?_eq_getElem (by first | assumption | omega); exact rfl; exact rfl)
 | ((with_reducible apply r_load_fa); exact rfl; exact inferInstance; exact List.getElem?_eq_getElem (by first | assumption | omega); exact rfl; exact rfl; exact rfl)
 | ((with_reducible apply r_field_e); exact rfl; exact rfl)
 | ((with_reducible apply r_store_pa); exact rfl; exact rfl; exact rfl; exact rfl; exact rfl; exact rfl)
 | ((with_reducible apply r_alloc); exact rfl)
 | (((with_reducible apply aw_cond); exact rfl) <;> intro hg <;> (first | (exact absurd hg (by decide)) | ((try simp only [decide_eq_true_eq, decide_eq_false_iff_not, Bool.not_eq_true', Bool.not_eq_false', Bool.not_true, Bool.not_false, Bool.not_not, Int.not_lt, Int.not_le, Nat.not_lt, Nat.not_le, gt_iff_lt, ge_iff_le, List.cons.injEq, and_true] at hg); first | (exact absurd trivial hg) | (exfalso; omega) | (have hT : True := hg; clear hT hg) | skip)))
 | (refine aw_drawq ?_ ?_; (kernel_rfl))
 | ((with_reducible apply ds_nil))
 | ((with_reducible apply r_max3); exact rfl; exact rfl; exact rfl; exact rfl)
 )
      rw [← hd1, ← hd2, ← hst]
      refine ⟨(j + 1, swN l (j + 1)), ?_, ?_, by refine weak_mk rfl ?_ ?_ <;> repeat (first | exact envW_nil | exact heapW_nil | refine envW_cons rfl rfl ?_ | refine heapW_cons rfl rfl rfl ?_)⟩
      · show l.length - (j + 1) < l.length - j; omega
      · refine ⟨by show j + 1 ≤ _; omega, ?_, ?_, rfl⟩
        · show 0 ≤ swN l (j + 1); rw [hst]; omega
        · show swN l (j + 1) ≤ 2400; rw [hst, hd1, hd2]; unfold distS; omega
    · obtain rfl : j = l.length := by omega
      rw [← ht]
      repeat' (first
 | ((with_reducible apply aw_seq))
 | ((with_reducible apply aw_region))
 | ((with_reducible apply thn_normal))
 | ((with_reducible apply thn_exit))
 | ((with_reducible apply inb_exit))
 | ((with_reducible apply aw_exit))
 | ((with_reducible apply aw_ret))
 | ((with_reducible apply ao_nil))
 | ((with_reducible apply r_move); exact rfl; exact rfl)
 | ((with_reducible apply r_assign); exact rfl; exact rfl)
 | ((with_reducible apply r_lss); exact rfl; exact rfl; exact rfl)
 | (((with_reducible apply aw_cond); exact rfl) <;> intro hg <;> (first | (exact absurd hg (by decide)) | ((try simp only [decide_eq_true_eq, decide_eq_false_iff_not, Bool.not_eq_true', Bool.not_eq_false', Bool.not_true, Bool.not_false, Bool.not_not, Int.not_lt, Int.not_le, Nat.not_lt, Nat.not_le, gt_iff_lt, ge_iff_le, List.cons.injEq, and_true] at hg); first | (exact absurd trivial hg) | (exfalso; omega) | (have hT : True := hg; clear hT hg) | skip)))
 )
      exact ret_i rfl rfl
  · skip
    refine aw_loopG (G := Nat × Int) (fun ((j, t) : Nat × Int) => j ≤ l.length ∧ 0 ≤ t ∧ t ≤ 2400 ∧ t = swN l j) (fun ((j, t) : Nat × Int) => l.length - j) (fun ((j, t) : Nat × Int) => [(0, .c (LL l)), (3, A ((l.length : Int) - 1)), (4, .c (LI (midL l))), (5, .ptr 1 0), (6, .ptr 0 0), (7, A t), (37, A l.length), (38, A j)]) (fun ((j, t) : Nat × Int) => [(1, some (.cells 141 [A (cenX (secD l 0)), A (cenY (secD l 0))])), (0, some (.cells 141 [A (cenX (secD l (l.length - 1))), A (cenY (secD l (l.length - 1)))]))]) 2 (0, 0) ?_ (by refine weak_mk rfl ?_ ?_ <;> repeat (first | exact envW_nil | exact heapW_nil | refine envW_cons rfl rfl ?_ | refine heapW_cons rfl rfl rfl ?_)) rfl ?_
    · exact ⟨Nat.zero_le _, by decide, by decide, rfl⟩
    rintro ⟨j, t⟩ hI
    try dsimp only at hI
    try dsimp only
    obtain ⟨hj, ht0, ht1, ht⟩ := hI
    by_cases hjl : j < l.length
    · have hsj : secD l j = l[j].sec := secD_eq hjl
      have bj := cen_bd (secD l j)
      have cj : Con Tryz.prog gl 118 [secC l[j].sec] (.agg [I (cenX (secD l j)), I (cenY (secD l j))]) := by rw [hsj]; exact cen_con _
      have mj : (midL l)[j]'(by omega) = midS l j := midL_get l j (by omega)
      have mbj := mid_bd v hjl
      have mj0 : midS l 0 ≤ midS l j := by
        by_cases he : j = 0
        · rw [he]; exact Int.le_refl _
        · have := mid_lt v (i := 0) (j := j) (by omega) hjl; omega
      have mj1 : midS l j ≤ midS l (l.length - 1) := by
        by_cases he : j = l.length - 1
        · rw [← he]; exact Int.le_refl _
        · have := mid_lt v (i := j) (j := l.length - 1) (by omega) (by omega); omega
      have abx := along_bd (a := cenX (secD l 0)) (b := cenX (secD l (l.length - 1))) (s := midS l 0) (t := midS l (l.length - 1)) (m := midS l j) (by omega) mj0 mj1 (by omega) (by omega)
      have aby := along_bd (a := cenY (secD l 0)) (b := cenY (secD l (l.length - 1))) (s := midS l 0) (t := midS l (l.length - 1)) (m := midS l j) (by omega) mj0 mj1 (by omega) (by omega)
      have px := prod_bd (x := cenX (secD l (l.length - 1)) - cenX (secD l 0)) (y := midS l j - midS l 0) (by omega) (by omega)
      have py := prod_bd (x := cenY (secD l (l.length - 1)) - cenY (secD l 0)) (y := midS l j - midS l 0) (by omega) (by omega)
      have hst : swN l (j + 1) = max (max t (devS l j).1) (devS l j).2 := by rw [ht]; rfl
      have hd1 : (devS l j).1 = distS (cenX (secD l j)) (alongS (cenX (secD l 0)) (cenX (secD l (l.length - 1))) (midS l 0) (midS l (l.length - 1)) (midS l j)) := rfl
      have hd2 : (devS l j).2 = distS (cenY (secD l j)) (alongS (cenY (secD l 0)) (cenY (secD l (l.length - 1))) (midS l 0) (midS l (l.length - 1)) (midS l j)) := rfl
      have ax := along_con (gl := gl) (cenX (secD l 0)) (cenX (secD l (l.length - 1))) (midS l 0) (midS l (l.length - 1)) (midS l j) (by omega) (by omega) (by omega) (by omega) (by omega)
      have ay := along_con (gl := gl) (cenY (secD l 0)) (cenY (secD l (l.length - 1))) (midS l 0) (midS l (l.length - 1)) (midS l j) (by omega) (by omega) (by omega) (by omega) (by omega)
      have dx := dist_con (gl := gl) (cenX (secD l j)) (alongS (cenX (secD l 0)) (cenX (secD l (l.length - 1))) (midS l 0) (midS l (l.length - 1)) (midS l j)) (by omega) (by omega)
      have dy := dist_con (gl := gl) (cenY (secD l j)) (alongS (cenY (secD l 0)) (cenY (secD l (l.length - 1))) (midS l 0) (midS l (l.length - 1)) (midS l j)) (by omega) (by omega)
      repeat' (first
 | (rw [mj])
 | (rw [m0])
 | (rw [m1])
 | ((with_reducible apply (r_index_f (k := 0))); exact rfl; exact inferInstance; exact rfl; exact rfl; exact (by omega); exact rfl)
 | ((with_reducible apply r_call); exact rfl; exact rfl; (first | exact hc | exact cj | exact ax | exact ay | exact dx | exact dy); exact rfl; exact rfl)
 | ((with_reducible apply aw_seq))
 | ((with_reducible apply aw_region))
 | ((with_reducible apply aw_block))
 | ((with_reducible apply thn_normal))
 | ((with_reducible apply inb_normal))
 | ((with_reducible apply aw_skip))
 | ((with_reducible apply ao_nil))
 | ((with_reducible apply r_move); exact rfl; exact rfl)
 | ((with_reducible apply r_assign); exact rfl; exact rfl)
 | ((with_reducible apply r_field_p); exact rfl; exact rfl)
 | ((with_reducible apply r_load_p); exact rfl; exact rfl; exact rfl; exact rfl)
 | ((with_reducible apply r_lss); exact rfl; exact rfl; exact rfl)
 | ((with_reducible apply r_add); exact rfl; exact rfl; exact (by first | assumption | (unfold fits; omega)); exact rfl)
 | ((with_reducible apply r_index_f); exact rfl; exact inferInstance; exact rfl; exact rfl; (first | assumption | omega); exact rfl)
 | ((with_reducible apply r_index_f); exact rfl; exact inferInstance; exact rfl; exact (Int.toNat_of_nonneg (by omega)).symm; (first | assumption | omega); exact rfl)
 | ((with_reducible apply r_load_f0); exact rfl; exact inferInstance; exact List.getElem?_eq_getElem (by first | assumption | omega); exact rfl; exact rfl)
 | ((with_reducible apply r_load_fa); exact rfl; exact inferInstance; exact List.getElem?_eq_getElem (by first | assumption | omega); exact rfl; exact rfl; exact rfl)
 | ((with_reducible apply r_field_e); exact rfl; exact rfl)
 | ((with_reducible apply r_store_pa); exact rfl; exact rfl; exact rfl; exact rfl; exact rfl; exact rfl)
 | ((with_reducible apply r_alloc); exact rfl)
 | (((with_reducible apply aw_cond); exact rfl) <;> intro hg <;> (first | (exact absurd hg (by decide)) | ((try simp only [decide_eq_true_eq, decide_eq_false_iff_not, Bool.not_eq_true', Bool.not_eq_false', Bool.not_true, Bool.not_false, Bool.not_not, Int.not_lt, Int.not_le, Nat.not_lt, Nat.not_le, gt_iff_lt, ge_iff_le, List.cons.injEq, and_true] at hg); first | (exact absurd trivial hg) | (exfalso; omega) | (have hT : True := hg; clear hT hg) | skip)))
 | (refine aw_drawq ?_ ?_; (kernel_rfl))
 | ((with_reducible apply ds_nil))
 | ((with_reducible apply r_max3); exact rfl; exact rfl; exact rfl; exact rfl)
 )
      rw [← hd1, ← hd2, ← hst]
      refine ⟨(j + 1, swN l (j + 1)), ?_, ?_, by refine weak_mk rfl ?_ ?_ <;> repeat (first | exact envW_nil | exact heapW_nil | refine envW_cons rfl rfl ?_ | refine heapW_cons rfl rfl rfl ?_)⟩
      · show l.length - (j + 1) < l.length - j; omega
      · refine ⟨by show j + 1 ≤ _; omega, ?_, ?_, rfl⟩
        · show 0 ≤ swN l (j + 1); rw [hst]; omega
        · show swN l (j + 1) ≤ 2400; rw [hst, hd1, hd2]; unfold distS; omega
    · obtain rfl : j = l.length := by omega
      rw [← ht]
      repeat' (first
 | ((with_reducible apply aw_seq))
 | ((with_reducible apply aw_region))
 | ((with_reducible apply thn_normal))
 | ((with_reducible apply thn_exit))
 | ((with_reducible apply inb_exit))
 | ((with_reducible apply aw_exit))
 | ((with_reducible apply aw_ret))
 | ((with_reducible apply ao_nil))
 | ((with_reducible apply r_move); exact rfl; exact rfl)
 | ((with_reducible apply r_assign); exact rfl; exact rfl)
 | ((with_reducible apply r_lss); exact rfl; exact rfl; exact rfl)
 | (((with_reducible apply aw_cond); exact rfl) <;> intro hg <;> (first | (exact absurd hg (by decide)) | ((try simp only [decide_eq_true_eq, decide_eq_false_iff_not, Bool.not_eq_true', Bool.not_eq_false', Bool.not_true, Bool.not_false, Bool.not_not, Int.not_lt, Int.not_le, Nat.not_lt, Nat.not_le, gt_iff_lt, ge_iff_le, List.cons.injEq, and_true] at hg); first | (exact absurd trivial hg) | (exfalso; omega) | (have hT : True := hg; clear hT hg) | skip)))
 )
      exact ret_i rfl rfl
theorem rsweep_con (l : List Slc) (hn : l.length ≤ maxLen) : Con Tryz.prog gl 112 [LL l] (I (sweepS l)) := by
  have hc := rscheck_con (gl := gl) l hn
  by_cases h : solChk l = 0 ∧ 3 ≤ l.length
  rotate_left
  · have e : sweepS l = 0 := if_neg h
    rw [e]
    refine con_of Tryz.func112 rfl (by kernel_rfl) rfl ?_
    simp only [Tryz.ntmps112, Tryz.results112, argEnv, ofC, of1, List.map]
    by_cases h0 : solChk l = 0
    · have h3 : l.length < 3 := by
        by_cases hh : l.length < 3
        · exact hh
        · exact absurd ⟨h0, by omega⟩ h
      repeat' (first
 | ((with_reducible apply r_call); exact rfl; exact rfl; (first | exact hc); exact rfl; exact rfl)
 | ((with_reducible apply aw_seq))
 | ((with_reducible apply aw_region))
 | ((with_reducible apply thn_normal))
 | ((with_reducible apply thn_ret))
 | ((with_reducible apply aw_ret))
 | ((with_reducible apply ao_nil))
 | ((with_reducible apply r_move); exact rfl; exact rfl)
 | ((with_reducible apply r_assign); exact rfl; exact rfl)
 | ((with_reducible apply r_leq); exact rfl; exact rfl; exact rfl)
 | ((with_reducible apply r_neq); exact rfl; exact rfl; exact rfl)
 | ((with_reducible apply r_pick_f); exact rfl; exact rfl; exact rfl)
 | ((with_reducible apply r_len_f); exact rfl; exact inferInstance; exact rfl)
 | (((with_reducible apply r_guard); exact rfl; exact rfl; exact rfl; exact rfl) <;> intro hg <;> (first | (exact absurd hg (by decide)) | ((try simp only [decide_eq_true_eq, decide_eq_false_iff_not, Bool.not_eq_true', Bool.not_eq_false', Bool.not_true, Bool.not_false, Bool.not_not, Int.not_lt, Int.not_le, Nat.not_lt, Nat.not_le, gt_iff_lt, ge_iff_le, List.cons.injEq, and_true] at hg); first | (exact absurd trivial hg) | (exfalso; omega) | (have hT : True := hg; clear hT hg) | skip)))
 | (((with_reducible apply aw_cond); exact rfl) <;> intro hg <;> (first | (exact absurd hg (by decide)) | ((try simp only [decide_eq_true_eq, decide_eq_false_iff_not, Bool.not_eq_true', Bool.not_eq_false', Bool.not_true, Bool.not_false, Bool.not_not, Int.not_lt, Int.not_le, Nat.not_lt, Nat.not_le, gt_iff_lt, ge_iff_le, List.cons.injEq, and_true] at hg); first | (exact absurd trivial hg) | (exfalso; omega) | (have hT : True := hg; clear hT hg) | skip)))
 )
      exact ret_i rfl rfl
    · skip
      repeat' (first
 | ((with_reducible apply r_call); exact rfl; exact rfl; (first | exact hc); exact rfl; exact rfl)
 | ((with_reducible apply aw_seq))
 | ((with_reducible apply aw_region))
 | ((with_reducible apply thn_normal))
 | ((with_reducible apply thn_ret))
 | ((with_reducible apply aw_ret))
 | ((with_reducible apply ao_nil))
 | ((with_reducible apply r_move); exact rfl; exact rfl)
 | ((with_reducible apply r_assign); exact rfl; exact rfl)
 | ((with_reducible apply r_neq); exact rfl; exact rfl; exact rfl)
 | ((with_reducible apply r_pick_t); exact rfl; exact rfl; exact rfl)
 | (((with_reducible apply r_guard); exact rfl; exact rfl; exact rfl; exact rfl) <;> intro hg <;> (first | (exact absurd hg (by decide)) | ((try simp only [decide_eq_true_eq, decide_eq_false_iff_not, Bool.not_eq_true', Bool.not_eq_false', Bool.not_true, Bool.not_false, Bool.not_not, Int.not_lt, Int.not_le, Nat.not_lt, Nat.not_le, gt_iff_lt, ge_iff_le, List.cons.injEq, and_true] at hg); first | (exact absurd trivial hg) | (exfalso; omega) | (have hT : True := hg; clear hT hg) | skip)))
 | (((with_reducible apply aw_cond); exact rfl) <;> intro hg <;> (first | (exact absurd hg (by decide)) | ((try simp only [decide_eq_true_eq, decide_eq_false_iff_not, Bool.not_eq_true', Bool.not_eq_false', Bool.not_true, Bool.not_false, Bool.not_not, Int.not_lt, Int.not_le, Nat.not_lt, Nat.not_le, gt_iff_lt, ge_iff_le, List.cons.injEq, and_true] at hg); first | (exact absurd trivial hg) | (exfalso; omega) | (have hT : True := hg; clear hT hg) | skip)))
 )
      exact ret_i rfl rfl
  obtain ⟨h0, h3⟩ := h
  have e : sweepS l = swN l l.length := if_pos ⟨h0, h3⟩
  rw [e]
  have v := sol_V h0
  have hu := v.n
  have hmi := rmiddles_con (gl := gl) l v
  have hml := midL_len l
  have hq : ((l.length : Int) - 1).toNat = l.length - 1 := by omega
  have hla : secD l (l.length - 1) = (l[((l.length : Int) - 1).toNat]'(by omega)).sec := by rw [← secD_eq (by omega), hq]
  have hfi : secD l 0 = (l[0]'(by omega)).sec := secD_eq (by omega)
  have c0 : Con Tryz.prog gl 123 [secC (l[0]'(by omega)).sec] (.agg [I (cenX (secD l 0)), I (cenY (secD l 0))]) := by rw [hfi]; exact rcen_con _
  have c1 : Con Tryz.prog gl 123 [secC (l[((l.length : Int) - 1).toNat]'(by omega)).sec] (.agg [I (cenX (secD l (l.length - 1))), I (cenY (secD l (l.length - 1)))]) := by rw [hla]; exact rcen_con _
  have b0 := cen_bd (l[0]'(by omega)).sec
  have b1 := cen_bd (l[((l.length : Int) - 1).toNat]'(by omega)).sec
  have m0 : (midL l)[0]'(by omega) = midS l 0 := midL_get l 0 (by omega)
  have m1 : (midL l)[((l.length : Int) - 1).toNat]'(by omega) = midS l (l.length - 1) := by rw [midL_get, hq]
  have mb0 := mid_bd v (i := 0) (by omega)
  have mb1 := mid_bd v (i := l.length - 1) (by omega)
  have mlt := mid_lt v (i := 0) (j := l.length - 1) (by omega) (by omega)
  rw [← hfi] at b0
  rw [← hla] at b1
  refine con_of Tryz.func112 rfl (by kernel_rfl) rfl ?_
  simp only [Tryz.ntmps112, Tryz.results112, argEnv, ofC, of1, List.map]
  repeat' (first
 | (refine aw_drawS [0, 1] [0, 1, 2, 3, 4, 5, 6, 7, 8, 9, 10] 4 ?_ rfl ?_; (decide +kernel); (simp only [pk, List.drop_succ_cons, List.drop_zero, List.map_cons, List.map_nil, List.cons_append, List.nil_append]))
 | ((with_reducible apply ds_nilS))
 | ((with_reducible apply d3_nil); (decide +kernel))
 | (first | (refine d3_step [11] (by decide +kernel) rfl ?_) | (refine d3_step [12] (by decide +kernel) rfl ?_) | (refine d3_step [13] (by decide +kernel) rfl ?_) | (refine d3_step [14] (by decide +kernel) rfl ?_) | (refine d3_step [11, 12] (by decide +kernel) rfl ?_) | (refine d3_step [11, 13] (by decide +kernel) rfl ?_) | (refine d3_step [11, 14] (by decide +kernel) rfl ?_) | (refine d3_step [12, 13] (by decide +kernel) rfl ?_) | (refine d3_step [12, 14] (by decide +kernel) rfl ?_) | (refine d3_step [13, 14] (by decide +kernel) rfl ?_) | (refine d3_step [11, 12, 13] (by decide +kernel) rfl ?_) | (refine d3_step [11, 12, 14] (by decide +kernel) rfl ?_) | (refine d3_step [11, 13, 14] (by decide +kernel) rfl ?_) | (refine d3_step [12, 13, 14] (by decide +kernel) rfl ?_))
 | ((with_reducible refine List.forall_mem_cons.2 ⟨?_, ?_⟩))
 | ((with_reducible exact d3_none))
 | ((with_reducible apply d3_a); exact rfl; exact inferInstance; exact rfl)
 | ((with_reducible apply d3_pa); exact rfl; exact inferInstance; exact rfl; exact rfl; exact rfl; exact rfl; exact rfl; exact rfl; exact rfl; exact rfl)
 | ((with_reducible apply d3_p); exact rfl; exact inferInstance; exact rfl; exact rfl; exact rfl; exact rfl; exact rfl; exact rfl; exact rfl; exact rfl)
 | ((with_reducible apply (r_index_f (k := 0))); exact rfl; exact inferInstance; exact rfl; exact rfl; exact (by omega); exact rfl)
 | ((with_reducible apply r_call); exact rfl; exact rfl; (first | exact hc | exact hmi | exact c0 | exact c1); exact rfl; exact rfl)
 | ((with_reducible apply aw_seq))
 | ((with_reducible apply aw_region))
 | ((with_reducible apply aw_block))
 | ((with_reducible apply thn_normal))
 | ((with_reducible apply aw_skip))
 | ((with_reducible apply ao_nil))
 | ((with_reducible apply r_move); exact rfl; exact rfl)
 | ((with_reducible apply r_assign); exact rfl; exact rfl)
 | ((with_reducible apply r_leq); exact rfl; exact rfl; exact rfl)
 | ((with_reducible apply r_neq); exact rfl; exact rfl; exact rfl)
 | ((with_reducible apply r_sub); exact rfl; exact rfl; exact (by first | assumption | (unfold fits; omega)); exact rfl)
 | ((with_reducible apply r_pick_f); exact rfl; exact rfl; exact rfl)
 | ((with_reducible apply r_len_f); exact rfl; exact inferInstance; exact rfl)
 | ((with_reducible apply r_index_f); exact rfl; exact inferInstance; exact rfl; exact (Int.toNat_of_nonneg (by omega)).symm; (first | assumption | omega); exact rfl)
 | ((with_reducible apply r_load_fa); exact rfl; exact inferInstance; exact List.getElem?_eq_getElem (by first | assumption | omega); exact rfl; exact rfl; exact rfl)
 | ((with_reducible apply r_field_e); exact rfl; exact rfl)
 | (((with_reducible apply r_guard); exact rfl; exact rfl; exact rfl; exact rfl) <;> intro hg <;> (first | (exact absurd hg (by decide)) | ((try simp only [decide_eq_true_eq, decide_eq_false_iff_not, Bool.not_eq_true', Bool.not_eq_false', Bool.not_true, Bool.not_false, Bool.not_not, Int.not_lt, Int.not_le, Nat.not_lt, Nat.not_le, gt_iff_lt, ge_iff_le, List.cons.injEq, and_true] at hg); first | (exact absurd trivial hg) | (exfalso; omega) | (have hT : True := hg; clear hT hg) | skip)))
 | (((with_reducible apply aw_cond); exact rfl) <;> intro hg <;> (first | (exact absurd hg (by decide)) | ((try simp only [decide_eq_true_eq, decide_eq_false_iff_not, Bool.not_eq_true', Bool.not_eq_false', Bool.not_true, Bool.not_false, Bool.not_not, Int.not_lt, Int.not_le, Nat.not_lt, Nat.not_le, gt_iff_lt, ge_iff_le, List.cons.injEq, and_true] at hg); first | (exact absurd trivial hg) | (exfalso; omega) | (have hT : True := hg; clear hT hg) | skip)))
 )
  · skip
    refine aw_loopG (G := Nat × Int) (fun ((j, t) : Nat × Int) => j ≤ l.length ∧ 0 ≤ t ∧ t ≤ 2400 ∧ t = swN l j) (fun ((j, t) : Nat × Int) => l.length - j) (fun ((j, t) : Nat × Int) => [(0, .c (LL l)), (3, .c (LI (midL l))), (4, A ((l.length : Int) - 1)), (5, .ptr 0 0), (6, .ptr 1 0), (7, A t), (8, A j)]) (fun ((j, t) : Nat × Int) => [(0, some (.cells 141 [A (cenX (secD l 0)), A (cenY (secD l 0))])), (1, some (.cells 141 [A (cenX (secD l (l.length - 1))), A (cenY (secD l (l.length - 1)))]))]) 2 (0, 0) ?_ (by refine weak_mk rfl ?_ ?_ <;> repeat (first | exact envW_nil | exact heapW_nil | refine envW_cons rfl rfl ?_ | refine heapW_cons rfl rfl rfl ?_)) rfl ?_
    · exact ⟨Nat.zero_le _, by decide, by decide, rfl⟩
    rintro ⟨j, t⟩ hI
    try dsimp only at hI
    try dsimp only
    obtain ⟨hj, ht0, ht1, ht⟩ := hI
    by_cases hjl : j < l.length
    · have hsj : secD l j = l[j].sec := secD_eq hjl
      have bj := cen_bd (secD l j)
      have cj : Con Tryz.prog gl 123 [secC l[j].sec] (.agg [I (cenX (secD l j)), I (cenY (secD l j))]) := by rw [hsj]; exact rcen_con _
      have mj : (midL l)[j]'(by omega) = midS l j := midL_get l j (by omega)
      have mbj := mid_bd v hjl
      have mj0 : midS l 0 ≤ midS l j := by
        by_cases he : j = 0
        · rw [he]; exact Int.le_refl _
        · have := mid_lt v (i := 0) (j := j) (by omega) hjl; omega
      have mj1 : midS l j ≤ midS l (l.length - 1) := by
        by_cases he : j = l.length - 1
        · rw [← he]; exact Int.le_refl _
        · have := mid_lt v (i := j) (j := l.length - 1) (by omega) (by omega); omega
      have abx := along_bd (a := cenX (secD l 0)) (b := cenX (secD l (l.length - 1))) (s := midS l 0) (t := midS l (l.length - 1)) (m := midS l j) (by omega) mj0 mj1 (by omega) (by omega)
      have aby := along_bd (a := cenY (secD l 0)) (b := cenY (secD l (l.length - 1))) (s := midS l 0) (t := midS l (l.length - 1)) (m := midS l j) (by omega) mj0 mj1 (by omega) (by omega)
      have px := prod_bd (x := cenX (secD l (l.length - 1)) - cenX (secD l 0)) (y := midS l j - midS l 0) (by omega) (by omega)
      have py := prod_bd (x := cenY (secD l (l.length - 1)) - cenY (secD l 0)) (y := midS l j - midS l 0) (by omega) (by omega)
      have hst : swN l (j + 1) = max (max t (devS l j).1) (devS l j).2 := by rw [ht]; rfl
      have hd1 : (devS l j).1 = distS (cenX (secD l j)) (alongS (cenX (secD l 0)) (cenX (secD l (l.length - 1))) (midS l 0) (midS l (l.length - 1)) (midS l j)) := rfl
      have hd2 : (devS l j).2 = distS (cenY (secD l j)) (alongS (cenY (secD l 0)) (cenY (secD l (l.length - 1))) (midS l 0) (midS l (l.length - 1)) (midS l j)) := rfl
      have fx : fits ((cenX (secD l (l.length - 1)) - cenX (secD l 0)) * (midS l j - midS l 0)) := by unfold fits; omega
      have fy : fits ((cenY (secD l (l.length - 1)) - cenY (secD l 0)) * (midS l j - midS l 0)) := by unfold fits; omega
      have gx : alongS (cenX (secD l 0)) (cenX (secD l (l.length - 1))) (midS l 0) (midS l (l.length - 1)) (midS l j) = cenX (secD l 0) + (cenX (secD l (l.length - 1)) - cenX (secD l 0)) * (midS l j - midS l 0) / (midS l (l.length - 1) - midS l 0) := rfl
      have gy : alongS (cenY (secD l 0)) (cenY (secD l (l.length - 1))) (midS l 0) (midS l (l.length - 1)) (midS l j) = cenY (secD l 0) + (cenY (secD l (l.length - 1)) - cenY (secD l 0)) * (midS l j - midS l 0) / (midS l (l.length - 1) - midS l 0) := rfl
      have fx2 : fits (cenX (secD l 0) + (cenX (secD l (l.length - 1)) - cenX (secD l 0)) * (midS l j - midS l 0) / (midS l (l.length - 1) - midS l 0)) := by rw [← gx]; unfold fits; omega
      have fy2 : fits (cenY (secD l 0) + (cenY (secD l (l.length - 1)) - cenY (secD l 0)) * (midS l j - midS l 0) / (midS l (l.length - 1) - midS l 0)) := by rw [← gy]; unfold fits; omega
      have ax := rfloor_con (gl := gl) ((cenX (secD l (l.length - 1)) - cenX (secD l 0)) * (midS l j - midS l 0)) (midS l (l.length - 1) - midS l 0) (by omega) (by omega)
      have ay := rfloor_con (gl := gl) ((cenY (secD l (l.length - 1)) - cenY (secD l 0)) * (midS l j - midS l 0)) (midS l (l.length - 1) - midS l 0) (by omega) (by omega)
      have dx := away_con (gl := gl) (cenX (secD l j)) (cenX (secD l 0) + (cenX (secD l (l.length - 1)) - cenX (secD l 0)) * (midS l j - midS l 0) / (midS l (l.length - 1) - midS l 0)) (by omega) (by rw [← gx]; omega)
      have dy := away_con (gl := gl) (cenY (secD l j)) (cenY (secD l 0) + (cenY (secD l (l.length - 1)) - cenY (secD l 0)) * (midS l j - midS l 0) / (midS l (l.length - 1) - midS l 0)) (by omega) (by rw [← gy]; omega)
      rw [← gx] at dx
      rw [← gy] at dy
      repeat' (first
 | (rw [mj])
 | (rw [m0])
 | (rw [m1])
 | ((with_reducible apply (r_index_f (k := 0))); exact rfl; exact inferInstance; exact rfl; exact rfl; exact (by omega); exact rfl)
 | ((with_reducible apply r_call); exact rfl; exact rfl; (first | exact hc | exact cj | exact ax | exact ay | exact dx | exact dy); exact rfl; exact rfl)
 | ((with_reducible apply aw_seq))
 | ((with_reducible apply aw_region))
 | ((with_reducible apply aw_block))
 | ((with_reducible apply thn_normal))
 | ((with_reducible apply inb_normal))
 | ((with_reducible apply aw_skip))
 | ((with_reducible apply ao_nil))
 | ((with_reducible apply r_move); exact rfl; exact rfl)
 | ((with_reducible apply r_assign); exact rfl; exact rfl)
 | ((with_reducible apply r_field_p); exact rfl; exact rfl)
 | ((with_reducible apply r_load_p); exact rfl; exact rfl; exact rfl; exact rfl)
 | ((with_reducible apply r_lss); exact rfl; exact rfl; exact rfl)
 | ((with_reducible apply r_add); exact rfl; exact rfl; exact (by first | assumption | (unfold fits; omega)); exact rfl)
 | ((with_reducible apply r_sub); exact rfl; exact rfl; exact (by first | assumption | (unfold fits; omega)); exact rfl)
 | ((with_reducible apply r_mul); exact rfl; exact rfl; exact (by first | assumption | (unfold fits; omega)); exact rfl)
 | ((with_reducible apply r_len_f); exact rfl; exact inferInstance; exact rfl)
 | ((with_reducible apply r_index_f); exact rfl; exact inferInstance; exact rfl; exact rfl; (first | assumption | omega); exact rfl)
 | ((with_reducible apply r_index_f); exact rfl; exact inferInstance; exact rfl; exact (Int.toNat_of_nonneg (by omega)).symm; (first | assumption | omega); exact rfl)
 | ((with_reducible apply r_load_f0); exact rfl; exact inferInstance; exact List.getElem?_eq_getElem (by first | assumption | omega); exact rfl; exact rfl)
 | ((with_reducible apply r_load_fa); exact rfl; exact inferInstance; exact List.getElem?_eq_getElem (by first | assumption | omega); exact rfl; exact rfl; exact rfl)
 | ((with_reducible apply r_field_e); exact rfl; exact rfl)
 | ((with_reducible apply r_store_pa); exact rfl; exact rfl; exact rfl; exact rfl; exact rfl; exact rfl)
 | ((with_reducible apply r_alloc); exact rfl)
 | (((with_reducible apply aw_cond); exact rfl) <;> intro hg <;> (first | (exact absurd hg (by decide)) | ((try simp only [decide_eq_true_eq, decide_eq_false_iff_not, Bool.not_eq_true', Bool.not_eq_false', Bool.not_true, Bool.not_false, Bool.not_not, Int.not_lt, Int.not_le, Nat.not_lt, Nat.not_le, gt_iff_lt, ge_iff_le, List.cons.injEq, and_true] at hg); first | (exact absurd trivial hg) | (exfalso; omega) | (have hT : True := hg; clear hT hg) | skip)))
 | (refine aw_drawq ?_ ?_; (kernel_rfl))
 | ((with_reducible apply ds_nil))
 | ((with_reducible apply r_max3); exact rfl; exact rfl; exact rfl; exact rfl)
 )
      rw [← hd1, ← hd2, ← hst]
      refine ⟨(j + 1, swN l (j + 1)), ?_, ?_, by refine weak_mk rfl ?_ ?_ <;> repeat (first | exact envW_nil | exact heapW_nil | refine envW_cons rfl rfl ?_ | refine heapW_cons rfl rfl rfl ?_)⟩
      · show l.length - (j + 1) < l.length - j; omega
      · refine ⟨by show j + 1 ≤ _; omega, ?_, ?_, rfl⟩
        · show 0 ≤ swN l (j + 1); rw [hst]; omega
        · show swN l (j + 1) ≤ 2400; rw [hst, hd1, hd2]; unfold distS; omega
    · obtain rfl : j = l.length := by omega
      rw [← ht]
      repeat' (first
 | ((with_reducible apply aw_seq))
 | ((with_reducible apply aw_region))
 | ((with_reducible apply thn_normal))
 | ((with_reducible apply thn_exit))
 | ((with_reducible apply inb_exit))
 | ((with_reducible apply aw_exit))
 | ((with_reducible apply aw_ret))
 | ((with_reducible apply ao_nil))
 | ((with_reducible apply r_move); exact rfl; exact rfl)
 | ((with_reducible apply r_assign); exact rfl; exact rfl)
 | ((with_reducible apply r_lss); exact rfl; exact rfl; exact rfl)
 | ((with_reducible apply r_len_f); exact rfl; exact inferInstance; exact rfl)
 | (((with_reducible apply aw_cond); exact rfl) <;> intro hg <;> (first | (exact absurd hg (by decide)) | ((try simp only [decide_eq_true_eq, decide_eq_false_iff_not, Bool.not_eq_true', Bool.not_eq_false', Bool.not_true, Bool.not_false, Bool.not_not, Int.not_lt, Int.not_le, Nat.not_lt, Nat.not_le, gt_iff_lt, ge_iff_le, List.cons.injEq, and_true] at hg); first | (exact absurd trivial hg) | (exfalso; omega) | (have hT : True := hg; clear hT hg) | skip)))
 )
      exact ret_i rfl rfl
  · skip
    refine aw_loopG (G := Nat × Int) (fun ((j, t) : Nat × Int) => j ≤ l.length ∧ 0 ≤ t ∧ t ≤ 2400 ∧ t = swN l j) (fun ((j, t) : Nat × Int) => l.length - j) (fun ((j, t) : Nat × Int) => [(0, .c (LL l)), (3, .c (LI (midL l))), (4, A ((l.length : Int) - 1)), (5, .ptr 1 0), (6, .ptr 0 0), (7, A t), (8, A j)]) (fun ((j, t) : Nat × Int) => [(1, some (.cells 141 [A (cenX (secD l 0)), A (cenY (secD l 0))])), (0, some (.cells 141 [A (cenX (secD l (l.length - 1))), A (cenY (secD l (l.length - 1)))]))]) 2 (0, 0) ?_ (by refine weak_mk rfl ?_ ?_ <;> repeat (first | exact envW_nil | exact heapW_nil | refine envW_cons rfl rfl ?_ | refine heapW_cons rfl rfl rfl ?_)) rfl ?_
    · exact ⟨Nat.zero_le _, by decide, by decide, rfl⟩
    rintro ⟨j, t⟩ hI
    try dsimp only at hI
    try dsimp only
    obtain ⟨hj, ht0, ht1, ht⟩ := hI
    by_cases hjl : j < l.length
    · have hsj : secD l j = l[j].sec := secD_eq hjl
      have bj := cen_bd (secD l j)
      have cj : Con Tryz.prog gl 123 [secC l[j].sec] (.agg [I (cenX (secD l j)), I (cenY (secD l j))]) := by rw [hsj]; exact rcen_con _
      have mj : (midL l)[j]'(by omega) = midS l j := midL_get l j (by omega)
      have mbj := mid_bd v hjl
      have mj0 : midS l 0 ≤ midS l j := by
        by_cases he : j = 0
        · rw [he]; exact Int.le_refl _
        · have := mid_lt v (i := 0) (j := j) (by omega) hjl; omega
      have mj1 : midS l j ≤ midS l (l.length - 1) := by
        by_cases he : j = l.length - 1
        · rw [← he]; exact Int.le_refl _
        · have := mid_lt v (i := j) (j := l.length - 1) (by omega) (by omega); omega
      have abx := along_bd (a := cenX (secD l 0)) (b := cenX (secD l (l.length - 1))) (s := midS l 0) (t := midS l (l.length - 1)) (m := midS l j) (by omega) mj0 mj1 (by omega) (by omega)
      have aby := along_bd (a := cenY (secD l 0)) (b := cenY (secD l (l.length - 1))) (s := midS l 0) (t := midS l (l.length - 1)) (m := midS l j) (by omega) mj0 mj1 (by omega) (by omega)
      have px := prod_bd (x := cenX (secD l (l.length - 1)) - cenX (secD l 0)) (y := midS l j - midS l 0) (by omega) (by omega)
      have py := prod_bd (x := cenY (secD l (l.length - 1)) - cenY (secD l 0)) (y := midS l j - midS l 0) (by omega) (by omega)
      have hst : swN l (j + 1) = max (max t (devS l j).1) (devS l j).2 := by rw [ht]; rfl
      have hd1 : (devS l j).1 = distS (cenX (secD l j)) (alongS (cenX (secD l 0)) (cenX (secD l (l.length - 1))) (midS l 0) (midS l (l.length - 1)) (midS l j)) := rfl
      have hd2 : (devS l j).2 = distS (cenY (secD l j)) (alongS (cenY (secD l 0)) (cenY (secD l (l.length - 1))) (midS l 0) (midS l (l.length - 1)) (midS l j)) := rfl
      have fx : fits ((cenX (secD l (l.length - 1)) - cenX (secD l 0)) * (midS l j - midS l 0)) := by unfold fits; omega
      have fy : fits ((cenY (secD l (l.length - 1)) - cenY (secD l 0)) * (midS l j - midS l 0)) := by unfold fits; omega
      have gx : alongS (cenX (secD l 0)) (cenX (secD l (l.length - 1))) (midS l 0) (midS l (l.length - 1)) (midS l j) = cenX (secD l 0) + (cenX (secD l (l.length - 1)) - cenX (secD l 0)) * (midS l j - midS l 0) / (midS l (l.length - 1) - midS l 0) := rfl
      have gy : alongS (cenY (secD l 0)) (cenY (secD l (l.length - 1))) (midS l 0) (midS l (l.length - 1)) (midS l j) = cenY (secD l 0) + (cenY (secD l (l.length - 1)) - cenY (secD l 0)) * (midS l j - midS l 0) / (midS l (l.length - 1) - midS l 0) := rfl
      have fx2 : fits (cenX (secD l 0) + (cenX (secD l (l.length - 1)) - cenX (secD l 0)) * (midS l j - midS l 0) / (midS l (l.length - 1) - midS l 0)) := by rw [← gx]; unfold fits; omega
      have fy2 : fits (cenY (secD l 0) + (cenY (secD l (l.length - 1)) - cenY (secD l 0)) * (midS l j - midS l 0) / (midS l (l.length - 1) - midS l 0)) := by rw [← gy]; unfold fits; omega
      have ax := rfloor_con (gl := gl) ((cenX (secD l (l.length - 1)) - cenX (secD l 0)) * (midS l j - midS l 0)) (midS l (l.length - 1) - midS l 0) (by omega) (by omega)
      have ay := rfloor_con (gl := gl) ((cenY (secD l (l.length - 1)) - cenY (secD l 0)) * (midS l j - midS l 0)) (midS l (l.length - 1) - midS l 0) (by omega) (by omega)
      have dx := away_con (gl := gl) (cenX (secD l j)) (cenX (secD l 0) + (cenX (secD l (l.length - 1)) - cenX (secD l 0)) * (midS l j - midS l 0) / (midS l (l.length - 1) - midS l 0)) (by omega) (by rw [← gx]; omega)
      have dy := away_con (gl := gl) (cenY (secD l j)) (cenY (secD l 0) + (cenY (secD l (l.length - 1)) - cenY (secD l 0)) * (midS l j - midS l 0) / (midS l (l.length - 1) - midS l 0)) (by omega) (by rw [← gy]; omega)
      rw [← gx] at dx
      rw [← gy] at dy
      repeat' (first
 | (rw [mj])
 | (rw [m0])
 | (rw [m1])
 | ((with_reducible apply (r_index_f (k := 0))); exact rfl; exact inferInstance; exact rfl; exact rfl; exact (by omega); exact rfl)
 | ((with_reducible apply r_call); exact rfl; exact rfl; (first | exact hc | exact cj | exact ax | exact ay | exact dx | exact dy); exact rfl; exact rfl)
 | ((with_reducible apply aw_seq))
 | ((with_reducible apply aw_region))
 | ((with_reducible apply aw_block))
 | ((with_reducible apply thn_normal))
 | ((with_reducible apply inb_normal))
 | ((with_reducible apply aw_skip))
 | ((with_reducible apply ao_nil))
 | ((with_reducible apply r_move); exact rfl; exact rfl)
 | ((with_reducible apply r_assign); exact rfl; exact rfl)
 | ((with_reducible apply r_field_p); exact rfl; exact rfl)
 | ((with_reducible apply r_load_p); exact rfl; exact rfl; exact rfl; exact rfl)
 | ((with_reducible apply r_lss); exact rfl; exact rfl; exact rfl)
 | ((with_reducible apply r_add); exact rfl; exact rfl; exact (by first | assumption | (unfold fits; omega)); exact rfl)
 | ((with_reducible apply r_sub); exact rfl; exact rfl; exact (by first | assumption | (unfold fits; omega)); exact rfl)
 | ((with_reducible apply r_mul); exact rfl; exact rfl; exact (by first | assumption | (unfold fits; omega)); exact rfl)
 | ((with_reducible apply r_len_f); exact rfl; exact inferInstance; exact rfl)
 | ((with_reducible apply r_index_f); exact rfl; exact inferInstance; exact rfl; exact rfl; (first | assumption | omega); exact rfl)
 | ((with_reducible apply r_index_f); exact rfl; exact inferInstance; exact rfl; exact (Int.toNat_of_nonneg (by omega)).symm; (first | assumption | omega); exact rfl)
 | ((with_reducible apply r_load_f0); exact rfl; exact inferInstance; exact List.getElem?_eq_getElem (by first | assumption | omega); exact rfl; exact rfl)
 | ((with_reducible apply r_load_fa); exact rfl; exact inferInstance; exact List.getElem?_eq_getElem (by first | assumption | omega); exact rfl; exact rfl; exact rfl)
 | ((with_reducible apply r_field_e); exact rfl; exact rfl)
 | ((with_reducible apply r_store_pa); exact rfl; exact rfl; exact rfl; exact rfl; exact rfl; exact rfl)
 | ((with_reducible apply r_alloc); exact rfl)
 | (((with_reducible apply aw_cond); exact rfl) <;> intro hg <;> (first | (exact absurd hg (by decide)) | ((try simp only [decide_eq_true_eq, decide_eq_false_iff_not, Bool.not_eq_true', Bool.not_eq_false', Bool.not_true, Bool.not_false, Bool.not_not, Int.not_lt, Int.not_le, Nat.not_lt, Nat.not_le, gt_iff_lt, ge_iff_le, List.cons.injEq, and_true] at hg); first | (exact absurd trivial hg) | (exfalso; omega) | (have hT : True := hg; clear hT hg) | skip)))
 | (refine aw_drawq ?_ ?_; (kernel_rfl))
 | ((with_reducible apply ds_nil))
 | ((with_reducible apply r_max3); exact rfl; exact rfl; exact rfl; exact rfl)
 )
      rw [← hd1, ← hd2, ← hst]
      refine ⟨(j + 1, swN l (j + 1)), ?_, ?_, by refine weak_mk rfl ?_ ?_ <;> repeat (first | exact envW_nil | exact heapW_nil | refine envW_cons rfl rfl ?_ | refine heapW_cons rfl rfl rfl ?_)⟩
      · show l.length - (j + 1) < l.length - j; omega
      · refine ⟨by show j + 1 ≤ _; omega, ?_, ?_, rfl⟩
        · show 0 ≤ swN l (j + 1); rw [hst]; omega
        · show swN l (j + 1) ≤ 2400; rw [hst, hd1, hd2]; unfold distS; omega
    · obtain rfl : j = l.length := by omega
      rw [← ht]
      repeat' (first
 | ((with_reducible apply aw_seq))
 | ((with_reducible apply aw_region))
 | ((with_reducible apply thn_normal))
 | ((with_reducible apply thn_exit))
 | ((with_reducible apply inb_exit))
 | ((with_reducible apply aw_exit))
 | ((with_reducible apply aw_ret))
 | ((with_reducible apply ao_nil))
 | ((with_reducible apply r_move); exact rfl; exact rfl)
 | ((with_reducible apply r_assign); exact rfl; exact rfl)
 | ((with_reducible apply r_lss); exact rfl; exact rfl; exact rfl)
 | ((with_reducible apply r_len_f); exact rfl; exact inferInstance; exact rfl)
 | (((with_reducible apply aw_cond); exact rfl) <;> intro hg <;> (first | (exact absurd hg (by decide)) | ((try simp only [decide_eq_true_eq, decide_eq_false_iff_not, Bool.not_eq_true', Bool.not_eq_false', Bool.not_true, Bool.not_false, Bool.not_not, Int.not_lt, Int.not_le, Nat.not_lt, Nat.not_le, gt_iff_lt, ge_iff_le, List.cons.injEq, and_true] at hg); first | (exact absurd trivial hg) | (exfalso; omega) | (have hT : True := hg; clear hT hg) | skip)))
 )
      exact ret_i rfl rfl
end Go.Proofs.YtkhljpbkebnnmaaGreatDoor.Ge
/- Volumes add up: plain. -/
namespace Go.Proofs.YtkhljpbkebnnmaaGreatDoor.Ge
set_option linter.unusedVariables false
set_option linter.unusedSimpArgs false
open Go.RowKit Go.Proofs.YtkhljpbkebnnmaaGreatDoor.Ev
structure CutI (l : List Slc) (Z : Span) (j : Nat) : Prop where
  v : SolV (cutN l Z j)
  len : pos (cutN l Z j) (cutN l Z j).length = sumN (ovZ l Z) j
  vol : volV (cutN l Z j) = sumN (fun i => ovZ l Z i * areaV (secD l i)) j
structure Holds (X Y : Span) (s : Sec) : Prop where
  row : ∀ i (h : i < s.rows.length), s.rows[i].1 < s.rows[i].2 → X.1 ≤ s.rows[i].1 ∧ s.rows[i].2 ≤ X.2
  low : Y.1 ≤ 10 * s.low
  high : 10 * (s.low + s.rows.length) ≤ Y.2
end Go.Proofs.YtkhljpbkebnnmaaGreatDoor.Ge
