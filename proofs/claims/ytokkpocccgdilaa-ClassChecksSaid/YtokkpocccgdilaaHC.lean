/- Walks of measures: Diameter, Center2, Oval, Top, Taper in both. -/
import Derived.Test.YtokkpocccgdilaaHB
namespace Go.Proofs.Ytokkpocccgdilaa.Ge
set_option linter.unusedVariables false
set_option linter.unusedSimpArgs false
open Go.RowKit Go.Proofs.Ytokkpocccgdilaa.Ev
variable {gl : List (Nat × List CV)}

theorem quo_355 {n : Int} (h : 0 ≤ n) : n.tdiv 355 = n / 355 := Int.tdiv_eq_ediv_of_nonneg h
set_option maxRecDepth 100000 in
set_option maxHeartbeats 4000000 in
theorem dia_con (s : Sec) : Con Try.prog gl 67 [secC s] (I (diaS s)) := by
  have ha := areaS_bd s
  have h1 := area_con (gl := gl) s
  have h2 := root_con (gl := gl) (452 * areaS s / 355) (by omega) (by omega)
  have hq : (452 * areaS s).tdiv 355 = 452 * areaS s / 355 := quo_355 (by omega)
  have hf : fits ((452 * areaS s).tdiv 355) := by rw [hq]; unfold fits; omega
  refine con_of Try.func67 rfl (by kernel_rfl) rfl ?_
  simp only [Try.ntmps67, Try.results67, argEnv, ofC, of1, List.map]
  repeat' (first
    | ((with_reducible apply r_quo); exact rfl; exact rfl; exact (by decide); exact hf; exact rfl)
    | (rw [hq])
    | ((with_reducible apply r_call); exact rfl; exact rfl; (first | exact h1 | exact h2); exact rfl; exact rfl)
    | ((with_reducible apply aw_seq))
    | ((with_reducible apply aw_region))
    | ((with_reducible apply thn_normal))
    | ((with_reducible apply aw_ret))
    | ((with_reducible apply ao_nil))
    | ((with_reducible apply r_assign); exact rfl; exact rfl)
    | ((with_reducible apply r_load_pa); exact rfl; exact rfl; exact rfl; exact rfl; exact rfl)
    | ((with_reducible apply r_mul); exact rfl; exact rfl; exact (by first | assumption | (unfold fits; omega)); exact rfl)
    | ((with_reducible apply r_box_a); exact rfl; exact rfl)
    )
  exact ret_i rfl rfl
set_option maxRecDepth 100000 in
set_option maxHeartbeats 4000000 in
theorem rdia_con (s : Sec) : Con Try.prog gl 57 [secC s] (I (diaS s)) := by
  have ha := areaS_bd s
  have h1 := rarea_con (gl := gl) s
  have hc := rcheck_con (gl := gl) s
  have hq : (452 * areaS s).tdiv 355 = 452 * areaS s / 355 := quo_355 (by omega)
  have hf : fits ((452 * areaS s).tdiv 355) := by rw [hq]; unfold fits; omega
  have hr := dia_is s
  have hb := dia_bd s
  unfold diaS at hr hb ⊢
  have hn : 0 ≤ 452 * areaS s / 355 ∧ 452 * areaS s / 355 ≤ 2000000 := by omega
  by_cases h : secChk s = 0
  · skip
    refine con_of Try.func57 rfl (by kernel_rfl) rfl ?_
    simp only [Try.ntmps57, Try.results57, argEnv, ofC, of1, List.map]
    repeat' (first
      | ((with_reducible apply r_quo); exact rfl; exact rfl; exact (by decide); exact hf; exact rfl)
      | (rw [hq])
      | ((with_reducible apply r_call); exact rfl; exact rfl; (first | exact h1 | exact hc); exact rfl; exact rfl)
      | ((with_reducible apply aw_seq))
      | ((with_reducible apply aw_region))
      | ((with_reducible apply aw_block))
      | ((with_reducible apply thn_normal))
      | ((with_reducible apply ao_nil))
      | ((with_reducible apply r_assign); exact rfl; exact rfl)
      | ((with_reducible apply r_load_pa); exact rfl; exact rfl; exact rfl; exact rfl; exact rfl)
      | ((with_reducible apply r_eql); exact rfl; exact rfl; exact rfl)
      | ((with_reducible apply r_mul); exact rfl; exact rfl; exact (by first | assumption | (unfold fits; omega)); exact rfl)
      | ((with_reducible apply r_box_a); exact rfl; exact rfl)
      | (((with_reducible apply aw_cond); exact rfl) <;> intro hg <;> (first | (exact absurd hg (by decide)) | ((try simp only [decide_eq_true_eq, decide_eq_false_iff_not, Bool.not_eq_true', Bool.not_eq_false', Bool.not_true, Bool.not_false, Bool.not_not, Int.not_lt, Int.not_le, Nat.not_lt, Nat.not_le, gt_iff_lt, ge_iff_le, List.cons.injEq, and_true] at hg); first | (exact absurd trivial hg) | (exfalso; omega) | (have hT : True := hg; clear hT hg) | skip)))
      )
    generalize 452 * areaS s / 355 = n at *
    generalize rootI n = r at *
    obtain ⟨r1, r2, r3⟩ := hr
    refine aw_loopG (G := Nat) (fun (d : Nat) => (d : Int) ≤ r) (fun (d : Nat) => (r - d).toNat) (fun (d : Nat) => [(3, A n), (4, A d)]) (fun (d : Nat) => []) 1 0 ?_ (by refine weak_mk rfl ?_ ?_ <;> repeat (first | exact envW_nil | exact heapW_nil | refine envW_cons rfl rfl ?_ | refine heapW_cons rfl rfl rfl ?_)) rfl ?_
    · exact r1
    rintro d hI
    try dsimp only at hI
    try dsimp only
    have hd : (d : Int) ≤ r := hI
    by_cases hlt : (d : Int) < r
    · have hm : ((d : Int) + 1) * ((d : Int) + 1) ≤ r * r := Int.mul_le_mul (by omega) (by omega) (by omega) (by omega)
      have hm0 : 0 ≤ ((d : Int) + 1) * ((d : Int) + 1) := Int.mul_nonneg (by omega) (by omega)
      have hf1 : fits (((d : Int) + 1) * ((d : Int) + 1)) := by unfold fits; omega
      repeat' (first
        | ((with_reducible apply aw_seq))
        | ((with_reducible apply aw_region))
        | ((with_reducible apply aw_block))
        | ((with_reducible apply thn_normal))
        | ((with_reducible apply inb_normal))
        | ((with_reducible apply aw_skip))
        | ((with_reducible apply ao_nil))
        | ((with_reducible apply r_move); exact rfl; exact rfl)
        | ((with_reducible apply r_assign); exact rfl; exact rfl)
        | ((with_reducible apply r_leq); exact rfl; exact rfl; exact rfl)
        | ((with_reducible apply r_add); exact rfl; exact rfl; exact (by first | assumption | (unfold fits; omega)); exact rfl)
        | ((with_reducible apply r_mul); exact rfl; exact rfl; exact (by first | assumption | (unfold fits; omega)); exact rfl)
        | (((with_reducible apply aw_cond); exact rfl) <;> intro hg <;> (first | (exact absurd hg (by decide)) | ((try simp only [decide_eq_true_eq, decide_eq_false_iff_not, Bool.not_eq_true', Bool.not_eq_false', Bool.not_true, Bool.not_false, Bool.not_not, Int.not_lt, Int.not_le, Nat.not_lt, Nat.not_le, gt_iff_lt, ge_iff_le, List.cons.injEq, and_true] at hg); first | (exact absurd trivial hg) | (exfalso; omega) | (have hT : True := hg; clear hT hg) | skip)))
        )
      refine ⟨d + 1, ?_, ?_, by refine weak_mk rfl ?_ ?_ <;> repeat (first | exact envW_nil | exact heapW_nil | refine envW_cons rfl rfl ?_ | refine heapW_cons rfl rfl rfl ?_)⟩
      · show (r - ((d + 1 : Nat) : Int)).toNat < (r - (d : Int)).toNat; omega
      · show ((d + 1 : Nat) : Int) ≤ r; omega
    · have e : (d : Int) = r := by omega
      rw [← e] at r3
      have hm : ((d : Int) + 1) * ((d : Int) + 1) ≤ 1355 * 1355 := Int.mul_le_mul (by omega) (by omega) (by omega) (by omega)
      have hf1 : fits (((d : Int) + 1) * ((d : Int) + 1)) := by unfold fits; omega
      repeat' (first
        | ((with_reducible apply aw_seq))
        | ((with_reducible apply aw_region))
        | ((with_reducible apply thn_normal))
        | ((with_reducible apply thn_exit))
        | ((with_reducible apply inb_exit))
        | ((with_reducible apply aw_exit))
        | ((with_reducible apply aw_ret))
        | ((with_reducible apply ao_nil))
        | ((with_reducible apply r_move); exact rfl; exact rfl)
        | ((with_reducible apply r_assign); exact rfl; exact rfl)
        | ((with_reducible apply r_leq); exact rfl; exact rfl; exact rfl)
        | ((with_reducible apply r_add); exact rfl; exact rfl; exact (by first | assumption | (unfold fits; omega)); exact rfl)
        | ((with_reducible apply r_mul); exact rfl; exact rfl; exact (by first | assumption | (unfold fits; omega)); exact rfl)
        | (((with_reducible apply aw_cond); exact rfl) <;> intro hg <;> (first | (exact absurd hg (by decide)) | ((try simp only [decide_eq_true_eq, decide_eq_false_iff_not, Bool.not_eq_true', Bool.not_eq_false', Bool.not_true, Bool.not_false, Bool.not_not, Int.not_lt, Int.not_le, Nat.not_lt, Nat.not_le, gt_iff_lt, ge_iff_le, List.cons.injEq, and_true] at hg); first | (exact absurd trivial hg) | (exfalso; omega) | (have hT : True := hg; clear hT hg) | skip)))
        )
      exact ret_i rfl e
  · have h0 : areaS s = 0 := area_no h
    rw [h0] at hr hb ⊢
    have e0 : rootI (452 * 0 / 355) = 0 := (show IsRoot (452 * 0 / 355) 0 from ⟨by decide, by decide, by decide⟩).eq
    rw [e0]
    refine con_of Try.func57 rfl (by kernel_rfl) rfl ?_
    simp only [Try.ntmps57, Try.results57, argEnv, ofC, of1, List.map]
    repeat' (first
      | ((with_reducible apply r_call); exact rfl; exact rfl; exact hc; exact rfl; exact rfl)
      | ((with_reducible apply aw_seq))
      | ((with_reducible apply aw_region))
      | ((with_reducible apply aw_block))
      | ((with_reducible apply thn_normal))
      | ((with_reducible apply aw_skip))
      | ((with_reducible apply ao_nil))
      | ((with_reducible apply r_assign); exact rfl; exact rfl)
      | ((with_reducible apply r_load_pa); exact rfl; exact rfl; exact rfl; exact rfl; exact rfl)
      | ((with_reducible apply r_eql); exact rfl; exact rfl; exact rfl)
      | ((with_reducible apply r_box_a); exact rfl; exact rfl)
      | (((with_reducible apply aw_cond); exact rfl) <;> intro hg <;> (first | (exact absurd hg (by decide)) | ((try simp only [decide_eq_true_eq, decide_eq_false_iff_not, Bool.not_eq_true', Bool.not_eq_false', Bool.not_true, Bool.not_false, Bool.not_not, Int.not_lt, Int.not_le, Nat.not_lt, Nat.not_le, gt_iff_lt, ge_iff_le, List.cons.injEq, and_true] at hg); first | (exact absurd trivial hg) | (exfalso; omega) | (have hT : True := hg; clear hT hg) | skip)))
      )
    refine aw_loopG (G := Nat) (fun (d : Nat) => d = 0) (fun (d : Nat) => d) (fun (d : Nat) => [(3, A 0), (4, A d)]) (fun (d : Nat) => []) 1 0 ?_ (by refine weak_mk rfl ?_ ?_ <;> repeat (first | exact envW_nil | exact heapW_nil | refine envW_cons rfl rfl ?_ | refine heapW_cons rfl rfl rfl ?_)) rfl ?_
    · exact rfl
    rintro d hI
    try dsimp only at hI
    try dsimp only
    have hd : d = 0 := hI
    subst hd
    repeat' (first
      | ((with_reducible apply aw_seq))
      | ((with_reducible apply aw_region))
      | ((with_reducible apply thn_normal))
      | ((with_reducible apply thn_exit))
      | ((with_reducible apply inb_exit))
      | ((with_reducible apply aw_exit))
      | ((with_reducible apply aw_ret))
      | ((with_reducible apply ao_nil))
      | ((with_reducible apply r_move); exact rfl; exact rfl)
      | ((with_reducible apply r_assign); exact rfl; exact rfl)
      | ((with_reducible apply r_leq); exact rfl; exact rfl; exact rfl)
      | ((with_reducible apply r_add); exact rfl; exact rfl; exact (by first | assumption | (unfold fits; omega)); exact rfl)
      | ((with_reducible apply r_mul); exact rfl; exact rfl; exact (by first | assumption | (unfold fits; omega)); exact rfl)
      | (((with_reducible apply aw_cond); exact rfl) <;> intro hg <;> (first | (exact absurd hg (by decide)) | ((try simp only [decide_eq_true_eq, decide_eq_false_iff_not, Bool.not_eq_true', Bool.not_eq_false', Bool.not_true, Bool.not_false, Bool.not_not, Int.not_lt, Int.not_le, Nat.not_lt, Nat.not_le, gt_iff_lt, ge_iff_le, List.cons.injEq, and_true] at hg); first | (exact absurd trivial hg) | (exfalso; omega) | (have hT : True := hg; clear hT hg) | skip)))
      )
    exact ret_i rfl rfl
theorem cen_con (s : Sec) : Con Try.prog gl 69 [secC s] (.agg [I (cenX s), I (cenY s)]) := by
  have h1 := bounds_con (gl := gl) s
  have hb := bd_bd s
  refine con_of Try.func69 rfl (by kernel_rfl) rfl ?_
  simp only [Try.ntmps69, Try.results69, argEnv, ofC, of1, List.map]
  repeat' (first
    | ((with_reducible apply r_call); exact rfl; exact rfl; exact h1; exact rfl; exact rfl)
    | ((with_reducible apply aw_seq))
    | ((with_reducible apply aw_region))
    | ((with_reducible apply thn_normal))
    | ((with_reducible apply aw_ret))
    | ((with_reducible apply ao_nil))
    | ((with_reducible apply r_field_p); exact rfl; exact rfl)
    | ((with_reducible apply r_load_p); exact rfl; exact rfl; exact rfl; exact rfl)
    | ((with_reducible apply r_load_pa); exact rfl; exact rfl; exact rfl; exact rfl; exact rfl)
    | ((with_reducible apply r_add); exact rfl; exact rfl; exact (by first | assumption | (unfold fits; omega)); exact rfl)
    | ((with_reducible apply r_box_a); exact rfl; exact rfl)
    | ((with_reducible apply r_store_pa); exact rfl; exact rfl; exact rfl; exact rfl; exact rfl; exact rfl)
    | ((with_reducible apply r_build); exact rfl; exact rfl; exact rfl)
    | ((with_reducible apply r_alloc); exact rfl)
    )
  exact ret1 (.cell_a inferInstance rfl rfl rfl rfl (cl_cons cl_c (cl_cons cl_c cl_nil)))
theorem rbnd_con (s : Sec) : Con Try.prog gl 75 [secC s] (rectC (bdS s)) := by
  have h1 := rbounds_con (gl := gl) s
  have hc := rcheck_con (gl := gl) s
  by_cases h : secChk s = 0
  · skip
    refine con_of Try.func75 rfl (by kernel_rfl) rfl ?_
    simp only [Try.ntmps75, Try.results75, argEnv, ofC, of1, List.map]
    repeat' (first
      | ((with_reducible apply r_call); exact rfl; exact rfl; (first | exact h1 | exact hc); exact rfl; exact rfl)
      | ((with_reducible apply aw_seq))
      | ((with_reducible apply aw_region))
      | ((with_reducible apply thn_normal))
      | ((with_reducible apply aw_skip))
      | ((with_reducible apply aw_ret))
      | ((with_reducible apply ao_nil))
      | ((with_reducible apply r_load_pa); exact rfl; exact rfl; exact rfl; exact rfl; exact rfl)
      | ((with_reducible apply r_neq); exact rfl; exact rfl; exact rfl)
      | ((with_reducible apply r_box_a); exact rfl; exact rfl)
      | ((with_reducible apply r_store_pa); exact rfl; exact rfl; exact rfl; exact rfl; exact rfl; exact rfl)
      | ((with_reducible apply r_alloc); exact rfl)
      | (((with_reducible apply aw_cond); exact rfl) <;> intro hg <;> (first | (exact absurd hg (by decide)) | ((try simp only [decide_eq_true_eq, decide_eq_false_iff_not, Bool.not_eq_true', Bool.not_eq_false', Bool.not_true, Bool.not_false, Bool.not_not, Int.not_lt, Int.not_le, Nat.not_lt, Nat.not_le, gt_iff_lt, ge_iff_le, List.cons.injEq, and_true] at hg); first | (exact absurd trivial hg) | (exfalso; omega) | (have hT : True := hg; clear hT hg) | skip)))
      )
    exact ret1 (.cell_a inferInstance rfl rfl rfl rfl (cl_cons cl_c (cl_cons cl_c (cl_cons cl_c (cl_cons cl_c cl_nil)))))
  · rw [bd_no h]
    refine con_of Try.func75 rfl (by kernel_rfl) rfl ?_
    simp only [Try.ntmps75, Try.results75, argEnv, ofC, of1, List.map]
    repeat' (first
      | ((with_reducible apply r_call); exact rfl; exact rfl; exact hc; exact rfl; exact rfl)
      | ((with_reducible apply aw_seq))
      | ((with_reducible apply aw_region))
      | ((with_reducible apply thn_normal))
      | ((with_reducible apply thn_ret))
      | ((with_reducible apply aw_ret))
      | ((with_reducible apply ao_nil))
      | ((with_reducible apply r_load_pa); exact rfl; exact rfl; exact rfl; exact rfl; exact rfl)
      | ((with_reducible apply r_neq); exact rfl; exact rfl; exact rfl)
      | ((with_reducible apply r_box_a); exact rfl; exact rfl)
      | ((with_reducible apply r_store_pa); exact rfl; exact rfl; exact rfl; exact rfl; exact rfl; exact rfl)
      | ((with_reducible apply r_build); exact rfl; exact rfl; exact rfl)
      | ((with_reducible apply r_alloc); exact rfl)
      | (((with_reducible apply aw_cond); exact rfl) <;> intro hg <;> (first | (exact absurd hg (by decide)) | ((try simp only [decide_eq_true_eq, decide_eq_false_iff_not, Bool.not_eq_true', Bool.not_eq_false', Bool.not_true, Bool.not_false, Bool.not_not, Int.not_lt, Int.not_le, Nat.not_lt, Nat.not_le, gt_iff_lt, ge_iff_le, List.cons.injEq, and_true] at hg); first | (exact absurd trivial hg) | (exfalso; omega) | (have hT : True := hg; clear hT hg) | skip)))
      )
    exact ret1 (.cell_a inferInstance rfl rfl rfl rfl (cl_cons cl_c (cl_cons cl_c (cl_cons cl_c (cl_cons cl_c cl_nil)))))
theorem rcen_con (s : Sec) : Con Try.prog gl 59 [secC s] (.agg [I (cenX s), I (cenY s)]) := by
  have h1 := rbnd_con (gl := gl) s
  have hb := bd_bd s
  refine con_of Try.func59 rfl (by kernel_rfl) rfl ?_
  simp only [Try.ntmps59, Try.results59, argEnv, ofC, of1, List.map]
  repeat' (first
    | ((with_reducible apply r_call); exact rfl; exact rfl; exact h1; exact rfl; exact rfl)
    | ((with_reducible apply aw_seq))
    | ((with_reducible apply aw_region))
    | ((with_reducible apply thn_normal))
    | ((with_reducible apply aw_ret))
    | ((with_reducible apply ao_nil))
    | ((with_reducible apply r_field_p); exact rfl; exact rfl)
    | ((with_reducible apply r_load_p); exact rfl; exact rfl; exact rfl; exact rfl)
    | ((with_reducible apply r_load_pa); exact rfl; exact rfl; exact rfl; exact rfl; exact rfl)
    | ((with_reducible apply r_add); exact rfl; exact rfl; exact (by first | assumption | (unfold fits; omega)); exact rfl)
    | ((with_reducible apply r_box_a); exact rfl; exact rfl)
    | ((with_reducible apply r_store_pa); exact rfl; exact rfl; exact rfl; exact rfl; exact rfl; exact rfl)
    | ((with_reducible apply r_build); exact rfl; exact rfl; exact rfl)
    | ((with_reducible apply r_alloc); exact rfl)
    )
  exact ret1 (.cell_a inferInstance rfl rfl rfl rfl (cl_cons cl_c (cl_cons cl_c cl_nil)))
theorem last_con (l : List Slc) (h : 0 < l.length) : ((l.length : Int) - 1).toNat = l.length - 1 := by omega
set_option maxRecDepth 100000 in
set_option maxHeartbeats 4000000 in
theorem top_con (l : List Slc) (hn : l.length ≤ maxLen) : Con Try.prog gl 48 [LL l] (I (topS l)) := by
  have hc := scheck_con (gl := gl) l hn
  unfold topS
  by_cases h : solChk l = 0
  · rw [if_pos h]
    have hp := sol_pos h
    have hu := (sol_V h).n
    have hd := dia_con (gl := gl) (l[((l.length : Int) - 1).toNat]'(by omega)).sec
    have e : secD l (l.length - 1) = (l[((l.length : Int) - 1).toNat]'(by omega)).sec := by
      have := secD_eq (l := l) (i := ((l.length : Int) - 1).toNat) (by omega)
      rw [← this, last_con l hp]
    rw [e]
    refine con_of Try.func48 rfl (by kernel_rfl) rfl ?_
    simp only [Try.ntmps48, Try.results48, argEnv, ofC, of1, List.map]
    repeat' (first
      | ((with_reducible apply r_call); exact rfl; exact rfl; (first | exact hc | exact hd); exact rfl; exact rfl)
      | ((with_reducible apply (r_field_e2 (j := 1))); exact rfl; exact rfl)
      | ((with_reducible apply aw_seq))
      | ((with_reducible apply aw_region))
      | ((with_reducible apply thn_normal))
      | ((with_reducible apply aw_skip))
      | ((with_reducible apply aw_ret))
      | ((with_reducible apply ao_nil))
      | ((with_reducible apply r_move); exact rfl; exact rfl)
      | ((with_reducible apply r_assign); exact rfl; exact rfl)
      | ((with_reducible apply r_neq); exact rfl; exact rfl; exact rfl)
      | ((with_reducible apply r_sub); exact rfl; exact rfl; exact (by first | assumption | (unfold fits; omega)); exact rfl)
      | ((with_reducible apply r_len_f); exact rfl; exact inferInstance; exact rfl)
      | ((with_reducible apply r_index_f); exact rfl; exact inferInstance; exact rfl; exact (Int.toNat_of_nonneg (by omega)).symm; (first | assumption | omega); exact rfl)
      | ((with_reducible apply r_load_fa); exact rfl; exact inferInstance; exact List.getElem?_eq_getElem (by first | assumption | omega); exact rfl; exact rfl; exact rfl)
      | ((with_reducible apply r_field_e); exact rfl; exact rfl)
      | (((with_reducible apply aw_cond); exact rfl) <;> intro hg <;> (first | (exact absurd hg (by decide)) | ((try simp only [decide_eq_true_eq, decide_eq_false_iff_not, Bool.not_eq_true', Bool.not_eq_false', Bool.not_true, Bool.not_false, Bool.not_not, Int.not_lt, Int.not_le, Nat.not_lt, Nat.not_le, gt_iff_lt, ge_iff_le, List.cons.injEq, and_true] at hg); first | (exact absurd trivial hg) | (exfalso; omega) | (have hT : True := hg; clear hT hg) | skip)))
      )
    exact ret_i rfl rfl
  · rw [if_neg h]
    refine con_of Try.func48 rfl (by kernel_rfl) rfl ?_
    simp only [Try.ntmps48, Try.results48, argEnv, ofC, of1, List.map]
    repeat' (first
      | ((with_reducible apply r_call); exact rfl; exact rfl; exact hc; exact rfl; exact rfl)
      | ((with_reducible apply aw_seq))
      | ((with_reducible apply aw_region))
      | ((with_reducible apply thn_normal))
      | ((with_reducible apply thn_ret))
      | ((with_reducible apply aw_ret))
      | ((with_reducible apply ao_nil))
      | ((with_reducible apply r_move); exact rfl; exact rfl)
      | ((with_reducible apply r_assign); exact rfl; exact rfl)
      | ((with_reducible apply r_neq); exact rfl; exact rfl; exact rfl)
      | (((with_reducible apply aw_cond); exact rfl) <;> intro hg <;> (first | (exact absurd hg (by decide)) | ((try simp only [decide_eq_true_eq, decide_eq_false_iff_not, Bool.not_eq_true', Bool.not_eq_false', Bool.not_true, Bool.not_false, Bool.not_not, Int.not_lt, Int.not_le, Nat.not_lt, Nat.not_le, gt_iff_lt, ge_iff_le, List.cons.injEq, and_true] at hg); first | (exact absurd trivial hg) | (exfalso; omega) | (have hT : True := hg; clear hT hg) | skip)))
      )
    exact ret_i rfl rfl
set_option maxRecDepth 100000 in
set_option maxHeartbeats 4000000 in
theorem rtop_con (l : List Slc) (hn : l.length ≤ maxLen) : Con Try.prog gl 34 [LL l] (I (topS l)) := by
  have hc := rscheck_con (gl := gl) l hn
  unfold topS
  by_cases h : solChk l = 0
  · rw [if_pos h]
    have hp := sol_pos h
    have hu := (sol_V h).n
    have hd := rdia_con (gl := gl) (l[((l.length : Int) - 1).toNat]'(by omega)).sec
    have e : secD l (l.length - 1) = (l[((l.length : Int) - 1).toNat]'(by omega)).sec := by
      have := secD_eq (l := l) (i := ((l.length : Int) - 1).toNat) (by omega)
      rw [← this, last_con l hp]
    rw [e]
    refine con_of Try.func34 rfl (by kernel_rfl) rfl ?_
    simp only [Try.ntmps34, Try.results34, argEnv, ofC, of1, List.map]
    repeat' (first
      | ((with_reducible apply r_call); exact rfl; exact rfl; (first | exact hc | exact hd); exact rfl; exact rfl)
      | ((with_reducible apply (r_field_e2 (j := 1))); exact rfl; exact rfl)
      | ((with_reducible apply aw_seq))
      | ((with_reducible apply aw_region))
      | ((with_reducible apply thn_normal))
      | ((with_reducible apply aw_skip))
      | ((with_reducible apply aw_ret))
      | ((with_reducible apply ao_nil))
      | ((with_reducible apply r_move); exact rfl; exact rfl)
      | ((with_reducible apply r_assign); exact rfl; exact rfl)
      | ((with_reducible apply r_neq); exact rfl; exact rfl; exact rfl)
      | ((with_reducible apply r_sub); exact rfl; exact rfl; exact (by first | assumption | (unfold fits; omega)); exact rfl)
      | ((with_reducible apply r_len_f); exact rfl; exact inferInstance; exact rfl)
      | ((with_reducible apply r_index_f); exact rfl; exact inferInstance; exact rfl; exact (Int.toNat_of_nonneg (by omega)).symm; (first | assumption | omega); exact rfl)
      | ((with_reducible apply r_load_fa); exact rfl; exact inferInstance; exact List.getElem?_eq_getElem (by first | assumption | omega); exact rfl; exact rfl; exact rfl)
      | ((with_reducible apply r_field_e); exact rfl; exact rfl)
      | (((with_reducible apply aw_cond); exact rfl) <;> intro hg <;> (first | (exact absurd hg (by decide)) | ((try simp only [decide_eq_true_eq, decide_eq_false_iff_not, Bool.not_eq_true', Bool.not_eq_false', Bool.not_true, Bool.not_false, Bool.not_not, Int.not_lt, Int.not_le, Nat.not_lt, Nat.not_le, gt_iff_lt, ge_iff_le, List.cons.injEq, and_true] at hg); first | (exact absurd trivial hg) | (exfalso; omega) | (have hT : True := hg; clear hT hg) | skip)))
      )
    exact ret_i rfl rfl
  · rw [if_neg h]
    refine con_of Try.func34 rfl (by kernel_rfl) rfl ?_
    simp only [Try.ntmps34, Try.results34, argEnv, ofC, of1, List.map]
    repeat' (first
      | ((with_reducible apply r_call); exact rfl; exact rfl; exact hc; exact rfl; exact rfl)
      | ((with_reducible apply aw_seq))
      | ((with_reducible apply aw_region))
      | ((with_reducible apply thn_normal))
      | ((with_reducible apply thn_ret))
      | ((with_reducible apply aw_ret))
      | ((with_reducible apply ao_nil))
      | ((with_reducible apply r_move); exact rfl; exact rfl)
      | ((with_reducible apply r_assign); exact rfl; exact rfl)
      | ((with_reducible apply r_neq); exact rfl; exact rfl; exact rfl)
      | (((with_reducible apply aw_cond); exact rfl) <;> intro hg <;> (first | (exact absurd hg (by decide)) | ((try simp only [decide_eq_true_eq, decide_eq_false_iff_not, Bool.not_eq_true', Bool.not_eq_false', Bool.not_true, Bool.not_false, Bool.not_not, Int.not_lt, Int.not_le, Nat.not_lt, Nat.not_le, gt_iff_lt, ge_iff_le, List.cons.injEq, and_true] at hg); first | (exact absurd trivial hg) | (exfalso; omega) | (have hT : True := hg; clear hT hg) | skip)))
      )
    exact ret_i rfl rfl
theorem lengthS_ok {l : List Slc} (h : solChk l = 0) : lengthS l = pos l l.length := by unfold lengthS; rw [valL_ok h]
theorem len_pos {l : List Slc} (h : solChk l = 0) : 1 ≤ pos l l.length ∧ pos l l.length ≤ 20000 := by
  have v := sol_V h
  have hp := sol_pos h
  have h1 := pos_mono v (l.length - 1) 1 (by omega)
  rw [show 1 + (l.length - 1) = l.length by omega, pos_succ, lenD_eq hp] at h1
  have h2 := v.one 0 hp
  have h3 : pos l 0 = 0 := rfl
  have := v.all
  omega
set_option maxRecDepth 100000 in
set_option maxHeartbeats 4000000 in
theorem taper_con (l : List Slc) (hn : l.length ≤ maxLen) : Con Try.prog gl 51 [LL l] (I (taperS l)) := by
  have hc := scheck_con (gl := gl) l hn
  have ht := top_con (gl := gl) l hn
  have hl := slength_con (gl := gl) l hn
  by_cases h : solChk l = 0
  · have hp := sol_pos h
    have hd := dia_con (gl := gl) (l[0]'hp).sec
    rw [lengthS_ok h] at hl
    have hlb := len_pos h
    have e1 : topS l = diaS (secD l (l.length - 1)) := if_pos h
    rw [e1] at ht
    have e2 : taperS l = max (0 : Int) (diaS (l[0]'hp).sec - diaS (secD l (l.length - 1))) * 10000 / pos l l.length := by unfold taperS; rw [if_pos h, secD_eq hp]
    rw [e2]
    have b1 := dia_bd (l[0]'hp).sec
    have b2 := dia_bd (secD l (l.length - 1))
    generalize diaS (secD l (l.length - 1)) = dt at *
    generalize diaS (l[0]'hp).sec = d0 at *
    generalize pos l l.length = n at *
    have hq : (max 0 (d0 - dt) * 10000).tdiv n = max 0 (d0 - dt) * 10000 / n := Int.tdiv_eq_ediv_of_nonneg (by omega)
    have hf : fits ((max 0 (d0 - dt) * 10000).tdiv n) := by
      have := quo_bd (a := max 0 (d0 - dt) * 10000) (b := n) (by omega) (by omega)
      unfold fits; omega
    refine con_of Try.func51 rfl (by kernel_rfl) rfl ?_
    simp only [Try.ntmps51, Try.results51, argEnv, ofC, of1, List.map]
    repeat' (first
      | ((with_reducible apply (r_index_f (k := 0))); exact rfl; exact inferInstance; exact rfl; exact rfl; (omega); exact rfl)
      | ((with_reducible apply r_quo); exact rfl; exact rfl; exact (by omega); exact hf; exact rfl)
      | (rw [hq])
      | ((with_reducible apply r_call); exact rfl; exact rfl; (first | exact hc | exact hd | exact ht | exact hl); exact rfl; exact rfl)
      | ((with_reducible apply aw_seq))
      | ((with_reducible apply aw_region))
      | ((with_reducible apply thn_normal))
      | ((with_reducible apply aw_skip))
      | ((with_reducible apply aw_ret))
      | ((with_reducible apply ao_nil))
      | ((with_reducible apply r_move); exact rfl; exact rfl)
      | ((with_reducible apply r_assign); exact rfl; exact rfl)
      | ((with_reducible apply r_neq); exact rfl; exact rfl; exact rfl)
      | ((with_reducible apply r_sub); exact rfl; exact rfl; exact (by first | assumption | (unfold fits; omega)); exact rfl)
      | ((with_reducible apply r_mul); exact rfl; exact rfl; exact (by first | assumption | (unfold fits; omega)); exact rfl)
      | ((with_reducible apply r_max); exact rfl; exact rfl; exact rfl)
      | ((with_reducible apply r_load_fa); exact rfl; exact inferInstance; exact List.getElem?_eq_getElem (by first | assumption | omega); exact rfl; exact rfl; exact rfl)
      | ((with_reducible apply r_field_e); exact rfl; exact rfl)
      | (((with_reducible apply aw_cond); exact rfl) <;> intro hg <;> (first | (exact absurd hg (by decide)) | ((try simp only [decide_eq_true_eq, decide_eq_false_iff_not, Bool.not_eq_true', Bool.not_eq_false', Bool.not_true, Bool.not_false, Bool.not_not, Int.not_lt, Int.not_le, Nat.not_lt, Nat.not_le, gt_iff_lt, ge_iff_le, List.cons.injEq, and_true] at hg); first | (exact absurd trivial hg) | (exfalso; omega) | (have hT : True := hg; clear hT hg) | skip)))
      )
    exact ret_i rfl rfl
  · have e : taperS l = 0 := if_neg h
    rw [e]
    refine con_of Try.func51 rfl (by kernel_rfl) rfl ?_
    simp only [Try.ntmps51, Try.results51, argEnv, ofC, of1, List.map]
    repeat' (first
      | ((with_reducible apply r_call); exact rfl; exact rfl; exact hc; exact rfl; exact rfl)
      | ((with_reducible apply aw_seq))
      | ((with_reducible apply aw_region))
      | ((with_reducible apply thn_normal))
      | ((with_reducible apply thn_ret))
      | ((with_reducible apply aw_ret))
      | ((with_reducible apply ao_nil))
      | ((with_reducible apply r_move); exact rfl; exact rfl)
      | ((with_reducible apply r_assign); exact rfl; exact rfl)
      | ((with_reducible apply r_neq); exact rfl; exact rfl; exact rfl)
      | (((with_reducible apply aw_cond); exact rfl) <;> intro hg <;> (first | (exact absurd hg (by decide)) | ((try simp only [decide_eq_true_eq, decide_eq_false_iff_not, Bool.not_eq_true', Bool.not_eq_false', Bool.not_true, Bool.not_false, Bool.not_not, Int.not_lt, Int.not_le, Nat.not_lt, Nat.not_le, gt_iff_lt, ge_iff_le, List.cons.injEq, and_true] at hg); first | (exact absurd trivial hg) | (exfalso; omega) | (have hT : True := hg; clear hT hg) | skip)))
      )
    exact ret_i rfl rfl
set_option maxRecDepth 100000 in
set_option maxHeartbeats 4000000 in
theorem rtaper_con (l : List Slc) (hn : l.length ≤ maxLen) : Con Try.prog gl 36 [LL l] (I (taperS l)) := by
  have hc := rscheck_con (gl := gl) l hn
  have ht := rtop_con (gl := gl) l hn
  have hl := rslength_con (gl := gl) l hn
  by_cases h : solChk l = 0
  · have hp := sol_pos h
    have hd := rdia_con (gl := gl) (l[0]'hp).sec
    rw [lengthS_ok h] at hl
    have hlb := len_pos h
    have e1 : topS l = diaS (secD l (l.length - 1)) := if_pos h
    rw [e1] at ht
    have e2 : taperS l = max (0 : Int) (diaS (l[0]'hp).sec - diaS (secD l (l.length - 1))) * 10000 / pos l l.length := by unfold taperS; rw [if_pos h, secD_eq hp]
    rw [e2]
    have b1 := dia_bd (l[0]'hp).sec
    have b2 := dia_bd (secD l (l.length - 1))
    generalize diaS (secD l (l.length - 1)) = dt at *
    generalize diaS (l[0]'hp).sec = d0 at *
    generalize pos l l.length = n at *
    have hr := rfloor_con (gl := gl) ((d0 - dt) * 10000) n (by omega) (by omega)
    have hq : max 0 ((d0 - dt) * 10000 / n) = max 0 (d0 - dt) * 10000 / n := by
      by_cases hh : 0 ≤ d0 - dt
      · have h0 : 0 ≤ (d0 - dt) * 10000 / n := Int.ediv_nonneg (by omega) (by omega)
        rw [show max 0 (d0 - dt) = d0 - dt by omega]; omega
      · have h0 : (d0 - dt) * 10000 / n < 0 := Int.ediv_neg_of_neg_of_pos (by omega) (by omega)
        rw [show max 0 (d0 - dt) = 0 by omega, Int.zero_mul, Int.zero_ediv]; omega
    refine con_of Try.func36 rfl (by kernel_rfl) rfl ?_
    simp only [Try.ntmps36, Try.results36, argEnv, ofC, of1, List.map]
    repeat' (first
      | ((with_reducible apply (r_index_f (k := 0))); exact rfl; exact inferInstance; exact rfl; exact rfl; (omega); exact rfl)
      | ((with_reducible apply r_call); exact rfl; exact rfl; (first | exact hc | exact hd | exact ht | exact hl | exact hr); exact rfl; exact rfl)
      | ((with_reducible apply aw_seq))
      | ((with_reducible apply aw_region))
      | ((with_reducible apply thn_normal))
      | ((with_reducible apply aw_skip))
      | ((with_reducible apply aw_ret))
      | ((with_reducible apply ao_nil))
      | ((with_reducible apply r_move); exact rfl; exact rfl)
      | ((with_reducible apply r_assign); exact rfl; exact rfl)
      | ((with_reducible apply r_neq); exact rfl; exact rfl; exact rfl)
      | ((with_reducible apply r_sub); exact rfl; exact rfl; exact (by first | assumption | (unfold fits; omega)); exact rfl)
      | ((with_reducible apply r_mul); exact rfl; exact rfl; exact (by first | assumption | (unfold fits; omega)); exact rfl)
      | ((with_reducible apply r_max); exact rfl; exact rfl; exact rfl)
      | ((with_reducible apply r_load_fa); exact rfl; exact inferInstance; exact List.getElem?_eq_getElem (by first | assumption | omega); exact rfl; exact rfl; exact rfl)
      | ((with_reducible apply r_field_e); exact rfl; exact rfl)
      | (((with_reducible apply aw_cond); exact rfl) <;> intro hg <;> (first | (exact absurd hg (by decide)) | ((try simp only [decide_eq_true_eq, decide_eq_false_iff_not, Bool.not_eq_true', Bool.not_eq_false', Bool.not_true, Bool.not_false, Bool.not_not, Int.not_lt, Int.not_le, Nat.not_lt, Nat.not_le, gt_iff_lt, ge_iff_le, List.cons.injEq, and_true] at hg); first | (exact absurd trivial hg) | (exfalso; omega) | (have hT : True := hg; clear hT hg) | skip)))
      )
    exact ret_i rfl hq
  · have e : taperS l = 0 := if_neg h
    rw [e]
    refine con_of Try.func36 rfl (by kernel_rfl) rfl ?_
    simp only [Try.ntmps36, Try.results36, argEnv, ofC, of1, List.map]
    repeat' (first
      | ((with_reducible apply r_call); exact rfl; exact rfl; exact hc; exact rfl; exact rfl)
      | ((with_reducible apply aw_seq))
      | ((with_reducible apply aw_region))
      | ((with_reducible apply thn_normal))
      | ((with_reducible apply thn_ret))
      | ((with_reducible apply aw_ret))
      | ((with_reducible apply ao_nil))
      | ((with_reducible apply r_move); exact rfl; exact rfl)
      | ((with_reducible apply r_assign); exact rfl; exact rfl)
      | ((with_reducible apply r_neq); exact rfl; exact rfl; exact rfl)
      | (((with_reducible apply aw_cond); exact rfl) <;> intro hg <;> (first | (exact absurd hg (by decide)) | ((try simp only [decide_eq_true_eq, decide_eq_false_iff_not, Bool.not_eq_true', Bool.not_eq_false', Bool.not_true, Bool.not_false, Bool.not_not, Int.not_lt, Int.not_le, Nat.not_lt, Nat.not_le, gt_iff_lt, ge_iff_le, List.cons.injEq, and_true] at hg); first | (exact absurd trivial hg) | (exfalso; omega) | (have hT : True := hg; clear hT hg) | skip)))
      )
    exact ret_i rfl rfl
end Go.Proofs.Ytokkpocccgdilaa.Ge
