/- HB HC: texts laid together. -/
import Derived.Test.YtkhljpbkebnnmaaDoorMrgG3
import Derived.Test.YtkhljpbkebnnmaaDoorMrgE6
/- Walks of measures: Root, Floor, Diameter, Center2, Oval in both. -/
namespace Go.Proofs.YtkhljpbkebnnmaaDoor.Ge
set_option linter.unusedVariables false
set_option linter.unusedSimpArgs false
open Go.RowKit Go.Proofs.YtkhljpbkebnnmaaDoor.Ev
variable {gl : List (Nat × List CV)}

theorem u64_id {n : Int} (h : 0 ≤ n ∧ n < 18446744073709551616) : IntKind.u64.wrap n = n := by rw [u64_wrap]; omega
theorem i64_id {n : Int} (h : -9223372036854775808 ≤ n ∧ n < 9223372036854775808) : IntKind.i64.wrap n = n := by simp [IntKind.wrap, IntKind.bits, IntKind.signed]; omega
set_option maxRecDepth 100000 in
set_option maxHeartbeats 4000000 in
theorem root_con (n : Int) (h0 : 0 ≤ n) (h1 : n < 9223372036854775808) : Con Tryd.prog gl 83 [I n] (I (rootI n)) := by
  refine con_of Tryd.func83 rfl (by kernel_rfl) rfl ?_
  simp only [Tryd.ntmps83, Tryd.results83, argEnv, ofC, of1, List.map]
  repeat' (first
 | ((with_reducible apply aw_seq))
 | ((with_reducible apply aw_region))
 | ((with_reducible apply aw_block))
 | ((with_reducible apply thn_normal))
 | ((with_reducible apply aw_skip))
 | ((with_reducible apply ao_nil))
 | ((with_reducible apply r_move); exact rfl; exact rfl)
 | ((with_reducible apply r_assign); exact rfl; exact rfl)
 | ((with_reducible apply r_lss); exact rfl; exact rfl; exact rfl)
 | (((with_reducible apply aw_cond); exact rfl) <;> intro hg <;> (first | (exact absurd hg (by decide)) | ((try simp only [decide_eq_true_eq, decide_eq_false_iff_not, Bool.not_eq_true', Bool.not_eq_false', Bool.not_true, Bool.not_false, Bool.not_not, Int.not_lt, Int.not_le, Nat.not_lt, Nat.not_le, gt_iff_lt, ge_iff_le, List.cons.injEq, and_true] at hg); first | (exact absurd trivial hg) | (exfalso; omega) | (have hT : True := hg; clear hT hg) | skip)))
    )
  refine aw_loopG (G := Nat × Int × Int) (fun ((k, R, B) : Nat × Int × Int) => k ≤ 32 ∧ B = bitAt k ∧ RInv n k R) (fun ((k, R, B) : Nat × Int × Int) => 32 - k) (fun ((k, R, B) : Nat × Int × Int) => [(0, A n), (3, .c (.v (.int .u64 R))), (4, .c (.v (.int .u64 B)))]) (fun ((k, R, B) : Nat × Int × Int) => []) 0 (0, 0, 2147483648) ?_ (by refine weak_mk rfl ?_ ?_ <;> repeat (first | exact envW_nil | exact heapW_nil | refine envW_cons rfl rfl ?_ | refine heapW_cons rfl rfl rfl ?_)) rfl ?_
  · exact ⟨Nat.zero_le _, by decide, .start h0 h1⟩
  rintro ⟨k, R, B⟩ hI
  try dsimp only at hI
  try dsimp only
  obtain ⟨hk, hB, hinv⟩ := hI
  by_cases hlt : k < 32
  · obtain ⟨B', hB', hp, hle, hR0, hsum, hor, hhalf, hyes, hno⟩ := root_step hlt hinv
    obtain rfl : B = B' := by rw [hB, hB']
    have hm1 : 0 ≤ (R + B) * (R + B) := Int.mul_nonneg (by omega) (by omega)
    have hm2 : (R + B) * (R + B) ≤ 4294967295 * 4294967295 := Int.mul_le_mul (by omega) (by omega) (by omega) (by omega)
    have hw1 : IntKind.u64.wrap ((R + B) * (R + B)) = (R + B) * (R + B) := u64_id ⟨by omega, by omega⟩
    have hw2 : IntKind.u64.wrap n = n := u64_id ⟨by omega, by omega⟩
    have hsh : B / 2 ^ (1 : Int).toNat = bitAt (k + 1) := hhalf
    clear hinv
    by_cases hc : (R + B) * (R + B) ≤ n
    · have HI := hyes hc
      clear hyes hno
      repeat' (first
 | ((with_reducible apply r_or); exact rfl; exact rfl; exact rfl)
 | (rw [hor])
 | ((with_reducible apply r_mul_w); exact rfl; exact rfl; exact rfl)
 | (rw [hw1])
 | ((with_reducible apply r_conv); exact rfl; exact hw2; exact rfl)
 | ((with_reducible apply r_shr); exact rfl; exact rfl; exact (by decide); exact (by decide); exact rfl)
 | (rw [hsh])
 | ((with_reducible apply aw_seq))
 | ((with_reducible apply aw_region))
 | ((with_reducible apply aw_block))
 | ((with_reducible apply thn_normal))
 | ((with_reducible apply inb_normal))
 | ((with_reducible apply aw_skip))
 | ((with_reducible apply ao_nil))
 | ((with_reducible apply r_move); exact rfl; exact rfl)
 | ((with_reducible apply r_assign); exact rfl; exact rfl)
 | ((with_reducible apply r_leq); exact rfl; exact rfl; exact rfl)
 | ((with_reducible apply r_gtr); exact rfl; exact rfl; exact rfl)
 | (((with_reducible apply aw_cond); exact rfl) <;> intro hg <;> (first | (exact absurd hg (by decide)) | ((try simp only [decide_eq_true_eq, decide_eq_false_iff_not, Bool.not_eq_true', Bool.not_eq_false', Bool.not_true, Bool.not_false, Bool.not_not, Int.not_lt, Int.not_le, Nat.not_lt, Nat.not_le, gt_iff_lt, ge_iff_le, List.cons.injEq, and_true] at hg); first | (exact absurd trivial hg) | (exfalso; omega) | (have hT : True := hg; clear hT hg) | skip)))
        )
      refine ⟨(k + 1, R + B, bitAt (k + 1)), ?_, ?_, by refine weak_mk rfl ?_ ?_ <;> repeat (first | exact envW_nil | exact heapW_nil | refine envW_cons rfl rfl ?_ | refine heapW_cons rfl rfl rfl ?_)⟩
      · show 32 - (k + 1) < 32 - k; omega
      · exact ⟨by show k + 1 ≤ 32; omega, rfl, HI⟩
    · have HI := hno (by omega)
      clear hyes hno
      repeat' (first
 | ((with_reducible apply r_or); exact rfl; exact rfl; exact rfl)
 | (rw [hor])
 | ((with_reducible apply r_mul_w); exact rfl; exact rfl; exact rfl)
 | (rw [hw1])
 | ((with_reducible apply r_conv); exact rfl; exact hw2; exact rfl)
 | ((with_reducible apply r_shr); exact rfl; exact rfl; exact (by decide); exact (by decide); exact rfl)
 | (rw [hsh])
 | ((with_reducible apply aw_seq))
 | ((with_reducible apply aw_region))
 | ((with_reducible apply aw_block))
 | ((with_reducible apply thn_normal))
 | ((with_reducible apply inb_normal))
 | ((with_reducible apply aw_skip))
 | ((with_reducible apply ao_nil))
 | ((with_reducible apply r_move); exact rfl; exact rfl)
 | ((with_reducible apply r_assign); exact rfl; exact rfl)
 | ((with_reducible apply r_leq); exact rfl; exact rfl; exact rfl)
 | ((with_reducible apply r_gtr); exact rfl; exact rfl; exact rfl)
 | (((with_reducible apply aw_cond); exact rfl) <;> intro hg <;> (first | (exact absurd hg (by decide)) | ((try simp only [decide_eq_true_eq, decide_eq_false_iff_not, Bool.not_eq_true', Bool.not_eq_false', Bool.not_true, Bool.not_false, Bool.not_not, Int.not_lt, Int.not_le, Nat.not_lt, Nat.not_le, gt_iff_lt, ge_iff_le, List.cons.injEq, and_true] at hg); first | (exact absurd trivial hg) | (exfalso; omega) | (have hT : True := hg; clear hT hg) | skip)))
        )
      refine ⟨(k + 1, R, bitAt (k + 1)), ?_, ?_, by refine weak_mk rfl ?_ ?_ <;> repeat (first | exact envW_nil | exact heapW_nil | refine envW_cons rfl rfl ?_ | refine heapW_cons rfl rfl rfl ?_)⟩
      · show 32 - (k + 1) < 32 - k; omega
      · exact ⟨by show k + 1 ≤ 32; omega, rfl, HI⟩
  · obtain rfl : k = 32 := by omega
    obtain ⟨d1, d2, d3⟩ := hinv.done
    obtain rfl : B = 0 := hB
    have hw : IntKind.i64.wrap R = R := i64_id ⟨by omega, by omega⟩
    repeat' (first
 | ((with_reducible apply r_conv); exact rfl; exact hw; exact rfl)
 | ((with_reducible apply aw_seq))
 | ((with_reducible apply aw_region))
 | ((with_reducible apply thn_normal))
 | ((with_reducible apply thn_exit))
 | ((with_reducible apply inb_exit))
 | ((with_reducible apply aw_exit))
 | ((with_reducible apply aw_ret))
 | ((with_reducible apply ao_nil))
 | ((with_reducible apply r_move); exact rfl; exact rfl)
 | ((with_reducible apply r_assign); exact rfl; exact rfl)
 | ((with_reducible apply r_gtr); exact rfl; exact rfl; exact rfl)
 | (((with_reducible apply aw_cond); exact rfl) <;> intro hg <;> (first | (exact absurd hg (by decide)) | ((try simp only [decide_eq_true_eq, decide_eq_false_iff_not, Bool.not_eq_true', Bool.not_eq_false', Bool.not_true, Bool.not_false, Bool.not_not, Int.not_lt, Int.not_le, Nat.not_lt, Nat.not_le, gt_iff_lt, ge_iff_le, List.cons.injEq, and_true] at hg); first | (exact absurd trivial hg) | (exfalso; omega) | (have hT : True := hg; clear hT hg) | skip)))
      )
    exact ret_i rfl d3.eq.symm
theorem magnitude_con (n : Int) : Con Tryd.prog gl 89 [I n] (.v (.int .u64 (if n < 0 then IntKind.u64.wrap (-(IntKind.u64.wrap n)) else IntKind.u64.wrap n))) := by
  refine con_of Tryd.func89 rfl (by kernel_rfl) rfl ?_
  simp only [Tryd.ntmps89, Tryd.results89, argEnv, ofC, of1, List.map]
  by_cases h : n < 0
  · rw [if_pos h]
    repeat' (first
 | ((with_reducible apply r_conv); exact rfl; exact rfl; exact rfl)
 | ((with_reducible apply r_neg_w); exact rfl; exact rfl)
 | ((with_reducible apply aw_seq))
 | ((with_reducible apply aw_region))
 | ((with_reducible apply thn_normal))
 | ((with_reducible apply thn_ret))
 | ((with_reducible apply aw_ret))
 | ((with_reducible apply ao_nil))
 | ((with_reducible apply r_move); exact rfl; exact rfl)
 | ((with_reducible apply r_assign); exact rfl; exact rfl)
 | ((with_reducible apply r_lss); exact rfl; exact rfl; exact rfl)
 | (((with_reducible apply aw_cond); exact rfl) <;> intro hg <;> (first | (exact absurd hg (by decide)) | ((try simp only [decide_eq_true_eq, decide_eq_false_iff_not, Bool.not_eq_true', Bool.not_eq_false', Bool.not_true, Bool.not_false, Bool.not_not, Int.not_lt, Int.not_le, Nat.not_lt, Nat.not_le, gt_iff_lt, ge_iff_le, List.cons.injEq, and_true] at hg); first | (exact absurd trivial hg) | (exfalso; omega) | (have hT : True := hg; clear hT hg) | skip)))
      )
    all_goals exact ret_i rfl rfl
  · rw [if_neg h]
    repeat' (first
 | ((with_reducible apply r_conv); exact rfl; exact rfl; exact rfl)
 | ((with_reducible apply r_neg_w); exact rfl; exact rfl)
 | ((with_reducible apply aw_seq))
 | ((with_reducible apply aw_region))
 | ((with_reducible apply thn_normal))
 | ((with_reducible apply aw_skip))
 | ((with_reducible apply aw_ret))
 | ((with_reducible apply ao_nil))
 | ((with_reducible apply r_move); exact rfl; exact rfl)
 | ((with_reducible apply r_assign); exact rfl; exact rfl)
 | ((with_reducible apply r_lss); exact rfl; exact rfl; exact rfl)
 | (((with_reducible apply aw_cond); exact rfl) <;> intro hg <;> (first | (exact absurd hg (by decide)) | ((try simp only [decide_eq_true_eq, decide_eq_false_iff_not, Bool.not_eq_true', Bool.not_eq_false', Bool.not_true, Bool.not_false, Bool.not_not, Int.not_lt, Int.not_le, Nat.not_lt, Nat.not_le, gt_iff_lt, ge_iff_le, List.cons.injEq, and_true] at hg); first | (exact absurd trivial hg) | (exfalso; omega) | (have hT : True := hg; clear hT hg) | skip)))
      )
    all_goals exact ret_i rfl rfl
theorem never_con (a b : Int) : Con Tryd.prog gl 87 [.v (.int .u64 a), .v (.int .u64 b)] (.v (.bool false)) := by
  refine con_of Tryd.func87 rfl (by kernel_rfl) rfl ?_
  simp only [Tryd.ntmps87, Tryd.results87, argEnv, ofC, of1, List.map]
  repeat' (first
 | ((with_reducible apply aw_seq))
 | ((with_reducible apply aw_region))
 | ((with_reducible apply thn_normal))
 | ((with_reducible apply aw_ret))
 | ((with_reducible apply ao_nil))
 | ((with_reducible apply r_assign); exact rfl; exact rfl)
    )
  exact ret_b rfl rfl
theorem tdiv_floor {a b : Int} (hb : 0 < b) : a / b = if a < 0 ∧ a.tmod b ≠ 0 then a.tdiv b - 1 else a.tdiv b := by
  have hs : b.sign = 1 := Int.sign_eq_one_of_pos hb
  have hd : b ∣ a ↔ a.tmod b = 0 := Int.dvd_iff_tmod_eq_zero
  rw [Int.tdiv_eq_ediv, hs]
  by_cases h : 0 ≤ a ∨ b ∣ a
  · rw [if_pos h, if_neg (by rcases h with h | h; omega; rw [hd] at h; exact fun hh => hh.2 h)]; omega
  · rw [if_neg h, if_pos ⟨by omega, fun hh => h (.inr (hd.2 hh))⟩]; omega
theorem quo_bd {a b : Int} (ha : -1000000000000 ≤ a ∧ a ≤ 1000000000000) (hb : 0 < b) : -1000000000000 ≤ a.tdiv b ∧ a.tdiv b ≤ 1000000000000 := by
  have h := Int.natAbs_tdiv_le_natAbs a b
  omega
theorem quo_mul_bd {a b : Int} (ha : -1000000000000 ≤ a ∧ a ≤ 1000000000000) (hb : 0 < b ∧ b ≤ 1000000) : -2000000000000 ≤ (a / b) * b ∧ (a / b) * b ≤ 2000000000000 := by
  have h1 := Int.mul_ediv_add_emod a b
  have h2 := Int.emod_nonneg a (show b ≠ 0 by omega)
  have h3 := Int.emod_lt_of_pos a hb.1
  rw [Int.mul_comm]; omega
set_option maxRecDepth 100000 in
set_option maxHeartbeats 4000000 in
theorem divide_con (a b : Int) (ha : -1000000000000 ≤ a ∧ a ≤ 1000000000000) (hb : 0 < b ∧ b ≤ 1000000) : Con Tryd.prog gl 88 [.agg [fnV 87], I a, I b] (.tup [I (a / b), T]) := by
  have hq := quo_bd ha hb.1
  have hm := quo_mul_bd ha hb
  have hfl := tdiv_floor (a := a) hb.1
  have h1 := magnitude_con (gl := gl) (a - (a / b) * b)
  have h2 := magnitude_con (gl := gl) b
  have h3 := fun x y => never_con (gl := gl) x y
  have hne : (decide (a < 0) != decide (b < 0)) = decide (a < 0) := by rw [decide_eq_false (show ¬ b < 0 by omega)]; simp
  refine con_of Tryd.func88 rfl (by kernel_rfl) rfl ?_
  simp only [Tryd.ntmps88, Tryd.results88, argEnv, ofC, of1, List.map]
  by_cases hc : a < 0 ∧ a.tmod b ≠ 0
  · rw [if_pos hc] at hfl
    obtain ⟨c1, c2⟩ := hc
    have hf : fits (a.tdiv b) := by unfold fits; omega
    have hf1 : fits (a.tdiv b - 1) := by unfold fits; omega
    rw [hfl] at hm h1 ⊢
    have hf2 : fits ((a.tdiv b - 1) * b) := by unfold fits; omega
    have hf3 : fits (a - (a.tdiv b - 1) * b) := by generalize (a.tdiv b - 1) * b = m at hm; unfold fits; omega
    repeat' (first
 | ((with_reducible apply r_quo); exact rfl; exact rfl; exact (by omega); exact hf; exact rfl)
 | ((with_reducible apply r_rem); exact rfl; exact rfl; exact (by omega); exact rfl)
 | ((with_reducible apply r_neqb); exact rfl; exact rfl; exact Tryd.underlying4; exact rfl)
 | (rw [hne])
 | ((with_reducible apply r_call); exact rfl; exact rfl; (first | exact h1 | exact h2); exact rfl; exact rfl)
 | ((with_reducible apply r_callfv); exact rfl; exact rfl; exact rfl; exact h3 _ _; exact rfl; exact rfl)
 | ((with_reducible apply aw_seq))
 | ((with_reducible apply aw_region))
 | ((with_reducible apply thn_normal))
 | ((with_reducible apply aw_skip))
 | ((with_reducible apply aw_ret))
 | ((with_reducible apply ao_nil))
 | ((with_reducible apply r_move); exact rfl; exact rfl)
 | ((with_reducible apply r_assign); exact rfl; exact rfl)
 | ((with_reducible apply r_field_p); exact rfl; exact rfl)
 | ((with_reducible apply r_load_p); exact rfl; exact rfl; exact rfl; exact rfl)
 | ((with_reducible apply r_lss); exact rfl; exact rfl; exact rfl)
 | ((with_reducible apply r_eql); exact rfl; exact rfl; exact rfl)
 | ((with_reducible apply r_neq); exact rfl; exact rfl; exact rfl)
 | ((with_reducible apply r_sub); exact rfl; exact rfl; exact (by first | assumption | (unfold fits; omega)); exact rfl)
 | ((with_reducible apply r_mul); exact rfl; exact rfl; exact (by first | assumption | (unfold fits; omega)); exact rfl)
 | ((with_reducible apply r_box_a); exact rfl; exact rfl)
 | ((with_reducible apply r_pick_t); exact rfl; exact rfl; exact rfl)
 | ((with_reducible apply r_pick_f); exact rfl; exact rfl; exact rfl)
 | (((with_reducible apply r_guard); exact rfl; exact rfl; exact rfl; exact rfl) <;> intro hg <;> (first | (exact absurd hg (by decide)) | ((try simp only [decide_eq_true_eq, decide_eq_false_iff_not, Bool.not_eq_true', Bool.not_eq_false', Bool.not_true, Bool.not_false, Bool.not_not, Int.not_lt, Int.not_le, Nat.not_lt, Nat.not_le, gt_iff_lt, ge_iff_le, List.cons.injEq, and_true] at hg); first | (exact absurd trivial hg) | (exfalso; omega) | (have hT : True := hg; clear hT hg) | skip)))
 | (((with_reducible apply aw_cond); exact rfl) <;> intro hg <;> (first | (exact absurd hg (by decide)) | ((try simp only [decide_eq_true_eq, decide_eq_false_iff_not, Bool.not_eq_true', Bool.not_eq_false', Bool.not_true, Bool.not_false, Bool.not_not, Int.not_lt, Int.not_le, Nat.not_lt, Nat.not_le, gt_iff_lt, ge_iff_le, List.cons.injEq, and_true] at hg); first | (exact absurd trivial hg) | (exfalso; omega) | (have hT : True := hg; clear hT hg) | skip)))
 | (refine aw_drawq ?_ ?_; (kernel_rfl))
 | ((with_reducible apply ds_nil))
      )
    all_goals first | exact ret2 (.cons (.tmp rfl cl_c) (.cons (.tmp rfl cl_c) .nil)) | trace_state
  · rw [if_neg hc] at hfl
    have hf : fits (a.tdiv b) := by unfold fits; omega
    rw [hfl] at hm h1 ⊢
    have hf2 : fits ((a.tdiv b) * b) := by unfold fits; omega
    have hf3 : fits (a - (a.tdiv b) * b) := by generalize (a.tdiv b) * b = m at hm; unfold fits; omega
    have hc' : a < 0 → a.tmod b = 0 := fun h => Classical.byContradiction fun hh => hc ⟨h, hh⟩
    repeat' (first
 | ((with_reducible apply r_quo); exact rfl; exact rfl; exact (by omega); exact hf; exact rfl)
 | ((with_reducible apply r_rem); exact rfl; exact rfl; exact (by omega); exact rfl)
 | ((with_reducible apply r_neqb); exact rfl; exact rfl; exact Tryd.underlying4; exact rfl)
 | (rw [hne])
 | ((with_reducible apply r_call); exact rfl; exact rfl; (first | exact h1 | exact h2); exact rfl; exact rfl)
 | ((with_reducible apply r_callfv); exact rfl; exact rfl; exact rfl; exact h3 _ _; exact rfl; exact rfl)
 | ((with_reducible apply aw_seq))
 | ((with_reducible apply aw_region))
 | ((with_reducible apply thn_normal))
 | ((with_reducible apply aw_skip))
 | ((with_reducible apply aw_ret))
 | ((with_reducible apply ao_nil))
 | ((with_reducible apply r_move); exact rfl; exact rfl)
 | ((with_reducible apply r_assign); exact rfl; exact rfl)
 | ((with_reducible apply r_field_p); exact rfl; exact rfl)
 | ((with_reducible apply r_load_p); exact rfl; exact rfl; exact rfl; exact rfl)
 | ((with_reducible apply r_lss); exact rfl; exact rfl; exact rfl)
 | ((with_reducible apply r_eql); exact rfl; exact rfl; exact rfl)
 | ((with_reducible apply r_neq); exact rfl; exact rfl; exact rfl)
 | ((with_reducible apply r_sub); exact rfl; exact rfl; exact (by first | assumption | (unfold fits; omega)); exact rfl)
 | ((with_reducible apply r_mul); exact rfl; exact rfl; exact (by first | assumption | (unfold fits; omega)); exact rfl)
 | ((with_reducible apply r_box_a); exact rfl; exact rfl)
 | ((with_reducible apply r_pick_t); exact rfl; exact rfl; exact rfl)
 | ((with_reducible apply r_pick_f); exact rfl; exact rfl; exact rfl)
 | (((with_reducible apply r_guard); exact rfl; exact rfl; exact rfl; exact rfl) <;> intro hg <;> (first | (exact absurd hg (by decide)) | ((try simp only [decide_eq_true_eq, decide_eq_false_iff_not, Bool.not_eq_true', Bool.not_eq_false', Bool.not_true, Bool.not_false, Bool.not_not, Int.not_lt, Int.not_le, Nat.not_lt, Nat.not_le, gt_iff_lt, ge_iff_le, List.cons.injEq, and_true] at hg); first | (exact absurd trivial hg) | (exfalso; omega) | (have hT : True := hg; clear hT hg) | skip)))
 | (((with_reducible apply aw_cond); exact rfl) <;> intro hg <;> (first | (exact absurd hg (by decide)) | ((try simp only [decide_eq_true_eq, decide_eq_false_iff_not, Bool.not_eq_true', Bool.not_eq_false', Bool.not_true, Bool.not_false, Bool.not_not, Int.not_lt, Int.not_le, Nat.not_lt, Nat.not_le, gt_iff_lt, ge_iff_le, List.cons.injEq, and_true] at hg); first | (exact absurd trivial hg) | (exfalso; omega) | (have hT : True := hg; clear hT hg) | skip)))
 | (refine aw_drawq ?_ ?_; (kernel_rfl))
 | ((with_reducible apply ds_nil))
      )
    all_goals first | exact ret2 (.cons (.tmp rfl cl_c) (.cons (.tmp rfl cl_c) .nil)) | trace_state
set_option maxRecDepth 100000 in
set_option maxHeartbeats 4000000 in
theorem floor_con (a b : Int) (ha : -1000000000000 ≤ a ∧ a ≤ 1000000000000) (hb : 0 < b ∧ b ≤ 1000000) : Con Tryd.prog gl 85 [I a, I b] (.tup [I (a / b), T]) := by
  have h1 := divide_con (gl := gl) a b ha hb
  refine con_of Tryd.func85 rfl (by kernel_rfl) rfl ?_
  simp only [Tryd.ntmps85, Tryd.results85, argEnv, ofC, of1, List.map]
  repeat' (first
 | ((with_reducible apply aw_seq))
 | ((with_reducible apply aw_region))
 | ((with_reducible apply thn_normal))
 | ((with_reducible apply ao_nil))
 | ((with_reducible apply r_move); exact rfl; exact rfl)
 | ((with_reducible apply r_assign); exact rfl; exact rfl)
 | ((with_reducible apply r_load_pa); exact rfl; exact rfl; exact rfl; exact rfl; exact rfl)
 | ((with_reducible apply r_store_pa); exact rfl; exact rfl; exact rfl; exact rfl; exact rfl; exact rfl)
 | ((with_reducible apply r_build); exact rfl; exact rfl; exact rfl)
 | ((with_reducible apply r_alloc); exact rfl)
    )
  refine r_fnc 8 rfl rfl ?_
  repeat' (first
 | ((with_reducible apply r_call); exact rfl; exact rfl; exact h1; exact rfl; exact rfl)
 | ((with_reducible apply thn_normal))
 | ((with_reducible apply aw_ret))
 | ((with_reducible apply ao_nil))
 | ((with_reducible apply r_assign); exact rfl; exact rfl)
 | ((with_reducible apply r_extract); exact rfl; exact rfl; exact rfl)
    )
  exact ret2 (.cons (.tmp rfl cl_c) (.cons (.tmp rfl cl_c) .nil))
end Go.Proofs.YtkhljpbkebnnmaaDoor.Ge
/- Walks of measures: Diameter, Center2, Oval, Top, Taper in both. -/
namespace Go.Proofs.YtkhljpbkebnnmaaDoor.Ge
set_option linter.unusedVariables false
set_option linter.unusedSimpArgs false
open Go.RowKit Go.Proofs.YtkhljpbkebnnmaaDoor.Ev
variable {gl : List (Nat × List CV)}

theorem quo_355 {n : Int} (h : 0 ≤ n) : n.tdiv 355 = n / 355 := Int.tdiv_eq_ediv_of_nonneg h
set_option maxRecDepth 100000 in
set_option maxHeartbeats 4000000 in
theorem dia_con (s : Sec) : Con Tryd.prog gl 78 [secC s] (I (diaS s)) := by
  have ha := areaS_bd s
  have h1 := area_con (gl := gl) s
  have h2 := root_con (gl := gl) (452 * areaS s / 355) (by omega) (by omega)
  have hq : (452 * areaS s).tdiv 355 = 452 * areaS s / 355 := quo_355 (by omega)
  have hf : fits ((452 * areaS s).tdiv 355) := by rw [hq]; unfold fits; omega
  refine con_of Tryd.func78 rfl (by kernel_rfl) rfl ?_
  simp only [Tryd.ntmps78, Tryd.results78, argEnv, ofC, of1, List.map]
  repeat' (first
 | ((with_reducible apply r_quo); exact rfl; exact rfl; exact (by decide); exact hf; exact rfl)
 | (rw [hq])
 | ((with_reducible apply r_call); exact rfl; exact rfl; (first | exact h1 | exact h2); exact rfl; exact rfl)
 | ((with_reducible apply aw_seq))
 | ((with_reducible apply aw_region))
 | ((with_reducible apply thn_normal))
 | ((with_reducible apply aw_ret))
 | ((with_reducible apply ao_nil))
 | ((with_reducible apply r_assign); exact rfl; exact rfl)
 | ((with_reducible apply r_load_pa); exact rfl; exact rfl; exact rfl; exact rfl; exact rfl)
 | ((with_reducible apply r_mul); exact rfl; exact rfl; exact (by first | assumption | (unfold fits; omega)); exact rfl)
 | ((with_reducible apply r_box_a); exact rfl; exact rfl)
    )
  exact ret_i rfl rfl
theorem cen_con (s : Sec) : Con Tryd.prog gl 80 [secC s] (.agg [I (cenX s), I (cenY s)]) := by
  have h1 := bounds_con (gl := gl) s
  have hb := bd_bd s
  refine con_of Tryd.func80 rfl (by kernel_rfl) rfl ?_
  simp only [Tryd.ntmps80, Tryd.results80, argEnv, ofC, of1, List.map]
  repeat' (first
 | ((with_reducible apply r_call); exact rfl; exact rfl; exact h1; exact rfl; exact rfl)
 | ((with_reducible apply aw_seq))
 | ((with_reducible apply aw_region))
 | ((with_reducible apply thn_normal))
 | ((with_reducible apply aw_ret))
 | ((with_reducible apply ao_nil))
 | ((with_reducible apply r_field_p); exact rfl; exact rfl)
 | ((with_reducible apply r_load_p); exact rfl; exact rfl; exact rfl; exact rfl)
 | ((with_reducible apply r_load_pa); exact rfl; exact rfl; exact rfl; exact rfl; exact rfl)
 | ((with_reducible apply r_add); exact rfl; exact rfl; exact (by first | assumption | (unfold fits; omega)); exact rfl)
 | ((with_reducible apply r_box_a); exact rfl; exact rfl)
 | ((with_reducible apply r_store_pa); exact rfl; exact rfl; exact rfl; exact rfl; exact rfl; exact rfl)
 | ((with_reducible apply r_build); exact rfl; exact rfl; exact rfl)
 | ((with_reducible apply r_alloc); exact rfl)
    )
  exact ret1 (.cell_a inferInstance rfl rfl rfl rfl (cl_cons cl_c (cl_cons cl_c cl_nil)))
theorem last_con (l : List Slc) (h : 0 < l.length) : ((l.length : Int) - 1).toNat = l.length - 1 := by omega
set_option maxRecDepth 100000 in
set_option maxHeartbeats 4000000 in
theorem top_con (l : List Slc) (hn : l.length ≤ maxLen) : Con Tryd.prog gl 73 [LL l] (I (topS l)) := by
  have hc := scheck_con (gl := gl) l hn
  unfold topS
  by_cases h : solChk l = 0
  · rw [if_pos h]
    have hp := sol_pos h
    have hu := (sol_V h).n
    have hd := dia_con (gl := gl) (l[((l.length : Int) - 1).toNat]'(by omega)).sec
    have e : secD l (l.length - 1) = (l[((l.length : Int) - 1).toNat]'(by omega)).sec := by
      have := secD_eq (l := l) (i := ((l.length : Int) - 1).toNat) (by omega)
      rw [← this, last_con l hp]
    rw [e]
    refine con_of Tryd.func73 rfl (by kernel_rfl) rfl ?_
    simp only [Tryd.ntmps73, Tryd.results73, argEnv, ofC, of1, List.map]
    repeat' (first
 | ((with_reducible apply r_call); exact rfl; exact rfl; (first | exact hc | exact hd); exact rfl; exact rfl)
 | ((with_reducible apply (r_field_e2 (j := 1))); exact rfl; exact rfl)
 | ((with_reducible apply aw_seq))
 | ((with_reducible apply aw_region))
 | ((with_reducible apply thn_normal))
 | ((with_reducible apply aw_skip))
 | ((with_reducible apply aw_ret))
 | ((with_reducible apply ao_nil))
 | ((with_reducible apply r_move); exact rfl; exact rfl)
 | ((with_reducible apply r_assign); exact rfl; exact rfl)
 | ((with_reducible apply r_neq); exact rfl; exact rfl; exact rfl)
 | ((with_reducible apply r_sub); exact rfl; exact rfl; exact (by first | assumption | (unfold fits; omega)); exact rfl)
 | ((with_reducible apply r_len_f); exact rfl; exact inferInstance; exact rfl)
 | ((with_reducible apply r_index_f); exact rfl; exact inferInstance; exact rfl; exact (Int.toNat_of_nonneg (by omega)).symm; (first | assumption | omega); exact rfl)
 | ((with_reducible apply r_load_fa); exact rfl; exact inferInstance; exact List.getElem?_eq_getElem (by first | assumption | omega); exact rfl; exact rfl; exact rfl)
 | ((with_reducible apply r_field_e); exact rfl; exact rfl)
 | (((with_reducible apply aw_cond); exact rfl) <;> intro hg <;> (first | (exact absurd hg (by decide)) | ((try simp only [decide_eq_true_eq, decide_eq_false_iff_not, Bool.not_eq_true', Bool.not_eq_false', Bool.not_true, Bool.not_false, Bool.not_not, Int.not_lt, Int.not_le, Nat.not_lt, Nat.not_le, gt_iff_lt, ge_iff_le, List.cons.injEq, and_true] at hg); first | (exact absurd trivial hg) | (exfalso; omega) | (have hT : True := hg; clear hT hg) | skip)))
      )
    exact ret_i rfl rfl
  · rw [if_neg h]
    refine con_of Tryd.func73 rfl (by kernel_rfl) rfl ?_
    simp only [Tryd.ntmps73, Tryd.results73, argEnv, ofC, of1, List.map]
    repeat' (first
 | ((with_reducible apply r_call); exact rfl; exact rfl; exact hc; exact rfl; exact rfl)
 | ((with_reducible apply aw_seq))
 | ((with_reducible apply aw_region))
 | ((with_reducible apply thn_normal))
 | ((with_reducible apply thn_ret))
 | ((with_reducible apply aw_ret))
 | ((with_reducible apply ao_nil))
 | ((with_reducible apply r_move); exact rfl; exact rfl)
 | ((with_reducible apply r_assign); exact rfl; exact rfl)
 | ((with_reducible apply r_neq); exact rfl; exact rfl; exact rfl)
 | (((with_reducible apply aw_cond); exact rfl) <;> intro hg <;> (first | (exact absurd hg (by decide)) | ((try simp only [decide_eq_true_eq, decide_eq_false_iff_not, Bool.not_eq_true', Bool.not_eq_false', Bool.not_true, Bool.not_false, Bool.not_not, Int.not_lt, Int.not_le, Nat.not_lt, Nat.not_le, gt_iff_lt, ge_iff_le, List.cons.injEq, and_true] at hg); first | (exact absurd trivial hg) | (exfalso; omega) | (have hT : True := hg; clear hT hg) | skip)))
      )
    exact ret_i rfl rfl
theorem lengthS_ok {l : List Slc} (h : solChk l = 0) : lengthS l = pos l l.length := by unfold lengthS; rw [valL_ok h]
theorem len_pos {l : List Slc} (h : solChk l = 0) : 1 ≤ pos l l.length ∧ pos l l.length ≤ 20000 := by
  have v := sol_V h
  have hp := sol_pos h
  have h1 := pos_mono v (l.length - 1) 1 (by omega)
  rw [show 1 + (l.length - 1) = l.length by omega, pos_succ, lenD_eq hp] at h1
  have h2 := v.one 0 hp
  have h3 : pos l 0 = 0 := rfl
  have := v.all
  omega
set_option maxRecDepth 100000 in
set_option maxHeartbeats 4000000 in
theorem taper_con (l : List Slc) (hn : l.length ≤ maxLen) : Con Tryd.prog gl 75 [LL l] (I (taperS l)) := by
  have hc := scheck_con (gl := gl) l hn
  have ht := top_con (gl := gl) l hn
  have hl := slength_con (gl := gl) l hn
  by_cases h : solChk l = 0
  · have hp := sol_pos h
    have hd := dia_con (gl := gl) (l[0]'hp).sec
    rw [lengthS_ok h] at hl
    have hlb := len_pos h
    have e1 : topS l = diaS (secD l (l.length - 1)) := if_pos h
    rw [e1] at ht
    have e2 : taperS l = max (0 : Int) (diaS (l[0]'hp).sec - diaS (secD l (l.length - 1))) * 10000 / pos l l.length := by unfold taperS; rw [if_pos h, secD_eq hp]
    rw [e2]
    have b1 := dia_bd (l[0]'hp).sec
    have b2 := dia_bd (secD l (l.length - 1))
    generalize diaS (secD l (l.length - 1)) = dt at *
    generalize diaS (l[0]'hp).sec = d0 at *
    generalize pos l l.length = n at *
    have hq : (max 0 (d0 - dt) * 10000).tdiv n = max 0 (d0 - dt) * 10000 / n := Int.tdiv_eq_ediv_of_nonneg (by omega)
    have hf : fits ((max 0 (d0 - dt) * 10000).tdiv n) := by
      have := quo_bd (a := max 0 (d0 - dt) * 10000) (b := n) (by omega) (by omega)
      unfold fits; omega
    refine con_of Tryd.func75 rfl (by kernel_rfl) rfl ?_
    simp only [Tryd.ntmps75, Tryd.results75, argEnv, ofC, of1, List.map]
    repeat' (first
 | ((with_reducible apply (r_index_f (k := 0))); exact rfl; exact inferInstance; exact rfl; exact rfl; (omega); exact rfl)
 | ((with_reducible apply r_quo); exact rfl; exact rfl; exact (by omega); exact hf; exact rfl)
 | (rw [hq])
 | ((with_reducible apply r_call); exact rfl; exact rfl; (first | exact hc | exact hd | exact ht | exact hl); exact rfl; exact rfl)
 | ((with_reducible apply aw_seq))
 | ((with_reducible apply aw_region))
 | ((with_reducible apply thn_normal))
 | ((with_reducible apply aw_skip))
 | ((with_reducible apply aw_ret))
 | ((with_reducible apply ao_nil))
 | ((with_reducible apply r_move); exact rfl; exact rfl)
 | ((with_reducible apply r_assign); exact rfl; exact rfl)
 | ((with_reducible apply r_neq); exact rfl; exact rfl; exact rfl)
 | ((with_reducible apply r_sub); exact rfl; exact rfl; exact (by first | assumption | (unfold fits; omega)); exact rfl)
 | ((with_reducible apply r_mul); exact rfl; exact rfl; exact (by first | assumption | (unfold fits; omega)); exact rfl)
 | ((with_reducible apply r_max); exact rfl; exact rfl; exact rfl)
 | ((with_reducible apply r_load_fa); exact rfl; exact inferInstance; exact List.getElem?_eq_getElem (by first | assumption | omega); exact rfl; exact rfl; exact rfl)
 | ((with_reducible apply r_field_e); exact rfl; exact rfl)
 | (((with_reducible apply aw_cond); exact rfl) <;> intro hg <;> (first | (exact absurd hg (by decide)) | ((try simp only [decide_eq_true_eq, decide_eq_false_iff_not, Bool.not_eq_true', Bool.not_eq_false', Bool.not_true, Bool.not_false, Bool.not_not, Int.not_lt, Int.not_le, Nat.not_lt, Nat.not_le, gt_iff_lt, ge_iff_le, List.cons.injEq, and_true] at hg); first | (exact absurd trivial hg) | (exfalso; omega) | (have hT : True := hg; clear hT hg) | skip)))
      )
    exact ret_i rfl rfl
  · have e : taperS l = 0 := if_neg h
    rw [e]
    refine con_of Tryd.func75 rfl (by kernel_rfl) rfl ?_
    simp only [Tryd.ntmps75, Tryd.results75, argEnv, ofC, of1, List.map]
    repeat' (first
 | ((with_reducible apply r_call); exact rfl; exact rfl; exact hc; exact rfl; exact rfl)
 | ((with_reducible apply aw_seq))
 | ((with_reducible apply aw_region))
 | ((with_reducible apply thn_normal))
 | ((with_reducible apply thn_ret))
 | ((with_reducible apply aw_ret))
 | ((with_reducible apply ao_nil))
 | ((with_reducible apply r_move); exact rfl; exact rfl)
 | ((with_reducible apply r_assign); exact rfl; exact rfl)
 | ((with_reducible apply r_neq); exact rfl; exact rfl; exact rfl)
 | (((with_reducible apply aw_cond); exact rfl) <;> intro hg <;> (first | (exact absurd hg (by decide)) | ((try simp only [decide_eq_true_eq, decide_eq_false_iff_not, Bool.not_eq_true', Bool.not_eq_false', Bool.not_true, Bool.not_false, Bool.not_not, Int.not_lt, Int.not_le, Nat.not_lt, Nat.not_le, gt_iff_lt, ge_iff_le, List.cons.injEq, and_true] at hg); first | (exact absurd trivial hg) | (exfalso; omega) | (have hT : True := hg; clear hT hg) | skip)))
      )
    exact ret_i rfl rfl
end Go.Proofs.YtkhljpbkebnnmaaDoor.Ge
