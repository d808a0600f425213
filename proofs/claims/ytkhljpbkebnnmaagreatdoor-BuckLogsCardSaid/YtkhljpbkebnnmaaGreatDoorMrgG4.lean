/- HB HC: texts laid together. -/
import Derived.Test.YtkhljpbkebnnmaaGreatDoorMrgG3
import Derived.Test.YtkhljpbkebnnmaaGreatDoorMrgE5
set_option maxRecDepth 100000
/- Walks of measures: Root, Floor, Diameter, Center2, Oval in both. -/
namespace Go.Proofs.YtkhljpbkebnnmaaGreatDoor.Ge
set_option linter.unusedVariables false
set_option linter.unusedSimpArgs false
open Go.RowKit Go.Proofs.YtkhljpbkebnnmaaGreatDoor.Ev
variable {gl : List (Nat × List CV)}
theorem u64_id {n : Int} (h : 0 ≤ n ∧ n < 18446744073709551616) : IntKind.u64.wrap n = n := by rw [u64_wrap]; omega
theorem i64_id {n : Int} (h : -9223372036854775808 ≤ n ∧ n < 9223372036854775808) : IntKind.i64.wrap n = n := by simp [IntKind.wrap, IntKind.bits, IntKind.signed]; omega
set_option maxHeartbeats 4000000 in
theorem root_con (n : Int) (h0 : 0 ≤ n) (h1 : n < 9223372036854775808) : Con Tryz.prog gl 126 [I n] (I (rootI n)) := by
  refine con_of Tryz.func126 rfl (by kernel_rfl) rfl ?_
  simp only [Tryz.ntmps126, Tryz.results126, argEnv, ofC, of1, List.map]
  repeat' (first
 | ((with_reducible apply aw_seq))
 | ((with_reducible apply aw_region))
 | ((with_reducible apply aw_block))
 | ((with_reducible apply thn_normal))
 | ((with_reducible apply aw_skip))
 | ((with_reducible apply ao_nil))
 | ((with_reducible apply r_move); exact rfl; exact rfl)
 | ((with_reducible apply r_assign); exact rfl; exact rfl)
 | ((with_reducible apply r_lss); exact rfl; exact rfl; exact rfl)
 | (((with_reducible apply aw_cond); exact rfl) <;> intro hg <;> (first | (exact absurd hg (by decide)) | ((try simp only [decide_eq_true_eq, decide_eq_false_iff_not, Bool.not_eq_true', Bool.not_eq_false', Bool.not_true, Bool.not_false, Bool.not_not, Int.not_lt, Int.not_le, Nat.not_lt, Nat.not_le, gt_iff_lt, ge_iff_le, List.cons.injEq, and_true] at hg); first | (exact absurd trivial hg) | (exfalso; omega) | (have hT : True := hg; clear hT hg) | skip)))
 )
  refine aw_loopG (G := Nat × Int × Int) (fun ((k, R, B) : Nat × Int × Int) => k ≤ 32 ∧ B = bitAt k ∧ RInv n k R) (fun ((k, R, B) : Nat × Int × Int) => 32 - k) (fun ((k, R, B) : Nat × Int × Int) => [(0, A n), (3, .c (.v (.int .u64 R))), (4, .c (.v (.int .u64 B)))]) (fun ((k, R, B) : Nat × Int × Int) => []) 0 (0, 0, 2147483648) ?_ (by refine weak_mk rfl ?_ ?_ <;> repeat (first | exact envW_nil | exact heapW_nil | refine envW_cons rfl rfl ?_ | refine heapW_cons rfl rfl rfl ?_)) rfl ?_
  · exact ⟨Nat.zero_le _, by decide, .start h0 h1⟩
  rintro ⟨k, R, B⟩ hI
  try dsimp only at hI
  try dsimp only
  obtain ⟨hk, hB, hinv⟩ := hI
  by_cases hlt : k < 32
  · obtain ⟨B', hB', hp, hle, hR0, hsum, hor, hhalf, hyes, hno⟩ := root_step hlt hinv
    obtain rfl : B = B' := by rw [hB, hB']
    have hm1 : 0 ≤ (R + B) * (R + B) := Int.mul_nonneg (by omega) (by omega)
    have hm2 : (R + B) * (R + B) ≤ 4294967295 * 4294967295 := Int.mul_le_mul (by omega) (by omega) (by omega) (by omega)
    have hw1 : IntKind.u64.wrap ((R + B) * (R + B)) = (R + B) * (R + B) := u64_id ⟨by omega, by omega⟩
    have hw2 : IntKind.u64.wrap n = n := u64_id ⟨by omega, by omega⟩
    have hsh : B / 2 ^ (1 : Int).toNat = bitAt (k + 1) := hhalf
    clear hinv
    by_cases hc : (R + B) * (R + B) ≤ n
    · have HI := hyes hc
      clear hyes hno
      repeat' (first
 | ((with_reducible apply r_or); exact rfl; exact rfl; exact rfl)
 | (rw [hor])
 | ((with_reducible apply r_mul_w); exact rfl; exact rfl; exact rfl)
 | (rw [hw1])
 | ((with_reducible apply r_conv); exact rfl; exact hw2; exact rfl)
 | ((with_reducible apply r_shr); exact rfl; exact rfl; exact (by decide); exact (by decide); exact rfl)
 | (rw [hsh])
 | ((with_reducible apply aw_seq))
 | ((with_reducible apply aw_region))
 | ((with_reducible apply aw_block))
 | ((with_reducible apply thn_normal))
 | ((with_reducible apply inb_normal))
 | ((with_reducible apply aw_skip))
 | ((with_reducible apply ao_nil))
 | ((with_reducible apply r_move); exact rfl; exact rfl)
 | ((with_reducible apply r_assign); exact rfl; exact rfl)
 | ((with_reducible apply r_leq); exact rfl; exact rfl; exact rfl)
 | ((with_reducible apply r_gtr); exact rfl; exact rfl; exact rfl)
 | (((with_reducible apply aw_cond); exact rfl) <;> intro hg <;> (first | (exact absurd hg (by decide)) | ((try simp only [decide_eq_true_eq, decide_eq_false_iff_not, Bool.not_eq_true', Bool.not_eq_false', Bool.not_true, Bool.not_false, Bool.not_not, Int.not_lt, Int.not_le, Nat.not_lt, Nat.not_le, gt_iff_lt, ge_iff_le, List.cons.injEq, and_true] at hg); first | (exact absurd trivial hg) | (exfalso; omega) | (have hT : True := hg; clear hT hg) | skip)))
 )
      refine ⟨(k + 1, R + B, bitAt (k + 1)), ?_, ?_, by refine weak_mk rfl ?_ ?_ <;> repeat (first | exact envW_nil | exact heapW_nil | refine envW_cons rfl rfl ?_ | refine heapW_cons rfl rfl rfl ?_)⟩
      · show 32 - (k + 1) < 32 - k; omega
      · exact ⟨by show k + 1 ≤ 32; omega, rfl, HI⟩
    · have HI := hno (by omega)
      clear hyes hno
      repeat' (first
 | ((with_reducible apply r_or); exact rfl; exact rfl; exact rfl)
 | (rw [hor])
 | ((with_reducible apply r_mul_w); exact rfl; exact rfl; exact rfl)
 | (rw [hw1])
 | ((with_reducible apply r_conv); exact rfl; exact hw2; exact rfl)
 | ((with_reducible apply r_shr); exact rfl; exact rfl; exact (by decide); exact (by decide); exact rfl)
 | (rw [hsh])
 | ((with_reducible apply aw_seq))
 | ((with_reducible apply aw_region))
 | ((with_reducible apply aw_block))
 | ((with_reducible apply thn_normal))
 | ((with_reducible apply inb_normal))
 | ((with_reducible apply aw_skip))
 | ((with_reducible apply ao_nil))
 | ((with_reducible apply r_move); exact rfl; exact rfl)
 | ((with_reducible apply r_assign); exact rfl; exact rfl)
 | ((with_reducible apply r_leq); exact rfl; exact rfl; exact rfl)
 | ((with_reducible apply r_gtr); exact rfl; exact rfl; exact rfl)
 | (((with_reducible apply aw_cond); exact rfl) <;> intro hg <;> (first | (exact absurd hg (by decide)) | ((try simp only [decide_eq_true_eq, decide_eq_false_iff_not, Bool.not_eq_true', Bool.not_eq_false', Bool.not_true, Bool.not_false, Bool.not_not, Int.not_lt, Int.not_le, Nat.not_lt, Nat.not_le, gt_iff_lt, ge_iff_le, List.cons.injEq, and_true] at hg); first | (exact absurd trivial hg) | (exfalso; omega) | (have hT : True := hg; clear hT hg) | skip)))
 )
      refine ⟨(k + 1, R, bitAt (k + 1)), ?_, ?_, by refine weak_mk rfl ?_ ?_ <;> repeat (first | exact envW_nil | exact heapW_nil | refine envW_cons rfl rfl ?_ | refine heapW_cons rfl rfl rfl ?_)⟩
      · show 32 - (k + 1) < 32 - k; omega
      · exact ⟨by show k + 1 ≤ 32; omega, rfl, HI⟩
  · obtain rfl : k = 32 := by omega
    obtain ⟨d1, d2, d3⟩ := hinv.done
    obtain rfl : B = 0 := hB
    have hw : IntKind.i64.wrap R = R := i64_id ⟨by omega, by omega⟩
    repeat' (first
 | ((with_reducible apply r_conv); exact rfl; exact hw; exact rfl)
 | ((with_reducible apply aw_seq))
 | ((with_reducible apply aw_region))
 | ((with_reducible apply thn_normal))
 | ((with_reducible apply thn_exit))
 | ((with_reducible apply inb_exit))
 | ((with_reducible apply aw_exit))
 | ((with_reducible apply aw_ret))
 | ((with_reducible apply ao_nil))
 | ((with_reducible apply r_move); exact rfl; exact rfl)
 | ((with_reducible apply r_assign); exact rfl; exact rfl)
 | ((with_reducible apply r_gtr); exact rfl; exact rfl; exact rfl)
 | (((with_reducible apply aw_cond); exact rfl) <;> intro hg <;> (first | (exact absurd hg (by decide)) | ((try simp only [decide_eq_true_eq, decide_eq_false_iff_not, Bool.not_eq_true', Bool.not_eq_false', Bool.not_true, Bool.not_false, Bool.not_not, Int.not_lt, Int.not_le, Nat.not_lt, Nat.not_le, gt_iff_lt, ge_iff_le, List.cons.injEq, and_true] at hg); first | (exact absurd trivial hg) | (exfalso; omega) | (have hT : True := hg; clear hT hg) | skip)))
 )
    exact ret_i rfl d3.eq.symm
theorem magnitude_con (n : Int) : Con Tryz.prog gl 134 [I n] (.v (.int .u64 (if n < 0 then IntKind.u64.wrap (-(IntKind.u64.wrap n)) else IntKind.u64.wrap n))) := by
  refine con_of Tryz.func134 rfl (by kernel_rfl) rfl ?_
  simp only [Tryz.ntmps134, Tryz.results134, argEnv, ofC, of1, List.map]
  by_cases h : n < 0
  · rw [if_pos h]
    repeat' (first
 | ((with_reducible apply r_conv); exact rfl; exact rfl; exact rfl)
 | ((with_reducible apply r_neg_w); exact rfl; exact rfl)
 | ((with_reducible apply aw_seq))
 | ((with_reducible apply aw_region))
 | ((with_reducible apply thn_normal))
 | ((with_reducible apply thn_ret))
 | ((with_reducible apply aw_ret))
 | ((with_reducible apply ao_nil))
 | ((with_reducible apply r_move); exact rfl; exact rfl)
 | ((with_reducible apply r_assign); exact rfl; exact rfl)
 | ((with_reducible apply r_lss); exact rfl; exact rfl; exact rfl)
 | (((with_reducible apply aw_cond); exact rfl) <;> intro hg <;> (first | (exact absurd hg (by decide)) | ((try simp only [decide_eq_true_eq, decide_eq_false_iff_not, Bool.not_eq_true', Bool.not_eq_false', Bool.not_true, Bool.not_false, Bool.not_not, Int.not_lt, Int.not_le, Nat.not_lt, Nat.not_le, gt_iff_lt, ge_iff_le, List.cons.injEq, and_true] at hg); first | (exact absurd trivial hg) | (exfalso; omega) | (have hT : True := hg; clear hT hg) | skip)))
 )
    all_goals exact ret_i rfl rfl
  · rw [if_neg h]
    repeat' (first
 | ((with_reducible apply r_conv); exact rfl; exact rfl; exact rfl)
 | ((with_reducible apply r_neg_w); exact rfl; exact rfl)
 | ((with_reducible apply aw_seq))
 | ((with_reducible apply aw_region))
 | ((with_reducible apply thn_normal))
 | ((with_reducible apply aw_skip))
 | ((with_reducible apply aw_ret))
 | ((with_reducible apply ao_nil))
 | ((with_reducible apply r_move); exact rfl; exact rfl)
 | ((with_reducible apply r_assign); exact rfl; exact rfl)
 | ((with_reducible apply r_lss); exact rfl; exact rfl; exact rfl)
 | (((with_reducible apply aw_cond); exact rfl) <;> intro hg <;> (first | (exact absurd hg (by decide)) | ((try simp only [decide_eq_true_eq, decide_eq_false_iff_not, Bool.not_eq_true', Bool.not_eq_false', Bool.not_true, Bool.not_false, Bool.not_not, Int.not_lt, Int.not_le, Nat.not_lt, Nat.not_le, gt_iff_lt, ge_iff_le, List.cons.injEq, and_true] at hg); first | (exact absurd trivial hg) | (exfalso; omega) | (have hT : True := hg; clear hT hg) | skip)))
 )
    all_goals exact ret_i rfl rfl
theorem never_con (a b : Int) : Con Tryz.prog gl 131 [.v (.int .u64 a), .v (.int .u64 b)] (.v (.bool false)) := by
  refine con_of Tryz.func131 rfl (by kernel_rfl) rfl ?_
  simp only [Tryz.ntmps131, Tryz.results131, argEnv, ofC, of1, List.map]
  repeat' (first
 | ((with_reducible apply aw_seq))
 | ((with_reducible apply aw_region))
 | ((with_reducible apply thn_normal))
 | ((with_reducible apply aw_ret))
 | ((with_reducible apply ao_nil))
 | ((with_reducible apply r_assign); exact rfl; exact rfl)
 )
  exact ret_b rfl rfl
theorem tdiv_floor {a b : Int} (hb : 0 < b) : a / b = if a < 0 ∧ a.tmod b ≠ 0 then a.tdiv b - 1 else a.tdiv b := by
  have hs : b.sign = 1 := Int.sign_eq_one_of_pos hb
  have hd : b ∣ a ↔ a.tmod b = 0 := Int.dvd_iff_tmod_eq_zero
  rw [Int.tdiv_eq_ediv, hs]
  by_cases h : 0 ≤ a ∨ b ∣ a
  · rw [if_pos h, if_neg (by rcases h with h | h; omega; rw [hd] at h; exact fun hh => hh.2 h)]; omega
  · rw [if_neg h, if_pos ⟨by omega, fun hh => h (.inr (hd.2 hh))⟩]; omega
theorem quo_bd {a b : Int} (ha : -1000000000000 ≤ a ∧ a ≤ 1000000000000) (hb : 0 < b) : -1000000000000 ≤ a.tdiv b ∧ a.tdiv b ≤ 1000000000000 := by
  have h := Int.natAbs_tdiv_le_natAbs a b
  omega
theorem quo_mul_bd {a b : Int} (ha : -1000000000000 ≤ a ∧ a ≤ 1000000000000) (hb : 0 < b ∧ b ≤ 1000000) : -2000000000000 ≤ (a / b) * b ∧ (a / b) * b ≤ 2000000000000 := by
  have h1 := Int.mul_ediv_add_emod a b
  have h2 := Int.emod_nonneg a (show b ≠ 0 by omega)
  have h3 := Int.emod_lt_of_pos a hb.1
  rw [Int.mul_comm]; omega
set_option maxHeartbeats 4000000 in
theorem divide_con (a b : Int) (ha : -1000000000000 ≤ a ∧ a ≤ 1000000000000) (hb : 0 < b ∧ b ≤ 1000000) : Con Tryz.prog gl 132 [.agg [fnV 131], I a, I b] (.tup [I (a / b), T]) := by
  have hq := quo_bd ha hb.1
  have hm := quo_mul_bd ha hb
  have hfl := tdiv_floor (a := a) hb.1
  have h1 := magnitude_con (gl := gl) (a - (a / b) * b)
  have h2 := magnitude_con (gl := gl) b
  have h3 := fun x y => never_con (gl := gl) x y
  have hne : (decide (a < 0) != decide (b < 0)) = decide (a < 0) := by rw [decide_eq_false (show ¬ b < 0 by omega)]; simp
  refine con_of Tryz.func132 rfl (by kernel_rfl) rfl ?_
  simp only [Tryz.ntmps132, Tryz.results132, argEnv, ofC, of1, List.map]
  by_cases hc : a < 0 ∧ a.tmod b ≠ 0
  · rw [if_pos hc] at hfl
    obtain ⟨c1, c2⟩ := hc
    have hf : fits (a.tdiv b) := by unfold fits; omega
    have hf1 : fits (a.tdiv b - 1) := by unfold fits; omega
    rw [hfl] at hm h1 ⊢
    have hf2 : fits ((a.tdiv b - 1) * b) := by unfold fits; omega
    have hf3 : fits (a - (a.tdiv b - 1) * b) := by generalize (a.tdiv b - 1) * b = m at hm; unfold fits; omega
    repeat' (first
 | ((with_reducible apply r_quo); exact rfl; exact rfl; exact (by omega); exact hf; exact rfl)
 | ((with_reducible apply r_rem); exact rfl; exact rfl; exact (by omega); exact rfl)
 | ((with_reducible apply r_neqb); exact rfl; exact rfl; exact Tryz.underlying4; exact rfl)
 | (rw [hne])
 | ((with_reducible apply r_call); exact rfl; exact rfl; (first | exact h1 | exact h2); exact rfl; exact rfl)
 | ((with_reducible apply r_callfv); exact rfl; exact rfl; exact rfl; exact h3 _ _; exact rfl; exact rfl)
 | ((with_reducible apply aw_seq))
 | ((with_reducible apply aw_region))
 | ((with_reducible apply thn_normal))
 | ((with_reducible apply aw_skip))
 | ((with_reducible apply aw_ret))
 | ((with_reducible apply ao_nil))
 | ((with_reducible apply r_move); exact rfl; exact rfl)
 | ((with_reducible apply r_assign); exact rfl; exact rfl)
 | ((with_reducible apply r_field_p); exact rfl; exact rfl)
 | ((with_reducible apply r_load_p); exact rfl; exact rfl; exact rfl; exact rfl)
 | ((with_reducible apply r_lss); exact rfl; exact rfl; exact rfl)
 | ((with_reducible apply r_eql); exact rfl; exact rfl; exact rfl)
 | ((with_reducible apply r_neq); exact rfl; exact rfl; exact rfl)
 | ((with_reducible apply r_sub); exact rfl; exact rfl; exact (by first | assumption | (unfold fits; omega)); exact rfl)
 | ((with_reducible apply r_mul); exact rfl; exact rfl; exact (by first | assumption | (unfold fits; omega)); exact rfl)
 | ((with_reducible apply r_box_a); exact rfl; exact rfl)
 | ((with_reducible apply r_pick_t); exact rfl; exact rfl; exact rfl)
 | ((with_reducible apply r_pick_f); exact rfl; exact rfl; exact rfl)
 | (((with_reducible apply r_guard); exact rfl; exact rfl; exact rfl; exact rfl) <;> intro hg <;> (first | (exact absurd hg (by decide)) | ((try simp only [decide_eq_true_eq, decide_eq_false_iff_not, Bool.not_eq_true', Bool.not_eq_false', Bool.not_true, Bool.not_false, Bool.not_not, Int.not_lt, Int.not_le, Nat.not_lt, Nat.not_le, gt_iff_lt, ge_iff_le, List.cons.injEq, and_true] at hg); first | (exact absurd trivial hg) | (exfalso; omega) | (have hT : True := hg; clear hT hg) | skip)))
 | (((with_reducible apply aw_cond); exact rfl) <;> intro hg <;> (first | (exact absurd hg (by decide)) | ((try simp only [decide_eq_true_eq, decide_eq_false_iff_not, Bool.not_eq_true', Bool.not_eq_false', Bool.not_true, Bool.not_false, Bool.not_not, Int.not_lt, Int.not_le, Nat.not_lt, Nat.not_le, gt_iff_lt, ge_iff_le, List.cons.injEq, and_true] at hg); first | (exact absurd trivial hg) | (exfalso; omega) | (have hT : True := hg; clear hT hg) | skip)))
 | (refine aw_drawq ?_ ?_; (kernel_rfl))
 | ((with_reducible apply ds_nil))
 )
    all_goals first | exact ret2 (.cons (.tmp rfl cl_c) (.cons (.tmp rfl cl_c) .nil)) | trace_state
  · rw [if_neg hc] at hfl
    have hf : fits (a.tdiv b) := by unfold fits; omega
    rw [hfl] at hm h1 ⊢
    have hf2 : fits ((a.tdiv b) * b) := by unfold fits; omega
    have hf3 : fits (a - (a.tdiv b) * b) := by generalize (a.tdiv b) * b = m at hm; unfold fits; omega
    have hc' : a < 0 → a.tmod b = 0 := fun h => Classical.byContradiction fun hh => hc ⟨h, hh⟩
    repeat' (first
 | ((with_reducible apply r_quo); exact rfl; exact rfl; exact (by omega); exact hf; exact rfl)
 | ((with_reducible apply r_rem); exact rfl; exact rfl; exact (by omega); exact rfl)
 | ((with_reducible apply r_neqb); exact rfl; exact rfl; exact Tryz.underlying4; exact rfl)
 | (rw [hne])
 | ((with_reducible apply r_call); exact rfl; exact rfl; (first | exact h1 | exact h2); exact rfl; exact rfl)
 | ((with_reducible apply r_callfv); exact rfl; exact rfl; exact rfl; exact h3 _ _; exact rfl; exact rfl)
 | ((with_reducible apply aw_seq))
 | ((with_reducible apply aw_region))
 | ((with_reducible apply thn_normal))
 | ((with_reducible apply aw_skip))
 | ((with_reducible apply aw_ret))
 | ((with_reducible apply ao_nil))
 | ((with_reducible apply r_move); exact rfl; exact rfl)
 | ((with_reducible apply r_assign); exact rfl; exact rfl)
 | ((with_reducible apply r_field_p); exact rfl; exact rfl)
 | ((with_reducible apply r_load_p); exact rfl; exact rfl; exact rfl; exact rfl)
 | ((with_reducible apply r_lss); exact rfl; exact rfl; exact rfl)
 | ((with_reducible apply r_eql); exact rfl; exact rfl; exact rfl)
 | ((with_reducible apply r_neq); exact rfl; exact rfl; exact rfl)
 | ((with_reducible apply r_sub); exact rfl; exact rfl; exact (by first | assumption | (unfold fits; omega)); exact rfl)
 | ((with_reducible apply r_mul); exact rfl; exact rfl; exact (by first | assumption | (unfold fits; omega)); exact rfl)
 | ((with_reducible apply r_box_a); exact rfl; exact rfl)
 | ((with_reducible apply r_pick_t); exact rfl; exact rfl; exact rfl)
 | ((with_reducible apply r_pick_f); exact rfl; exact rfl; exact rfl)
 | (((with_reducible apply r_guard); exact rfl; exact rfl; exact rfl; exact rfl) <;> intro hg <;> (first | (exact absurd hg (by decide)) | ((try simp only [decide_eq_true_eq, decide_eq_false_iff_not, Bool.not_eq_true', Bool.not_eq_false', Bool.not_true, Bool.not_false, Bool.not_not, Int.not_lt, Int.not_le, Nat.not_lt, Nat.not_le, gt_iff_lt, ge_iff_le, List.cons.injEq, and_true] at hg); first | (exact absurd trivial hg) | (exfalso; omega) | (have hT : True := hg; clear hT hg) | skip)))
 | (((with_reducible apply aw_cond); exact rfl) <;> intro hg <;> (first | (exact absurd hg (by decide)) | ((try simp only [decide_eq_true_eq, decide_eq_false_iff_not, Bool.not_eq_true', Bool.not_eq_false', Bool.not_true, Bool.not_false, Bool.not_not, Int.not_lt, Int.not_le, Nat.not_lt, Nat.not_le, gt_iff_lt, ge_iff_le, List.cons.injEq, and_true] at hg); first | (exact absurd trivial hg) | (exfalso; omega) | (have hT : True := hg; clear hT hg) | skip)))
 | (refine aw_drawq ?_ ?_; (kernel_rfl))
 | ((with_reducible apply ds_nil))
 )
    all_goals first | exact ret2 (.cons (.tmp rfl cl_c) (.cons (.tmp rfl cl_c) .nil)) | trace_state
set_option maxHeartbeats 4000000 in
theorem floor_con (a b : Int) (ha : -1000000000000 ≤ a ∧ a ≤ 1000000000000) (hb : 0 < b ∧ b ≤ 1000000) : Con Tryz.prog gl 128 [I a, I b] (.tup [I (a / b), T]) := by
  have h1 := divide_con (gl := gl) a b ha hb
  refine con_of Tryz.func128 rfl (by kernel_rfl) rfl ?_
  simp only [Tryz.ntmps128, Tryz.results128, argEnv, ofC, of1, List.map]
  repeat' (first
 | ((with_reducible apply aw_seq))
 | ((with_reducible apply aw_region))
 | ((with_reducible apply thn_normal))
 | ((with_reducible apply ao_nil))
 | ((with_reducible apply r_move); exact rfl; exact rfl)
 | ((with_reducible apply r_assign); exact rfl; exact rfl)
 | ((with_reducible apply r_load_pa); exact rfl; exact rfl; exact rfl; exact rfl; exact rfl)
 | ((with_reducible apply r_store_pa); exact rfl; exact rfl; exact rfl; exact rfl; exact rfl; exact rfl)
 | ((with_reducible apply r_build); exact rfl; exact rfl; exact rfl)
 | ((with_reducible apply r_alloc); exact rfl)
 )
  refine r_fnc 8 rfl rfl ?_
  repeat' (first
 | ((with_reducible apply r_call); exact rfl; exact rfl; exact h1; exact rfl; exact rfl)
 | ((with_reducible apply thn_normal))
 | ((with_reducible apply aw_ret))
 | ((with_reducible apply ao_nil))
 | ((with_reducible apply r_assign); exact rfl; exact rfl)
 | ((with_reducible apply r_extract); exact rfl; exact rfl; exact rfl)
 )
  exact ret2 (.cons (.tmp rfl cl_c) (.cons (.tmp rfl cl_c) .nil))
set_option maxHeartbeats 4000000 in
theorem rfloor_con (a b : Int) (ha : -1000000000000 ≤ a ∧ a ≤ 1000000000000) (hb : 0 < b ∧ b ≤ 1000000) : Con Tryz.prog gl 124 [I a, I b] (I (a / b)) := by
  have hq := quo_bd ha hb.1
  have hm := quo_mul_bd ha hb
  have h1 := Int.mul_tdiv_add_tmod a b
  have hfl := tdiv_floor (a := a) hb.1
  have hc0 : a.tdiv b * b = a - a.tmod b := by rw [Int.mul_comm]; omega
  have hs := Int.tmod_lt_of_pos a hb.1
  have hs2 : a < 0 → a.tmod b ≤ 0 := fun h => by
    have := Int.tmod_nonneg b (show 0 ≤ -a by omega)
    rw [Int.neg_tmod] at this; omega
  have hs3 : 0 ≤ a → 0 ≤ a.tmod b := fun h => Int.tmod_nonneg b h
  have hf : fits (a.tdiv b) := by unfold fits; omega
  have hlow : -b < a.tmod b := by
    have h5 := Int.tmod_lt_of_pos (-a) hb.1
    rw [Int.neg_tmod] at h5; omega
  have hf2 : fits (a.tdiv b * b) := by unfold fits; omega
  refine con_of Tryz.func124 rfl (by kernel_rfl) rfl ?_
  simp only [Tryz.ntmps124, Tryz.results124, argEnv, ofC, of1, List.map]
  by_cases hc : a < 0 ∧ a.tmod b ≠ 0
  · rw [if_pos hc] at hfl
    have h6 := hs2 hc.1
    obtain ⟨c1, c2⟩ := hc
    repeat' (first
 | ((with_reducible apply r_quo); exact rfl; exact rfl; exact (by omega); exact hf; exact rfl)
 | ((with_reducible apply aw_seq))
 | ((with_reducible apply aw_region))
 | ((with_reducible apply thn_normal))
 | ((with_reducible apply aw_ret))
 | ((with_reducible apply ao_nil))
 | ((with_reducible apply r_move); exact rfl; exact rfl)
 | ((with_reducible apply r_assign); exact rfl; exact rfl)
 | ((with_reducible apply r_gtr); exact rfl; exact rfl; exact rfl)
 | ((with_reducible apply r_sub); exact rfl; exact rfl; exact (by first | assumption | (unfold fits; omega)); exact rfl)
 | ((with_reducible apply r_mul); exact rfl; exact rfl; exact (by first | assumption | (unfold fits; omega)); exact rfl)
 | (((with_reducible apply aw_cond); exact rfl) <;> intro hg <;> (first | (exact absurd hg (by decide)) | ((try simp only [decide_eq_true_eq, decide_eq_false_iff_not, Bool.not_eq_true', Bool.not_eq_false', Bool.not_true, Bool.not_false, Bool.not_not, Int.not_lt, Int.not_le, Nat.not_lt, Nat.not_le, gt_iff_lt, ge_iff_le, List.cons.injEq, and_true] at hg); first | (exact absurd trivial hg) | (exfalso; omega) | (have hT : True := hg; clear hT hg) | skip)))
 )
    exact ret_i rfl hfl.symm
  · rw [if_neg hc] at hfl
    have h6 : 0 ≤ a.tmod b := by
      by_cases h : 0 ≤ a
      · exact hs3 h
      · have : a.tmod b = 0 := Classical.byContradiction fun hh => hc ⟨by omega, hh⟩
        omega
    repeat' (first
 | ((with_reducible apply r_quo); exact rfl; exact rfl; exact (by omega); exact hf; exact rfl)
 | ((with_reducible apply aw_seq))
 | ((with_reducible apply aw_region))
 | ((with_reducible apply thn_normal))
 | ((with_reducible apply aw_skip))
 | ((with_reducible apply aw_ret))
 | ((with_reducible apply ao_nil))
 | ((with_reducible apply r_move); exact rfl; exact rfl)
 | ((with_reducible apply r_assign); exact rfl; exact rfl)
 | ((with_reducible apply r_gtr); exact rfl; exact rfl; exact rfl)
 | ((with_reducible apply r_mul); exact rfl; exact rfl; exact (by first | assumption | (unfold fits; omega)); exact rfl)
 | (((with_reducible apply aw_cond); exact rfl) <;> intro hg <;> (first | (exact absurd hg (by decide)) | ((try simp only [decide_eq_true_eq, decide_eq_false_iff_not, Bool.not_eq_true', Bool.not_eq_false', Bool.not_true, Bool.not_false, Bool.not_not, Int.not_lt, Int.not_le, Nat.not_lt, Nat.not_le, gt_iff_lt, ge_iff_le, List.cons.injEq, and_true] at hg); first | (exact absurd trivial hg) | (exfalso; omega) | (have hT : True := hg; clear hT hg) | skip)))
 )
    exact ret_i rfl hfl.symm
end Go.Proofs.YtkhljpbkebnnmaaGreatDoor.Ge
/- Walks of measures: Diameter, Center2, Oval, Top, Taper in both. -/
namespace Go.Proofs.YtkhljpbkebnnmaaGreatDoor.Ge
set_option linter.unusedVariables false
set_option linter.unusedSimpArgs false
open Go.RowKit Go.Proofs.YtkhljpbkebnnmaaGreatDoor.Ev
variable {gl : List (Nat × List CV)}
theorem quo_355 {n : Int} (h : 0 ≤ n) : n.tdiv 355 = n / 355 := Int.tdiv_eq_ediv_of_nonneg h
set_option maxHeartbeats 4000000 in
theorem dia_con (s : Sec) : Con Tryz.prog gl 116 [secC s] (I (diaS s)) := by
  have ha := areaS_bd s
  have h1 := area_con (gl := gl) s
  have h2 := root_con (gl := gl) (452 * areaS s / 355) (by omega) (by omega)
  have hq : (452 * areaS s).tdiv 355 = 452 * areaS s / 355 := quo_355 (by omega)
  have hf : fits ((452 * areaS s).tdiv 355) := by rw [hq]; unfold fits; omega
  refine con_of Tryz.func116 rfl (by kernel_rfl) rfl ?_
  simp only [Tryz.ntmps116, Tryz.results116, argEnv, ofC, of1, List.map]
  repeat' (first
 | ((with_reducible apply r_quo); exact rfl; exact rfl; exact (by decide); exact hf; exact rfl)
 | (rw [hq])
 | ((with_reducible apply r_call); exact rfl; exact rfl; (first | exact h1 | exact h2); exact rfl; exact rfl)
 | ((with_reducible apply aw_seq))
 | ((with_reducible apply aw_region))
 | ((with_reducible apply thn_normal))
 | ((with_reducible apply aw_ret))
 | ((with_reducible apply ao_nil))
 | ((with_reducible apply r_assign); exact rfl; exact rfl)
 | ((with_reducible apply r_load_pa); exact rfl; exact rfl; exact rfl; exact rfl; exact rfl)
 | ((with_reducible apply r_mul); exact rfl; exact rfl; exact (by first | assumption | (unfold fits; omega)); exact rfl)
 | ((with_reducible apply r_box_a); exact rfl; exact rfl)
 )
  exact ret_i rfl rfl
set_option maxHeartbeats 4000000 in
theorem rdia_con (s : Sec) : Con Tryz.prog gl 121 [secC s] (I (diaS s)) := by
  have ha := areaS_bd s
  have h1 := rarea_con (gl := gl) s
  have hc := rcheck_con (gl := gl) s
  have hq : (452 * areaS s).tdiv 355 = 452 * areaS s / 355 := quo_355 (by omega)
  have hf : fits ((452 * areaS s).tdiv 355) := by rw [hq]; unfold fits; omega
  have hr := dia_is s
  have hb := dia_bd s
  unfold diaS at hr hb ⊢
  have hn : 0 ≤ 452 * areaS s / 355 ∧ 452 * areaS s / 355 ≤ 2000000 := by omega
  by_cases h : secChk s = 0
  · skip
    refine con_of Tryz.func121 rfl (by kernel_rfl) rfl ?_
    simp only [Tryz.ntmps121, Tryz.results121, argEnv, ofC, of1, List.map]
    repeat' (first
 | ((with_reducible apply r_quo); exact rfl; exact rfl; exact (by decide); exact hf; exact rfl)
 | (rw [hq])
 | ((with_reducible apply r_call); exact rfl; exact rfl; (first | exact h1 | exact hc); exact rfl; exact rfl)
 | ((with_reducible apply aw_seq))
 | ((with_reducible apply aw_region))
 | ((with_reducible apply aw_block))
 | ((with_reducible apply thn_normal))
 | ((with_reducible apply ao_nil))
 | ((with_reducible apply r_assign); exact rfl; exact rfl)
 | ((with_reducible apply r_load_pa); exact rfl; exact rfl; exact rfl; exact rfl; exact rfl)
 | ((with_reducible apply r_eql); exact rfl; exact rfl; exact rfl)
 | ((with_reducible apply r_mul); exact rfl; exact rfl; exact (by first | assumption | (unfold fits; omega)); exact rfl)
 | ((with_reducible apply r_box_a); exact rfl; exact rfl)
 | (((with_reducible apply aw_cond); exact rfl) <;> intro hg <;> (first | (exact absurd hg (by decide)) | ((try simp only [decide_eq_true_eq, decide_eq_false_iff_not, Bool.not_eq_true', Bool.not_eq_false', Bool.not_true, Bool.not_false, Bool.not_not, Int.not_lt, Int.not_le, Nat.not_lt, Nat.not_le, gt_iff_lt, ge_iff_le, List.cons.injEq, and_true] at hg); first | (exact absurd trivial hg) | (exfalso; omega) | (have hT : True := hg; clear hT hg) | skip)))
 )
    generalize 452 * areaS s / 355 = n at *
    generalize rootI n = r at *
    obtain ⟨r1, r2, r3⟩ := hr
    refine aw_loopG (G := Nat) (fun (d : Nat) => (d : Int) ≤ r) (fun (d : Nat) => (r - d).toNat) (fun (d : Nat) => [(3, A n), (4, A d)]) (fun (d : Nat) => []) 1 0 ?_ (by refine weak_mk rfl ?_ ?_ <;> repeat (first | exact envW_nil | exact heapW_nil | refine envW_cons rfl rfl ?_ | refine heapW_cons rfl rfl rfl ?_)) rfl ?_
    · exact r1
    rintro d hI
    try dsimp only at hI
    try dsimp only
    have hd : (d : Int) ≤ r := hI
    by_cases hlt : (d : Int) < r
    · have hm : ((d : Int) + 1) * ((d : Int) + 1) ≤ r * r := Int.mul_le_mul (by omega) (by omega) (by omega) (by omega)
      have hm0 : 0 ≤ ((d : Int) + 1) * ((d : Int) + 1) := Int.mul_nonneg (by omega) (by omega)
      have hf1 : fits (((d : Int) + 1) * ((d : Int) + 1)) := by unfold fits; omega
      repeat' (first
 | ((with_reducible apply aw_seq))
 | ((with_reducible apply aw_region))
 | ((with_reducible apply aw_block))
 | ((with_reducible apply thn_normal))
 | ((with_reducible apply inb_normal))
 | ((with_reducible apply aw_skip))
 | ((with_reducible apply ao_nil))
 | ((with_reducible apply r_move); exact rfl; exact rfl)
 | ((with_reducible apply r_assign); exact rfl; exact rfl)
 | ((with_reducible apply r_leq); exact rfl; exact rfl; exact rfl)
 | ((with_reducible apply r_add); exact rfl; exact rfl; exact (by first | assumption | (unfold fits; omega)); exact rfl)
 | ((with_reducible apply r_mul); exact rfl; exact rfl; exact (by first | assumption | (unfold fits; omega)); exact rfl)
 | (((with_reducible apply aw_cond); exact rfl) <;> intro hg <;> (first | (exact absurd hg (by decide)) | ((try simp only [decide_eq_true_eq, decide_eq_false_iff_not, Bool.not_eq_true', Bool.not_eq_false', Bool.not_true, Bool.not_false, Bool.not_not, Int.not_lt, Int.not_le, Nat.not_lt, Nat.not_le, gt_iff_lt, ge_iff_le, List.cons.injEq, and_true] at hg); first | (exact absurd trivial hg) | (exfalso; omega) | (have hT : True := hg; clear hT hg) | skip)))
 )
      refine ⟨d + 1, ?_, ?_, by refine weak_mk rfl ?_ ?_ <;> repeat (first | exact envW_nil | exact heapW_nil | refine envW_cons rfl rfl ?_ | refine heapW_cons rfl rfl rfl ?_)⟩
      · show (r - ((d + 1 : Nat) : Int)).toNat < (r - (d : Int)).toNat; omega
      · show ((d + 1 : Nat) : Int) ≤ r; omega
    · have e : (d : Int) = r := by omega
      rw [← e] at r3
      have hm : ((d : Int) + 1) * ((d : Int) + 1) ≤ 1355 * 1355 := Int.mul_le_mul (by omega) (by omega) (by omega) (by omega)
      have hf1 : fits (((d : Int) + 1) * ((d : Int) + 1)) := by unfold fits; omega
      repeat' (first
 | ((with_reducible apply aw_seq))
 | ((with_reducible apply aw_region))
 | ((with_reducible apply thn_normal))
 | ((with_reducible apply thn_exit))
 | ((with_reducible apply inb_exit))
 | ((with_reducible apply aw_exit))
 | ((with_reducible apply aw_ret))
 | ((with_reducible apply ao_nil))
 | ((with_reducible apply r_move); exact rfl; exact rfl)
 | ((with_reducible apply r_assign); exact rfl; exact rfl)
 | ((with_reducible apply r_leq); exact rfl; exact rfl; exact rfl)
 | ((with_reducible apply r_add); exact rfl; exact rfl; exact (by first | assumption | (unfold fits; omega)); exact rfl)
 | ((with_reducible apply r_mul); exact rfl; exact rfl; exact (by first | assumption | (unfold fits; omega)); exact rfl)
 | (((with_reducible apply aw_cond); exact rfl) <;> intro hg <;> (first | (exact absurd hg (by decide)) | ((try simp only [decide_eq_true_eq, decide_eq_false_iff_not, Bool.not_eq_true', Bool.not_eq_false', Bool.not_true, Bool.not_false, Bool.not_not, Int.not_lt, Int.not_le, Nat.not_lt, Nat.not_le, gt_iff_lt, ge_iff_le, List.cons.injEq, and_true] at hg); first | (exact absurd trivial hg) | (exfalso; omega) | (have hT : True := hg; clear hT hg) | skip)))
 )
      exact ret_i rfl e
  · have h0 : areaS s = 0 := area_no h
    rw [h0] at hr hb ⊢
    have e0 : rootI (452 * 0 / 355) = 0 := (show IsRoot (452 * 0 / 355) 0 from ⟨by decide, by decide, by decide⟩).eq
    rw [e0]
    refine con_of Tryz.func121 rfl (by kernel_rfl) rfl ?_
    simp only [Tryz.ntmps121, Tryz.results121, argEnv, ofC, of1, List.map]
    repeat' (first
 | ((with_reducible apply r_call); exact rfl; exact rfl; exact hc; exact rfl; exact rfl)
 | ((with_reducible apply aw_seq))
 | ((with_reducible apply aw_region))
 | ((with_reducible apply aw_block))
 | ((with_reducible apply thn_normal))
 | ((with_reducible apply aw_skip))
 | ((with_reducible apply ao_nil))
 | ((with_reducible apply r_assign); exact rfl; exact rfl)
 | ((with_reducible apply r_load_pa); exact rfl; exact rfl; exact rfl; exact rfl; exact rfl)
 | ((with_reducible apply r_eql); exact rfl; exact rfl; exact rfl)
 | ((with_reducible apply r_box_a); exact rfl; exact rfl)
 | (((with_reducible apply aw_cond); exact rfl) <;> intro hg <;> (first | (exact absurd hg (by decide)) | ((try simp only [decide_eq_true_eq, decide_eq_false_iff_not, Bool.not_eq_true', Bool.not_eq_false', Bool.not_true, Bool.not_false, Bool.not_not, Int.not_lt, Int.not_le, Nat.not_lt, Nat.not_le, gt_iff_lt, ge_iff_le, List.cons.injEq, and_true] at hg); first | (exact absurd trivial hg) | (exfalso; omega) | (have hT : True := hg; clear hT hg) | skip)))
 )
    refine aw_loopG (G := Nat) (fun (d : Nat) => d = 0) (fun (d : Nat) => d) (fun (d : Nat) => [(3, A 0), (4, A d)]) (fun (d : Nat) => []) 1 0 ?_ (by refine weak_mk rfl ?_ ?_ <;> repeat (first | exact envW_nil | exact heapW_nil | refine envW_cons rfl rfl ?_ | refine heapW_cons rfl rfl rfl ?_)) rfl ?_
    · exact rfl
    rintro d hI
    try dsimp only at hI
    try dsimp only
    have hd : d = 0 := hI
    subst hd
    repeat' (first
 | ((with_reducible apply aw_seq))
 | ((with_reducible apply aw_region))
 | ((with_reducible apply thn_normal))
 | ((with_reducible apply thn_exit))
 | ((with_reducible apply inb_exit))
 | ((with_reducible apply aw_exit))
 | ((with_reducible apply aw_ret))
 | ((with_reducible apply ao_nil))
 | ((with_reducible apply r_move); exact rfl; exact rfl)
 | ((with_reducible apply r_assign); exact rfl; exact rfl)
 | ((with_reducible apply r_leq); exact rfl; exact rfl; exact rfl)
 | ((with_reducible apply r_add); exact rfl; exact rfl; exact (by first | assumption | (unfold fits; omega)); exact rfl)
 | ((with_reducible apply r_mul); exact rfl; exact rfl; exact (by first | assumption | (unfold fits; omega)); exact rfl)
 | (((with_reducible apply aw_cond); exact rfl) <;> intro hg <;> (first | (exact absurd hg (by decide)) | ((try simp only [decide_eq_true_eq, decide_eq_false_iff_not, Bool.not_eq_true', Bool.not_eq_false', Bool.not_true, Bool.not_false, Bool.not_not, Int.not_lt, Int.not_le, Nat.not_lt, Nat.not_le, gt_iff_lt, ge_iff_le, List.cons.injEq, and_true] at hg); first | (exact absurd trivial hg) | (exfalso; omega) | (have hT : True := hg; clear hT hg) | skip)))
 )
    exact ret_i rfl rfl
theorem cen_con (s : Sec) : Con Tryz.prog gl 118 [secC s] (.agg [I (cenX s), I (cenY s)]) := by
  have h1 := bounds_con (gl := gl) s
  have hb := bd_bd s
  refine con_of Tryz.func118 rfl (by kernel_rfl) rfl ?_
  simp only [Tryz.ntmps118, Tryz.results118, argEnv, ofC, of1, List.map]
  repeat' (first
 | ((with_reducible apply r_call); exact rfl; exact rfl; exact h1; exact rfl; exact rfl)
 | ((with_reducible apply aw_seq))
 | ((with_reducible apply aw_region))
 | ((with_reducible apply thn_normal))
 | ((with_reducible apply aw_ret))
 | ((with_reducible apply ao_nil))
 | ((with_reducible apply r_field_p); exact rfl; exact rfl)
 | ((with_reducible apply r_load_p); exact rfl; exact rfl; exact rfl; exact rfl)
 | ((with_reducible apply r_load_pa); exact rfl; exact rfl; exact rfl; exact rfl; exact rfl)
 | ((with_reducible apply r_add); exact rfl; exact rfl; exact (by first | assumption | (unfold fits; omega)); exact rfl)
 | ((with_reducible apply r_box_a); exact rfl; exact rfl)
 | ((with_reducible apply r_store_pa); exact rfl; exact rfl; exact rfl; exact rfl; exact rfl; exact rfl)
 | ((with_reducible apply r_build); exact rfl; exact rfl; exact rfl)
 | ((with_reducible apply r_alloc); exact rfl)
 )
  exact ret1 (.cell_a inferInstance rfl rfl rfl rfl (cl_cons cl_c (cl_cons cl_c cl_nil)))
theorem rbnd_con (s : Sec) : Con Tryz.prog gl 129 [secC s] (rectC (bdS s)) := by
  have h1 := rbounds_con (gl := gl) s
  have hc := rcheck_con (gl := gl) s
  by_cases h : secChk s = 0
  · skip
    refine con_of Tryz.func129 rfl (by kernel_rfl) rfl ?_
    simp only [Tryz.ntmps129, Tryz.results129, argEnv, ofC, of1, List.map]
    repeat' (first
 | ((with_reducible apply r_call); exact rfl; exact rfl; (first | exact h1 | exact hc); exact rfl; exact rfl)
 | ((with_reducible apply aw_seq))
 | ((with_reducible apply aw_region))
 | ((with_reducible apply thn_normal))
 | ((with_reducible apply aw_skip))
 | ((with_reducible apply aw_ret))
 | ((with_reducible apply ao_nil))
 | ((with_reducible apply r_load_pa); exact rfl; exact rfl; exact rfl; exact rfl; exact rfl)
 | ((with_reducible apply r_neq); exact rfl; exact rfl; exact rfl)
 | ((with_reducible apply r_box_a); exact rfl; exact rfl)
 | ((with_reducible apply r_store_pa); exact rfl; exact rfl; exact rfl; exact rfl; exact rfl; exact rfl)
 | ((with_reducible apply r_alloc); exact rfl)
 | (((with_reducible apply aw_cond); exact rfl) <;> intro hg <;> (first | (exact absurd hg (by decide)) | ((try simp only [decide_eq_true_eq, decide_eq_false_iff_not, Bool.not_eq_true', Bool.not_eq_false', Bool.not_true, Bool.not_false, Bool.not_not, Int.not_lt, Int.not_le, Nat.not_lt, Nat.not_le, gt_iff_lt, ge_iff_le, List.cons.injEq, and_true] at hg); first | (exact absurd trivial hg) | (exfalso; omega) | (have hT : True := hg; clear hT hg) | skip)))
 )
    exact ret1 (.cell_a inferInstance rfl rfl rfl rfl (cl_cons cl_c (cl_cons cl_c (cl_cons cl_c (cl_cons cl_c cl_nil)))))
  · rw [bd_no h]
    refine con_of Tryz.func129 rfl (by kernel_rfl) rfl ?_
    simp only [Tryz.ntmps129, Tryz.results129, argEnv, ofC, of1, List.map]
    repeat' (first
 | ((with_reducible apply r_call); exact rfl; exact rfl; exact hc; exact rfl; exact rfl)
 | ((with_reducible apply aw_seq))
 | ((with_reducible apply aw_region))
 | ((with_reducible apply thn_normal))
 | ((with_reducible apply thn_ret))
 | ((with_reducible apply aw_ret))
 | ((with_reducible apply ao_nil))
 | ((with_reducible apply r_load_pa); exact rfl; exact rfl; exact rfl; exact rfl; exact rfl)
 | ((with_reducible apply r_neq); exact rfl; exact rfl; exact rfl)
 | ((with_reducible apply r_box_a); exact rfl; exact rfl)
 | ((with_reducible apply r_store_pa); exact rfl; exact rfl; exact rfl; exact rfl; exact rfl; exact rfl)
 | ((with_reducible apply r_build); exact rfl; exact rfl; exact rfl)
 | ((with_reducible apply r_alloc); exact rfl)
 | (((with_reducible apply aw_cond); exact rfl) <;> intro hg <;> (first | (exact absurd hg (by decide)) | ((try simp only [decide_eq_true_eq, decide_eq_false_iff_not, Bool.not_eq_true', Bool.not_eq_false', Bool.not_true, Bool.not_false, Bool.not_not, Int.not_lt, Int.not_le, Nat.not_lt, Nat.not_le, gt_iff_lt, ge_iff_le, List.cons.injEq, and_true] at hg); first | (exact absurd trivial hg) | (exfalso; omega) | (have hT : True := hg; clear hT hg) | skip)))
 )
    exact ret1 (.cell_a inferInstance rfl rfl rfl rfl (cl_cons cl_c (cl_cons cl_c (cl_cons cl_c (cl_cons cl_c cl_nil)))))
theorem rcen_con (s : Sec) : Con Tryz.prog gl 123 [secC s] (.agg [I (cenX s), I (cenY s)]) := by
  have h1 := rbnd_con (gl := gl) s
  have hb := bd_bd s
  refine con_of Tryz.func123 rfl (by kernel_rfl) rfl ?_
  simp only [Tryz.ntmps123, Tryz.results123, argEnv, ofC, of1, List.map]
  repeat' (first
 | ((with_reducible apply r_call); exact rfl; exact rfl; exact h1; exact rfl; exact rfl)
 | ((with_reducible apply aw_seq))
 | ((with_reducible apply aw_region))
 | ((with_reducible apply thn_normal))
 | ((with_reducible apply aw_ret))
 | ((with_reducible apply ao_nil))
 | ((with_reducible apply r_field_p); exact rfl; exact rfl)
 | ((with_reducible apply r_load_p); exact rfl; exact rfl; exact rfl; exact rfl)
 | ((with_reducible apply r_load_pa); exact rfl; exact rfl; exact rfl; exact rfl; exact rfl)
 | ((with_reducible apply r_add); exact rfl; exact rfl; exact (by first | assumption | (unfold fits; omega)); exact rfl)
 | ((with_reducible apply r_box_a); exact rfl; exact rfl)
 | ((with_reducible apply r_store_pa); exact rfl; exact rfl; exact rfl; exact rfl; exact rfl; exact rfl)
 | ((with_reducible apply r_build); exact rfl; exact rfl; exact rfl)
 | ((with_reducible apply r_alloc); exact rfl)
 )
  exact ret1 (.cell_a inferInstance rfl rfl rfl rfl (cl_cons cl_c (cl_cons cl_c cl_nil)))
theorem last_con (l : List Slc) (h : 0 < l.length) : ((l.length : Int) - 1).toNat = l.length - 1 := by omega
set_option maxHeartbeats 4000000 in
theorem top_con (l : List Slc) (hn : l.length ≤ maxLen) : Con Tryz.prog gl 103 [LL l] (I (topS l)) := by
  have hc := scheck_con (gl := gl) l hn
  unfold topS
  by_cases h : solChk l = 0
  · rw [if_pos h]
    have hp := sol_pos h
    have hu := (sol_V h).n
    have hd := dia_con (gl := gl) (l[((l.length : Int) - 1).toNat]'(by omega)).sec
    have e : secD l (l.length - 1) = (l[((l.length : Int) - 1).toNat]'(by omega)).sec := by
      have := secD_eq (l := l) (i := ((l.length : Int) - 1).toNat) (by omega)
      rw [← this, last_con l hp]
    rw [e]
    refine con_of Tryz.func103 rfl (by kernel_rfl) rfl ?_
    simp only [Tryz.ntmps103, Tryz.results103, argEnv, ofC, of1, List.map]
    repeat' (first
 | ((with_reducible apply r_call); exact rfl; exact rfl; (first | exact hc | exact hd); exact rfl; exact rfl)
 | ((with_reducible apply (r_field_e2 (j := 1))); exact rfl; exact rfl)
 | ((with_reducible apply aw_seq))
 | ((with_reducible apply aw_region))
 | ((with_reducible apply thn_normal))
 | ((with_reducible apply aw_skip))
 | ((with_reducible apply aw_ret))
 | ((with_reducible apply ao_nil))
 | ((with_reducible apply r_move); exact rfl; exact rfl)
 | ((with_reducible apply r_assign); exact rfl; exact rfl)
 | ((with_reducible apply r_neq); exact rfl; exact rfl; exact rfl)
 | ((with_reducible apply r_sub); exact rfl; exact rfl; exact (by first | assumption | (unfold fits; omega)); exact rfl)
 | ((with_reducible apply r_len_f); exact rfl; exact inferInstance; exact rfl)
 | ((with_reducible apply r_index_f); exact rfl; exact inferInstance; exact rfl; exact (Int.toNat_of_nonneg (by omega)).symm; (first | assumption | omega); exact rfl)
 | ((with_reducible apply r_load_fa); exact rfl; exact inferInstance; exact List.getElem?_eq_getElem (by first | assumption | omega); exact rfl; exact rfl; exact rfl)
 | ((with_reducible apply r_field_e); exact rfl; exact rfl)
 | (((with_reducible apply aw_cond); exact rfl) <;> intro hg <;> (first | (exact absurd hg (by decide)) | ((try simp only [decide_eq_true_eq, decide_eq_false_iff_not, Bool.not_eq_true', Bool.not_eq_false', Bool.not_true, Bool.not_false, Bool.not_not, Int.not_lt, Int.not_le, Nat.not_lt, Nat.not_le, gt_iff_lt, ge_iff_le, List.cons.injEq, and_true] at hg); first | (exact absurd trivial hg) | (exfalso; omega) | (have hT : True := hg; clear hT hg) | skip)))
 )
    exact ret_i rfl rfl
  · rw [if_neg h]
    refine con_of Tryz.func103 rfl (by kernel_rfl) rfl ?_
    simp only [Tryz.ntmps103, Tryz.results103, argEnv, ofC, of1, List.map]
    repeat' (first
 | ((with_reducible apply r_call); exact rfl; exact rfl; exact hc; exact rfl; exact rfl)
 | ((with_reducible apply aw_seq))
 | ((with_reducible apply aw_region))
 | ((with_reducible apply thn_normal))
 | ((with_reducible apply thn_ret))
 | ((with_reducible apply aw_ret))
 | ((with_reducible apply ao_nil))
 | ((with_reducible apply r_move); exact rfl; exact rfl)
 | ((with_reducible apply r_assign); exact rfl; exact rfl)
 | ((with_reducible apply r_neq); exact rfl; exact rfl; exact rfl)
 | (((with_reducible apply aw_cond); exact rfl) <;> intro hg <;> (first | (exact absurd hg (by decide)) | ((try simp only [decide_eq_true_eq, decide_eq_false_iff_not, Bool.not_eq_true', Bool.not_eq_false', Bool.not_true, Bool.not_false, Bool.not_not, Int.not_lt, Int.not_le, Nat.not_lt, Nat.not_le, gt_iff_lt, ge_iff_le, List.cons.injEq, and_true] at hg); first | (exact absurd trivial hg) | (exfalso; omega) | (have hT : True := hg; clear hT hg) | skip)))
 )
    exact ret_i rfl rfl
set_option maxHeartbeats 4000000 in
theorem rtop_con (l : List Slc) (hn : l.length ≤ maxLen) : Con Tryz.prog gl 111 [LL l] (I (topS l)) := by
  have hc := rscheck_con (gl := gl) l hn
  unfold topS
  by_cases h : solChk l = 0
  · rw [if_pos h]
    have hp := sol_pos h
    have hu := (sol_V h).n
    have hd := rdia_con (gl := gl) (l[((l.length : Int) - 1).toNat]'(by omega)).sec
    have e : secD l (l.length - 1) = (l[((l.length : Int) - 1).toNat]'(by omega)).sec := by
      have := secD_eq (l := l) (i := ((l.length : Int) - 1).toNat) (by omega)
      rw [← this, last_con l hp]
    rw [e]
    refine con_of Tryz.func111 rfl (by kernel_rfl) rfl ?_
    simp only [Tryz.ntmps111, Tryz.results111, argEnv, ofC, of1, List.map]
    repeat' (first
 | ((with_reducible apply r_call); exact rfl; exact rfl; (first | exact hc | exact hd); exact rfl; exact rfl)
 | ((with_reducible apply (r_field_e2 (j := 1))); exact rfl; exact rfl)
 | ((with_reducible apply aw_seq))
 | ((with_reducible apply aw_region))
 | ((with_reducible apply thn_normal))
 | ((with_reducible apply aw_skip))
 | ((with_reducible apply aw_ret))
 | ((with_reducible apply ao_nil))
 | ((with_reducible apply r_move); exact rfl; exact rfl)
 | ((with_reducible apply r_assign); exact rfl; exact rfl)
 | ((with_reducible apply r_neq); exact rfl; exact rfl; exact rfl)
 | ((with_reducible apply r_sub); exact rfl; exact rfl; exact (by first | assumption | (unfold fits; omega)); exact rfl)
 | ((with_reducible apply r_len_f); exact rfl; exact inferInstance; exact rfl)
 | ((with_reducible apply r_index_f); exact rfl; exact inferInstance; exact rfl; exact (Int.toNat_of_nonneg (by omega)).symm; (first | assumption | omega); exact rfl)
 | ((with_reducible apply r_load_fa); exact rfl; exact inferInstance; exact List.getElem?_eq_getElem (by first | assumption | omega); exact rfl; exact rfl; exact rfl)
 | ((with_reducible apply r_field_e); exact rfl; exact rfl)
 | (((with_reducible apply aw_cond); exact rfl) <;> intro hg <;> (first | (exact absurd hg (by decide)) | ((try simp only [decide_eq_true_eq, decide_eq_false_iff_not, Bool.not_eq_true', Bool.not_eq_false', Bool.not_true, Bool.not_false, Bool.not_not, Int.not_lt, Int.not_le, Nat.not_lt, Nat.not_le, gt_iff_lt, ge_iff_le, List.cons.injEq, and_true] at hg); first | (exact absurd trivial hg) | (exfalso; omega) | (have hT : True := hg; clear hT hg) | skip)))
 )
    exact ret_i rfl rfl
  · rw [if_neg h]
    refine con_of Tryz.func111 rfl (by kernel_rfl) rfl ?_
    simp only [Tryz.ntmps111, Tryz.results111, argEnv, ofC, of1, List.map]
    repeat' (first
 | ((with_reducible apply r_call); exact rfl; exact rfl; exact hc; exact rfl; exact rfl)
 | ((with_reducible apply aw_seq))
 | ((with_reducible apply aw_region))
 | ((with_reducible apply thn_normal))
 | ((with_reducible apply thn_ret))
 | ((with_reducible apply aw_ret))
 | ((with_reducible apply ao_nil))
 | ((with_reducible apply r_move); exact rfl; exact rfl)
 | ((with_reducible apply r_assign); exact rfl; exact rfl)
 | ((with_reducible apply r_neq); exact rfl; exact rfl; exact rfl)
 | (((with_reducible apply aw_cond); exact rfl) <;> intro hg <;> (first | (exact absurd hg (by decide)) | ((try simp only [decide_eq_true_eq, decide_eq_false_iff_not, Bool.not_eq_true', Bool.not_eq_false', Bool.not_true, Bool.not_false, Bool.not_not, Int.not_lt, Int.not_le, Nat.not_lt, Nat.not_le, gt_iff_lt, ge_iff_le, List.cons.injEq, and_true] at hg); first | (exact absurd trivial hg) | (exfalso; omega) | (have hT : True := hg; clear hT hg) | skip)))
 )
    exact ret_i rfl rfl
theorem lengthS_ok {l : List Slc} (h : solChk l = 0) : lengthS l = pos l l.length := by unfold lengthS; rw [valL_ok h]
theorem len_pos {l : List Slc} (h : solChk l = 0) : 1 ≤ pos l l.length ∧ pos l l.length ≤ 20000 := by
  have v := sol_V h
  have hp := sol_pos h
  have h1 := pos_mono v (l.length - 1) 1 (by omega)
  rw [show 1 + (l.length - 1) = l.length by omega, pos_succ, lenD_eq hp] at h1
  have h2 := v.one 0 hp
  have h3 : pos l 0 = 0 := rfl
  have := v.all
  omega
set_option maxHeartbeats 4000000 in
theorem taper_con (l : List Slc) (hn : l.length ≤ maxLen) : Con Tryz.prog gl 105 [LL l] (I (taperS l)) := by
  have hc := scheck_con (gl := gl) l hn
  have ht := top_con (gl := gl) l hn
  have hl := slength_con (gl := gl) l hn
  by_cases h : solChk l = 0
  · have hp := sol_pos h
    have hd := dia_con (gl := gl) (l[0]'hp).sec
    rw [lengthS_ok h] at hl
    have hlb := len_pos h
    have e1 : topS l = diaS (secD l (l.length - 1)) := if_pos h
    rw [e1] at ht
    have e2 : taperS l = max (0 : Int) (diaS (l[0]'hp).sec - diaS (secD l (l.length - 1))) * 10000 / pos l l.length := by unfold taperS; rw [if_pos h, secD_eq hp]
    rw [e2]
    have b1 := dia_bd (l[0]'hp).sec
    have b2 := dia_bd (secD l (l.length - 1))
    generalize diaS (secD l (l.length - 1)) = dt at *
    generalize diaS (l[0]'hp).sec = d0 at *
    generalize pos l l.length = n at *
    have hq : (max 0 (d0 - dt) * 10000).tdiv n = max 0 (d0 - dt) * 10000 / n := Int.tdiv_eq_ediv_of_nonneg (by omega)
    have hf : fits ((max 0 (d0 - dt) * 10000).tdiv n) := by
      have := quo_bd (a := max 0 (d0 - dt) * 10000) (b := n) (by omega) (by omega)
      unfold fits; omega
    refine con_of Tryz.func105 rfl (by kernel_rfl) rfl ?_
    simp only [Tryz.ntmps105, Tryz.results105, argEnv, ofC, of1, List.map]
    repeat' (first
 | ((with_reducible apply (r_index_f (k := 0))); exact rfl; exact inferInstance; exact rfl; exact rfl; (omega); exact rfl)
 | ((with_reducible apply r_quo); exact rfl; exact rfl; exact (by omega); exact hf; exact rfl)
 | (rw [hq])
 | ((with_reducible apply r_call); exact rfl; exact rfl; (first | exact hc | exact hd | exact ht | exact hl); exact rfl; exact rfl)
 | ((with_reducible apply aw_seq))
 | ((with_reducible apply aw_region))
 | ((with_reducible apply thn_normal))
 | ((with_reducible apply aw_skip))
 | ((with_reducible apply aw_ret))
 | ((with_reducible apply ao_nil))
 | ((with_reducible apply r_move); exact rfl; exact rfl)
 | ((with_reducible apply r_assign); exact rfl; exact rfl)
 | ((with_reducible apply r_neq); exact rfl; exact rfl; exact rfl)
 | ((with_reducible apply r_sub); exact rfl; exact rfl; exact (by first | assumption | (unfold fits; omega)); exact rfl)
 | ((with_reducible apply r_mul); exact rfl; exact rfl; exact (by first | assumption | (unfold fits; omega)); exact rfl)
 | ((with_reducible apply r_max); exact rfl; exact rfl; exact rfl)
 | ((with_reducible apply r_load_fa); exact rfl; exact inferInstance; exact List.getElem?_eq_getElem (by first | assumption | omega); exact rfl; exact rfl; exact rfl)
 | ((with_reducible apply r_field_e); exact rfl; exact rfl)
 | (((with_reducible apply aw_cond); exact rfl) <;> intro hg <;> (first | (exact absurd hg (by decide)) | ((try simp only [decide_eq_true_eq, decide_eq_false_iff_not, Bool.not_eq_true', Bool.not_eq_false', Bool.not_true, Bool.not_false, Bool.not_not, Int.not_lt, Int.not_le, Nat.not_lt, Nat.not_le, gt_iff_lt, ge_iff_le, List.cons.injEq, and_true] at hg); first | (exact absurd trivial hg) | (exfalso; omega) | (have hT : True := hg; clear hT hg) | skip)))
 )
    exact ret_i rfl rfl
  · have e : taperS l = 0 := if_neg h
    rw [e]
    refine con_of Tryz.func105 rfl (by kernel_rfl) rfl ?_
    simp only [Tryz.ntmps105, Tryz.results105, argEnv, ofC, of1, List.map]
    repeat' (first
 | ((with_reducible apply r_call); exact rfl; exact rfl; exact hc; exact rfl; exact rfl)
 | ((with_reducible apply aw_seq))
 | ((with_reducible apply aw_region))
 | ((with_reducible apply thn_normal))
 | ((with_reducible apply thn_ret))
 | ((with_reducible apply aw_ret))
 | ((with_reducible apply ao_nil))
 | ((with_reducible apply r_move); exact rfl; exact rfl)
 | ((with_reducible apply r_assign); exact rfl; exact rfl)
 | ((with_reducible apply r_neq); exact rfl; exact rfl; exact rfl)
 | (((with_reducible apply aw_cond); exact rfl) <;> intro hg <;> (first | (exact absurd hg (by decide)) | ((try simp only [decide_eq_true_eq, decide_eq_false_iff_not, Bool.not_eq_true', Bool.not_eq_false', Bool.not_true, Bool.not_false, Bool.not_not, Int.not_lt, Int.not_le, Nat.not_lt, Nat.not_le, gt_iff_lt, ge_iff_le, List.cons.injEq, and_true] at hg); first | (exact absurd trivial hg) | (exfalso; omega) | (have hT : True := hg; clear hT hg) | skip)))
 )
    exact ret_i rfl rfl
set_option maxHeartbeats 4000000 in
theorem rtaper_con (l : List Slc) (hn : l.length ≤ maxLen) : Con Tryz.prog gl 113 [LL l] (I (taperS l)) := by
  have hc := rscheck_con (gl := gl) l hn
  have ht := rtop_con (gl := gl) l hn
  have hl := rslength_con (gl := gl) l hn
  by_cases h : solChk l = 0
  · have hp := sol_pos h
    have hd := rdia_con (gl := gl) (l[0]'hp).sec
    rw [lengthS_ok h] at hl
    have hlb := len_pos h
    have e1 : topS l = diaS (secD l (l.length - 1)) := if_pos h
    rw [e1] at ht
    have e2 : taperS l = max (0 : Int) (diaS (l[0]'hp).sec - diaS (secD l (l.length - 1))) * 10000 / pos l l.length := by unfold taperS; rw [if_pos h, secD_eq hp]
    rw [e2]
    have b1 := dia_bd (l[0]'hp).sec
    have b2 := dia_bd (secD l (l.length - 1))
    generalize diaS (secD l (l.length - 1)) = dt at *
    generalize diaS (l[0]'hp).sec = d0 at *
    generalize pos l l.length = n at *
    have hr := rfloor_con (gl := gl) ((d0 - dt) * 10000) n (by omega) (by omega)
    have hq : max 0 ((d0 - dt) * 10000 / n) = max 0 (d0 - dt) * 10000 / n := by
      by_cases hh : 0 ≤ d0 - dt
      · have h0 : 0 ≤ (d0 - dt) * 10000 / n := Int.ediv_nonneg (by omega) (by omega)
        rw [show max 0 (d0 - dt) = d0 - dt by omega]; omega
      · have h0 : (d0 - dt) * 10000 / n < 0 := Int.ediv_neg_of_neg_of_pos (by omega) (by omega)
        rw [show max 0 (d0 - dt) = 0 by omega, Int.zero_mul, Int.zero_ediv]; omega
    refine con_of Tryz.func113 rfl (by kernel_rfl) rfl ?_
    simp only [Tryz.ntmps113, Tryz.results113, argEnv, ofC, of1, List.map]
    repeat' (first
 | ((with_reducible apply (r_index_f (k := 0))); exact rfl; exact inferInstance; exact rfl; exact rfl; (omega); exact rfl)
 | ((with_reducible apply r_call); exact rfl; exact rfl; (first | exact hc | exact hd | exact ht | exact hl | exact hr); exact rfl; exact rfl)
 | ((with_reducible apply aw_seq))
 | ((with_reducible apply aw_region))
 | ((with_reducible apply thn_normal))
 | ((with_reducible apply aw_skip))
 | ((with_reducible apply aw_ret))
 | ((with_reducible apply ao_nil))
 | ((with_reducible apply r_move); exact rfl; exact rfl)
 | ((with_reducible apply r_assign); exact rfl; exact rfl)
 | ((with_reducible apply r_neq); exact rfl; exact rfl; exact rfl)
 | ((with_reducible apply r_sub); exact rfl; exact rfl; exact (by first | assumption | (unfold fits; omega)); exact rfl)
 | ((with_reducible apply r_mul); exact rfl; exact rfl; exact (by first | assumption | (unfold fits; omega)); exact rfl)
 | ((with_reducible apply r_max); exact rfl; exact rfl; exact rfl)
 | ((with_reducible apply r_load_fa); exact rfl; exact inferInstance; exact List.getElem?_eq_getElem (by first | assumption | omega); exact rfl; exact rfl; exact rfl)
 | ((with_reducible apply r_field_e); exact rfl; exact rfl)
 | (((with_reducible apply aw_cond); exact rfl) <;> intro hg <;> (first | (exact absurd hg (by decide)) | ((try simp only [decide_eq_true_eq, decide_eq_false_iff_not, Bool.not_eq_true', Bool.not_eq_false', Bool.not_true, Bool.not_false, Bool.not_not, Int.not_lt, Int.not_le, Nat.not_lt, Nat.not_le, gt_iff_lt, ge_iff_le, List.cons.injEq, and_true] at hg); first | (exact absurd trivial hg) | (exfalso; omega) | (have hT : True := hg; clear hT hg) | skip)))
 )
    exact ret_i rfl hq
  · have e : taperS l = 0 := if_neg h
    rw [e]
    refine con_of Tryz.func113 rfl (by kernel_rfl) rfl ?_
    simp only [Tryz.ntmps113, Tryz.results113, argEnv, ofC, of1, List.map]
    repeat' (first
 | ((with_reducible apply r_call); exact rfl; exact rfl; exact hc; exact rfl; exact rfl)
 | ((with_reducible apply aw_seq))
 | ((with_reducible apply aw_region))
 | ((with_reducible apply thn_normal))
 | ((with_reducible apply thn_ret))
 | ((with_reducible apply aw_ret))
 | ((with_reducible apply ao_nil))
 | ((with_reducible apply r_move); exact rfl; exact rfl)
 | ((with_reducible apply r_assign); exact rfl; exact rfl)
 | ((with_reducible apply r_neq); exact rfl; exact rfl; exact rfl)
 | (((with_reducible apply aw_cond); exact rfl) <;> intro hg <;> (first | (exact absurd hg (by decide)) | ((try simp only [decide_eq_true_eq, decide_eq_false_iff_not, Bool.not_eq_true', Bool.not_eq_false', Bool.not_true, Bool.not_false, Bool.not_not, Int.not_lt, Int.not_le, Nat.not_lt, Nat.not_le, gt_iff_lt, ge_iff_le, List.cons.injEq, and_true] at hg); first | (exact absurd trivial hg) | (exfalso; omega) | (have hT : True := hg; clear hT hg) | skip)))
 )
    exact ret_i rfl rfl
end Go.Proofs.YtkhljpbkebnnmaaGreatDoor.Ge
