/- GB: texts laid together. -/
import Derived.Test.YtkhljpbkebnnmaaGreatDoorMrgG0
set_option maxRecDepth 100000
/- Walks of geometry: Len, Meet of spans; valid, Area, Within of sections in both. -/
namespace Go.Proofs.YtkhljpbkebnnmaaGreatDoor.Ge
set_option linter.unusedVariables false
set_option linter.unusedSimpArgs false
open Go.RowKit Go.Proofs.YtkhljpbkebnnmaaGreatDoor.Ev
variable {gl : List (Nat × List CV)}
def wid (s : Span) : Int := max 0 (s.2 - s.1)
def meetS (a b : Span) : Span := if min a.2 b.2 ≤ max a.1 b.1 then (0, 0) else (max a.1 b.1, min a.2 b.2)
def ov (a b : Span) : Int := max 0 (min a.2 b.2 - max a.1 b.1)
theorem wid_meet (a b : Span) : wid (meetS a b) = ov a b := by
  unfold wid meetS ov
  split
  · show max 0 (0 - 0 : Int) = _; omega
  · rfl
theorem u64_wrap (n : Int) : IntKind.u64.wrap n = n % 18446744073709551616 := by simp [IntKind.wrap, IntKind.bits, IntKind.signed]
theorem size_con (a b : Int) (h : fits a ∧ fits b) : Con Tryz.prog gl 100 [.agg [I a, I b]] (.v (.int .u64 (wid (a, b)))) := by
  have h' := h
  unfold fits at h'
  refine con_of Tryz.func100 rfl (by kernel_rfl) rfl ?_
  simp only [Tryz.ntmps100, Tryz.results100, argEnv, ofC, of1, List.map]
  repeat' (first
 | ((with_reducible apply r_conv); exact rfl; exact rfl; exact rfl)
 | ((with_reducible apply r_sub_w); exact rfl; exact rfl; exact rfl)
 | ((with_reducible apply aw_seq))
 | ((with_reducible apply aw_region))
 | ((with_reducible apply thn_normal))
 | ((with_reducible apply thn_ret))
 | ((with_reducible apply aw_skip))
 | ((with_reducible apply aw_ret))
 | ((with_reducible apply ao_nil))
 | ((with_reducible apply r_assign); exact rfl; exact rfl)
 | ((with_reducible apply r_field_p); exact rfl; exact rfl)
 | ((with_reducible apply r_load_p); exact rfl; exact rfl; exact rfl; exact rfl)
 | ((with_reducible apply r_geq); exact rfl; exact rfl; exact rfl)
 | ((with_reducible apply r_box_a); exact rfl; exact rfl)
 | (((with_reducible apply aw_cond); exact rfl) <;> intro hg <;> (first | (exact absurd hg (by decide)) | ((try simp only [decide_eq_true_eq, decide_eq_false_iff_not, Bool.not_eq_true', Bool.not_eq_false', Bool.not_true, Bool.not_false, Bool.not_not, Int.not_lt, Int.not_le, Nat.not_lt, Nat.not_le, gt_iff_lt, ge_iff_le, List.cons.injEq, and_true] at hg); first | (exact absurd trivial hg) | (exfalso; omega) | (have hT : True := hg; clear hT hg) | skip)))
 )
  · exact ret_i rfl (by unfold wid; dsimp only; omega)
  · exact ret_i rfl (by rw [u64_wrap, u64_wrap, u64_wrap]; unfold wid; dsimp only; omega)
theorem limited_con (n : Int) (h : 0 ≤ n ∧ n ≤ 9223372036854775807) : Con Tryz.prog gl 99 [.v (.int .u64 n)] (I n) := by
  refine con_of Tryz.func99 rfl (by kernel_rfl) rfl ?_
  simp only [Tryz.ntmps99, Tryz.results99, argEnv, ofC, of1, List.map]
  repeat' (first
 | ((with_reducible apply r_conv); exact rfl; exact rfl; exact rfl)
 | ((with_reducible apply aw_seq))
 | ((with_reducible apply aw_region))
 | ((with_reducible apply thn_normal))
 | ((with_reducible apply aw_ret))
 | ((with_reducible apply ao_nil))
 | ((with_reducible apply r_move); exact rfl; exact rfl)
 | ((with_reducible apply r_assign); exact rfl; exact rfl)
 | ((with_reducible apply r_min); exact rfl; exact rfl; exact rfl)
 )
  exact ret_i rfl (by rw [show min n 9223372036854775807 = n by omega]; simp [IntKind.wrap, IntKind.bits, IntKind.signed]; omega)
theorem len_con (a b : Int) (h : fits a ∧ fits b) (h2 : b - a ≤ 9223372036854775807) : Con Tryz.prog gl 77 [.agg [I a, I b]] (I (wid (a, b))) := by
  refine con_of Tryz.func77 rfl (by kernel_rfl) rfl ?_
  simp only [Tryz.ntmps77, Tryz.results77, argEnv, ofC, of1, List.map]
  repeat' (first
 | ((with_reducible apply r_call); exact rfl; exact rfl; (first | exact size_con a b h | exact limited_con _ (by unfold wid; dsimp only; omega)); exact rfl; exact rfl)
 | ((with_reducible apply aw_seq))
 | ((with_reducible apply aw_region))
 | ((with_reducible apply thn_normal))
 | ((with_reducible apply aw_ret))
 | ((with_reducible apply ao_nil))
 | ((with_reducible apply r_assign); exact rfl; exact rfl)
 | ((with_reducible apply r_load_pa); exact rfl; exact rfl; exact rfl; exact rfl; exact rfl)
 | ((with_reducible apply r_box_a); exact rfl; exact rfl)
 )
  exact ret_i rfl rfl
theorem meet_con (a b c d : Int) : Con Tryz.prog gl 78 [.agg [I a, I b], .agg [I c, I d]] (spV (meetS (a, b) (c, d))) := by
  by_cases h : min b d ≤ max a c
  · have e : meetS (a, b) (c, d) = (0, 0) := if_pos h
    rw [e]
    refine con_of Tryz.func78 rfl (by kernel_rfl) rfl ?_
    simp only [Tryz.ntmps78, Tryz.results78, argEnv, ofC, of1, List.map]
    repeat' (first
 | ((with_reducible apply aw_seq))
 | ((with_reducible apply aw_region))
 | ((with_reducible apply thn_normal))
 | ((with_reducible apply thn_ret))
 | ((with_reducible apply aw_ret))
 | ((with_reducible apply ao_nil))
 | ((with_reducible apply r_field_p); exact rfl; exact rfl)
 | ((with_reducible apply r_load_p); exact rfl; exact rfl; exact rfl; exact rfl)
 | ((with_reducible apply r_geq); exact rfl; exact rfl; exact rfl)
 | ((with_reducible apply r_max); exact rfl; exact rfl; exact rfl)
 | ((with_reducible apply r_min); exact rfl; exact rfl; exact rfl)
 | ((with_reducible apply r_box_a); exact rfl; exact rfl)
 | ((with_reducible apply r_store_pa); exact rfl; exact rfl; exact rfl; exact rfl; exact rfl; exact rfl)
 | ((with_reducible apply r_build); exact rfl; exact rfl; exact rfl)
 | ((with_reducible apply r_alloc); exact rfl)
 | (((with_reducible apply aw_cond); exact rfl) <;> intro hg <;> (first | (exact absurd hg (by decide)) | ((try simp only [decide_eq_true_eq, decide_eq_false_iff_not, Bool.not_eq_true', Bool.not_eq_false', Bool.not_true, Bool.not_false, Bool.not_not, Int.not_lt, Int.not_le, Nat.not_lt, Nat.not_le, gt_iff_lt, ge_iff_le, List.cons.injEq, and_true] at hg); first | (exact absurd trivial hg) | (exfalso; omega) | (have hT : True := hg; clear hT hg) | skip)))
 )
    exact ret1 (.cell_a inferInstance rfl rfl rfl rfl (cl_cons cl_c (cl_cons cl_c cl_nil)))
  · have e : meetS (a, b) (c, d) = (max a c, min b d) := if_neg h
    rw [e]
    refine con_of Tryz.func78 rfl (by kernel_rfl) rfl ?_
    simp only [Tryz.ntmps78, Tryz.results78, argEnv, ofC, of1, List.map]
    repeat' (first
 | ((with_reducible apply aw_seq))
 | ((with_reducible apply aw_region))
 | ((with_reducible apply thn_normal))
 | ((with_reducible apply aw_skip))
 | ((with_reducible apply aw_ret))
 | ((with_reducible apply ao_nil))
 | ((with_reducible apply r_field_p); exact rfl; exact rfl)
 | ((with_reducible apply r_load_p); exact rfl; exact rfl; exact rfl; exact rfl)
 | ((with_reducible apply r_load_pa); exact rfl; exact rfl; exact rfl; exact rfl; exact rfl)
 | ((with_reducible apply r_geq); exact rfl; exact rfl; exact rfl)
 | ((with_reducible apply r_max); exact rfl; exact rfl; exact rfl)
 | ((with_reducible apply r_min); exact rfl; exact rfl; exact rfl)
 | ((with_reducible apply r_box_a); exact rfl; exact rfl)
 | ((with_reducible apply r_store_pa); exact rfl; exact rfl; exact rfl; exact rfl; exact rfl; exact rfl)
 | ((with_reducible apply r_build); exact rfl; exact rfl; exact rfl)
 | ((with_reducible apply r_alloc); exact rfl)
 | (((with_reducible apply aw_cond); exact rfl) <;> intro hg <;> (first | (exact absurd hg (by decide)) | ((try simp only [decide_eq_true_eq, decide_eq_false_iff_not, Bool.not_eq_true', Bool.not_eq_false', Bool.not_true, Bool.not_false, Bool.not_not, Int.not_lt, Int.not_le, Nat.not_lt, Nat.not_le, gt_iff_lt, ge_iff_le, List.cons.injEq, and_true] at hg); first | (exact absurd trivial hg) | (exfalso; omega) | (have hT : True := hg; clear hT hg) | skip)))
 )
    exact ret1 (.cell_a inferInstance rfl rfl rfl rfl (cl_cons cl_c (cl_cons cl_c cl_nil)))
theorem heights_con (a b : Int) (h : -100000 ≤ a ∧ a ≤ 100000 ∧ -100000 ≤ b ∧ b ≤ 100000) : Con Tryz.prog gl 130 [I a, I b] (spV (10 * a, 10 * b)) := by
  refine con_of Tryz.func130 rfl (by kernel_rfl) rfl ?_
  simp only [Tryz.ntmps130, Tryz.results130, argEnv, ofC, of1, List.map]
  repeat' (first
 | ((with_reducible apply aw_seq))
 | ((with_reducible apply aw_region))
 | ((with_reducible apply thn_normal))
 | ((with_reducible apply aw_ret))
 | ((with_reducible apply ao_nil))
 | ((with_reducible apply r_move); exact rfl; exact rfl)
 | ((with_reducible apply r_mul); exact rfl; exact rfl; exact (by first | assumption | (unfold fits; omega)); exact rfl)
 | ((with_reducible apply r_store_pa); exact rfl; exact rfl; exact rfl; exact rfl; exact rfl; exact rfl)
 | ((with_reducible apply r_build); exact rfl; exact rfl; exact rfl)
 | ((with_reducible apply r_alloc); exact rfl)
 )
  exact ret1 (.cell_a inferInstance rfl rfl rfl rfl (cl_cons cl_c (cl_cons cl_c cl_nil)))
noncomputable def valS (s : Sec) : Sec := open Classical in if secChk s = 0 then s else sec0
theorem valS_ok {s : Sec} (h : secChk s = 0) : valS s = s := by unfold valS; rw [if_pos h]
theorem valS_no {s : Sec} (h : ¬ secChk s = 0) : valS s = sec0 := by unfold valS; rw [if_neg h]
theorem valid_con (s : Sec) : Con Tryz.prog gl 108 [secC s] (secC (valS s)) := by
  by_cases h : secChk s = 0
  · rw [valS_ok h]
    refine con_of Tryz.func108 rfl (by kernel_rfl) rfl ?_
    simp only [Tryz.ntmps108, Tryz.results108, argEnv, ofC, of1, List.map]
    repeat' (first
 | ((with_reducible apply r_call); exact rfl; exact rfl; exact check_con s; exact rfl; exact rfl)
 | ((with_reducible apply aw_seq))
 | ((with_reducible apply aw_region))
 | ((with_reducible apply thn_normal))
 | ((with_reducible apply aw_skip))
 | ((with_reducible apply aw_ret))
 | ((with_reducible apply ao_nil))
 | ((with_reducible apply r_load_pa); exact rfl; exact rfl; exact rfl; exact rfl; exact rfl)
 | ((with_reducible apply r_neq); exact rfl; exact rfl; exact rfl)
 | ((with_reducible apply r_box_a); exact rfl; exact rfl)
 | ((with_reducible apply r_store_pa); exact rfl; exact rfl; exact rfl; exact rfl; exact rfl; exact rfl)
 | ((with_reducible apply r_alloc); exact rfl)
 | (((with_reducible apply aw_cond); exact rfl) <;> intro hg <;> (first | (exact absurd hg (by decide)) | ((try simp only [decide_eq_true_eq, decide_eq_false_iff_not, Bool.not_eq_true', Bool.not_eq_false', Bool.not_true, Bool.not_false, Bool.not_not, Int.not_lt, Int.not_le, Nat.not_lt, Nat.not_le, gt_iff_lt, ge_iff_le, List.cons.injEq, and_true] at hg); first | (exact absurd trivial hg) | (exfalso; omega) | (have hT : True := hg; clear hT hg) | skip)))
 )
    exact ret1 (.cell_a inferInstance rfl rfl rfl rfl (cl_cons cl_c (cl_cons cl_c cl_nil)))
  · rw [valS_no h]
    refine con_of Tryz.func108 rfl (by kernel_rfl) rfl ?_
    simp only [Tryz.ntmps108, Tryz.results108, argEnv, ofC, of1, List.map]
    repeat' (first
 | ((with_reducible apply r_call); exact rfl; exact rfl; exact check_con s; exact rfl; exact rfl)
 | ((with_reducible apply aw_seq))
 | ((with_reducible apply aw_region))
 | ((with_reducible apply thn_normal))
 | ((with_reducible apply thn_ret))
 | ((with_reducible apply aw_ret))
 | ((with_reducible apply ao_nil))
 | ((with_reducible apply r_load_pa); exact rfl; exact rfl; exact rfl; exact rfl; exact rfl)
 | ((with_reducible apply r_neq); exact rfl; exact rfl; exact rfl)
 | ((with_reducible apply r_box_a); exact rfl; exact rfl)
 | ((with_reducible apply r_store_pa); exact rfl; exact rfl; exact rfl; exact rfl; exact rfl; exact rfl)
 | ((with_reducible apply r_build); exact rfl; exact rfl; exact rfl)
 | ((with_reducible apply r_alloc); exact rfl)
 | (((with_reducible apply aw_cond); exact rfl) <;> intro hg <;> (first | (exact absurd hg (by decide)) | ((try simp only [decide_eq_true_eq, decide_eq_false_iff_not, Bool.not_eq_true', Bool.not_eq_false', Bool.not_true, Bool.not_false, Bool.not_not, Int.not_lt, Int.not_le, Nat.not_lt, Nat.not_le, gt_iff_lt, ge_iff_le, List.cons.injEq, and_true] at hg); first | (exact absurd trivial hg) | (exfalso; omega) | (have hT : True := hg; clear hT hg) | skip)))
 )
    exact ret1 (.cell_a inferInstance rfl rfl rfl rfl (cl_cons cl_c (cl_cons cl_none cl_nil)))
theorem rvalid_con (s : Sec) : Con Tryz.prog gl 115 [secC s] (secC (valS s)) := by
  by_cases h : secChk s = 0
  · rw [valS_ok h]
    refine con_of Tryz.func115 rfl (by kernel_rfl) rfl ?_
    simp only [Tryz.ntmps115, Tryz.results115, argEnv, ofC, of1, List.map]
    repeat' (first
 | ((with_reducible apply r_call); exact rfl; exact rfl; exact rcheck_con s; exact rfl; exact rfl)
 | ((with_reducible apply aw_seq))
 | ((with_reducible apply aw_region))
 | ((with_reducible apply thn_normal))
 | ((with_reducible apply aw_skip))
 | ((with_reducible apply aw_ret))
 | ((with_reducible apply ao_nil))
 | ((with_reducible apply r_load_pa); exact rfl; exact rfl; exact rfl; exact rfl; exact rfl)
 | ((with_reducible apply r_neq); exact rfl; exact rfl; exact rfl)
 | ((with_reducible apply r_box_a); exact rfl; exact rfl)
 | ((with_reducible apply r_store_pa); exact rfl; exact rfl; exact rfl; exact rfl; exact rfl; exact rfl)
 | ((with_reducible apply r_alloc); exact rfl)
 | (((with_reducible apply aw_cond); exact rfl) <;> intro hg <;> (first | (exact absurd hg (by decide)) | ((try simp only [decide_eq_true_eq, decide_eq_false_iff_not, Bool.not_eq_true', Bool.not_eq_false', Bool.not_true, Bool.not_false, Bool.not_not, Int.not_lt, Int.not_le, Nat.not_lt, Nat.not_le, gt_iff_lt, ge_iff_le, List.cons.injEq, and_true] at hg); first | (exact absurd trivial hg) | (exfalso; omega) | (have hT : True := hg; clear hT hg) | skip)))
 )
    exact ret1 (.cell_a inferInstance rfl rfl rfl rfl (cl_cons cl_c (cl_cons cl_c cl_nil)))
  · rw [valS_no h]
    refine con_of Tryz.func115 rfl (by kernel_rfl) rfl ?_
    simp only [Tryz.ntmps115, Tryz.results115, argEnv, ofC, of1, List.map]
    repeat' (first
 | ((with_reducible apply r_call); exact rfl; exact rfl; exact rcheck_con s; exact rfl; exact rfl)
 | ((with_reducible apply aw_seq))
 | ((with_reducible apply aw_region))
 | ((with_reducible apply thn_normal))
 | ((with_reducible apply thn_ret))
 | ((with_reducible apply aw_ret))
 | ((with_reducible apply ao_nil))
 | ((with_reducible apply r_load_pa); exact rfl; exact rfl; exact rfl; exact rfl; exact rfl)
 | ((with_reducible apply r_neq); exact rfl; exact rfl; exact rfl)
 | ((with_reducible apply r_box_a); exact rfl; exact rfl)
 | ((with_reducible apply r_store_pa); exact rfl; exact rfl; exact rfl; exact rfl; exact rfl; exact rfl)
 | ((with_reducible apply r_build); exact rfl; exact rfl; exact rfl)
 | ((with_reducible apply r_alloc); exact rfl)
 | (((with_reducible apply aw_cond); exact rfl) <;> intro hg <;> (first | (exact absurd hg (by decide)) | ((try simp only [decide_eq_true_eq, decide_eq_false_iff_not, Bool.not_eq_true', Bool.not_eq_false', Bool.not_true, Bool.not_false, Bool.not_not, Int.not_lt, Int.not_le, Nat.not_lt, Nat.not_le, gt_iff_lt, ge_iff_le, List.cons.injEq, and_true] at hg); first | (exact absurd trivial hg) | (exfalso; omega) | (have hT : True := hg; clear hT hg) | skip)))
 )
    exact ret1 (.cell_a inferInstance rfl rfl rfl rfl (cl_cons cl_c (cl_cons cl_none cl_nil)))
structure SecV (s : Sec) : Prop where
  len : s.rows.length ≤ 120
  low : -60 ≤ s.low
  high : s.low + s.rows.length ≤ 60
  row : ∀ i (h : i < s.rows.length), -600 ≤ s.rows[i].1 ∧ s.rows[i].1 ≤ s.rows[i].2 ∧ s.rows[i].2 ≤ 600
  zero : ∀ i (h : i < s.rows.length), s.rows[i].1 < s.rows[i].2 ∨ s.rows[i] = (0, 0)
  ends : ∀ h : 0 < s.rows.length, (s.rows[0]'h).1 < (s.rows[0]'h).2 ∧ (s.rows[s.rows.length - 1]'(by omega)).1 < (s.rows[s.rows.length - 1]'(by omega)).2
  none : s.rows.length = 0 → s.low = 0
theorem chk_is {s : Sec} (h : secChk s = 0) : SecV s := by
  have h1 : ¬ 120 < s.rows.length := fun hh => by rw [← sc_long hh] at h; cases h
  have h2 : headOk s := Classical.byContradiction fun hh => by rw [← sc_head h1 hh] at h; cases h
  have h3 : ∀ i (h : i < s.rows.length), rangeS s.rows[i] = true := fun i hi => by
    cases hr : rangeS s.rows[i] with
    | true => rfl
    | false => rw [← sc_range h1 h2 hi hr] at h; cases h
  have r : SecR s := ⟨h1, h2, h3⟩
  unfold headOk at h2
  by_cases h0 : s.rows.length = 0
  · refine ⟨by omega, by omega, by omega, fun i hi => by omega, fun i hi => by omega, fun hh => by omega, fun _ => ?_⟩
    rw [sc_none r h0] at h
    split at h
    · assumption
    · cases h
  have h4 : ¬ endsBad s.rows := fun hh => by rw [← sc_ends r h0 hh] at h; cases h
  have h5 : ∀ i (h : i < s.rows.length), okRow s.rows[i] = true := fun i hi => by
    cases hr : okRow s.rows[i] with
    | true => rfl
    | false => rw [← sc_row r h0 h4 hi hr] at h; cases h
  have h6 : ∀ i (h : i < s.rows.length), s.rows[i].1 < s.rows[i].2 ∨ s.rows[i] = (0, 0) := fun i hi => by
    have := h5 i hi
    unfold okRow emptyS at this
    simp at this
    rcases this with h | h
    · exact .inl h
    · exact .inr (Prod.ext h.1 h.2)
  refine ⟨by omega, by omega, by omega, fun i hi => ?_, h6, fun hh => ?_, fun hh => absurd hh h0⟩
  · have := range_get (h3 i hi)
    rcases h6 i hi with h | h
    · omega
    · rw [h]; decide
  · unfold endsBad at h4
    have a1 : ¬ emptyS (s.rows[0]'hh) = true := fun e => h4 ⟨hh, .inl e⟩
    have a2 : ¬ emptyS (s.rows[s.rows.length - 1]'(by omega)) = true := fun e => h4 ⟨hh, .inr e⟩
    unfold emptyS at a1 a2
    simp at a1 a2
    exact ⟨a1, a2⟩
theorem sec0_V : SecV sec0 := ⟨by decide, by decide, by decide, fun i hi => (by cases hi), fun i hi => (by cases hi), fun h => (by cases h), fun _ => rfl⟩
theorem valS_V (s : Sec) : SecV (valS s) := by
  by_cases h : secChk s = 0
  · rw [valS_ok h]; exact chk_is h
  · rw [valS_no h]; exact sec0_V
def sumN (f : Nat → Int) : Nat → Int
  | 0 => 0
  | n + 1 => sumN f n + f n
theorem sumN_bd {f : Nat → Int} {c : Int} {n : Nat} (h : ∀ i, i < n → 0 ≤ f i ∧ f i ≤ c) : ∀ j, j ≤ n → 0 ≤ sumN f j ∧ sumN f j ≤ c * j
  | 0, _ => by simp [sumN]
  | j + 1, hj => by
    have ih := sumN_bd h j (by omega)
    have h1 := h j (by omega)
    unfold sumN
    rw [show ((j + 1 : Nat) : Int) = (j : Int) + 1 by omega, Int.mul_add]; omega
def rowD (s : Sec) (i : Nat) : Span := s.rows.getD i (0, 0)
theorem rowD_eq {s : Sec} {i : Nat} (h : i < s.rows.length) : rowD s i = s.rows[i] := by unfold rowD; rw [List.getD_eq_getElem?_getD, List.getElem?_eq_getElem h]; rfl
def areaV (s : Sec) : Int := 10 * sumN (fun i => wid (rowD s i)) s.rows.length
noncomputable def areaS (s : Sec) : Int := areaV (valS s)
theorem wid_row {s : Sec} (v : SecV s) {i : Nat} (hi : i < s.rows.length) : wid (rowD s i) = s.rows[i].2 - s.rows[i].1 ∧ 0 ≤ wid (rowD s i) ∧ wid (rowD s i) ≤ 1200 := by
  have := v.row i hi
  rw [rowD_eq hi]; unfold wid; omega
set_option maxHeartbeats 4000000 in
theorem area_con (s : Sec) : Con Tryz.prog gl 82 [secC s] (I (areaS s)) := by
  have hv := valid_con (gl := gl) s
  have v := valS_V s
  unfold areaS areaV
  generalize valS s = u at *
  have hl := v.len
  have hb := sumN_bd (f := fun i => wid (rowD u i)) (c := 1200) (n := u.rows.length) (fun i hi => (wid_row v hi).2)
  refine con_of Tryz.func82 rfl (by kernel_rfl) rfl ?_
  simp only [Tryz.ntmps82, Tryz.results82, argEnv, ofC, of1, List.map]
  repeat' (first
 | ((with_reducible apply r_call); exact rfl; exact rfl; exact hv; exact rfl; exact rfl)
 | ((with_reducible apply aw_seq))
 | ((with_reducible apply aw_region))
 | ((with_reducible apply aw_block))
 | ((with_reducible apply thn_normal))
 | ((with_reducible apply ao_nil))
 | ((with_reducible apply r_move); exact rfl; exact rfl)
 | ((with_reducible apply r_assign); exact rfl; exact rfl)
 | ((with_reducible apply r_load_pa); exact rfl; exact rfl; exact rfl; exact rfl; exact rfl)
 | ((with_reducible apply r_box_a); exact rfl; exact rfl)
 | ((with_reducible apply r_len_f); exact rfl; exact inferInstance; exact rfl)
 | ((with_reducible apply r_fieldv_s); exact rfl; exact rfl; exact rfl)
 )
  refine aw_loopG (G := Nat × Int) (fun ((j, t) : Nat × Int) => j ≤ u.rows.length ∧ t = sumN (fun i => wid (rowD u i)) j) (fun ((j, t) : Nat × Int) => u.rows.length - j) (fun ((j, t) : Nat × Int) => [(3, A t), (8, .c (LS u.rows)), (9, A u.rows.length), (10, A j)]) (fun ((j, t) : Nat × Int) => [(0, some (secB s))]) 1 (0, 0) ?_ (by refine weak_mk rfl ?_ ?_ <;> repeat (first | exact envW_nil | exact heapW_nil | refine envW_cons rfl rfl ?_ | refine heapW_cons rfl rfl rfl ?_)) rfl ?_
  · exact ⟨Nat.zero_le _, rfl⟩
  rintro ⟨j, t⟩ hI
  try dsimp only at hI
  try dsimp only
  obtain ⟨hj, ht⟩ := hI
  have hbj := hb j hj
  rw [← ht] at hbj
  by_cases hjl : j < u.rows.length
  · have hr := v.row j hjl
    have hw : wid (u.rows[j].1, u.rows[j].2) = wid (rowD u j) := by rw [rowD_eq hjl]
    have hw2 := (wid_row v hjl).2
    have hc := len_con (gl := gl) u.rows[j].1 u.rows[j].2 (by unfold fits; omega) (by omega)
    rw [hw] at hc
    repeat' (first
 | ((with_reducible apply r_call); exact rfl; exact rfl; exact hc; exact rfl; exact rfl)
 | ((with_reducible apply aw_seq))
 | ((with_reducible apply aw_region))
 | ((with_reducible apply aw_block))
 | ((with_reducible apply thn_normal))
 | ((with_reducible apply inb_normal))
 | ((with_reducible apply aw_skip))
 | ((with_reducible apply ao_nil))
 | ((with_reducible apply r_move); exact rfl; exact rfl)
 | ((with_reducible apply r_assign); exact rfl; exact rfl)
 | ((with_reducible apply r_load_pa); exact rfl; exact rfl; exact rfl; exact rfl; exact rfl)
 | ((with_reducible apply r_lss); exact rfl; exact rfl; exact rfl)
 | ((with_reducible apply r_add); exact rfl; exact rfl; exact (by first | assumption | (unfold fits; omega)); exact rfl)
 | ((with_reducible apply r_index_f); exact rfl; exact inferInstance; exact rfl; exact rfl; (first | assumption | omega); exact rfl)
 | ((with_reducible apply r_load_fa0); exact rfl; exact inferInstance; exact List.getElem?_eq_getElem (by first | assumption | omega); exact rfl; exact rfl; exact rfl)
 | ((with_reducible apply r_store_pa); exact rfl; exact rfl; exact rfl; exact rfl; exact rfl; exact rfl)
 | ((with_reducible apply r_alloc); exact rfl)
 | (((with_reducible apply aw_cond); exact rfl) <;> intro hg <;> (first | (exact absurd hg (by decide)) | ((try simp only [decide_eq_true_eq, decide_eq_false_iff_not, Bool.not_eq_true', Bool.not_eq_false', Bool.not_true, Bool.not_false, Bool.not_not, Int.not_lt, Int.not_le, Nat.not_lt, Nat.not_le, gt_iff_lt, ge_iff_le, List.cons.injEq, and_true] at hg); first | (exact absurd trivial hg) | (exfalso; omega) | (have hT : True := hg; clear hT hg) | skip)))
 )
    refine ⟨(j + 1, t + wid (rowD u j)), ?_, ?_, by refine weak_mk rfl ?_ ?_ <;> repeat (first | exact envW_nil | exact heapW_nil | refine envW_cons rfl rfl ?_ | refine heapW_cons rfl rfl rfl ?_)⟩
    · show _ - (j + 1) < _ - j; omega
    · exact ⟨by show j + 1 ≤ _; omega, by show t + _ = sumN _ j + _; rw [ht]⟩
  · obtain rfl : j = u.rows.length := by omega
    repeat' (first
 | ((with_reducible apply aw_seq))
 | ((with_reducible apply aw_region))
 | ((with_reducible apply thn_normal))
 | ((with_reducible apply thn_exit))
 | ((with_reducible apply inb_exit))
 | ((with_reducible apply aw_exit))
 | ((with_reducible apply aw_ret))
 | ((with_reducible apply ao_nil))
 | ((with_reducible apply r_move); exact rfl; exact rfl)
 | ((with_reducible apply r_assign); exact rfl; exact rfl)
 | ((with_reducible apply r_lss); exact rfl; exact rfl; exact rfl)
 | ((with_reducible apply r_mul); exact rfl; exact rfl; exact (by first | assumption | (unfold fits; omega)); exact rfl)
 | (((with_reducible apply aw_cond); exact rfl) <;> intro hg <;> (first | (exact absurd hg (by decide)) | ((try simp only [decide_eq_true_eq, decide_eq_false_iff_not, Bool.not_eq_true', Bool.not_eq_false', Bool.not_true, Bool.not_false, Bool.not_not, Int.not_lt, Int.not_le, Nat.not_lt, Nat.not_le, gt_iff_lt, ge_iff_le, List.cons.injEq, and_true] at hg); first | (exact absurd trivial hg) | (exfalso; omega) | (have hT : True := hg; clear hT hg) | skip)))
 )
    exact ret_i rfl (by rw [ht])
set_option maxHeartbeats 4000000 in
theorem rarea_con (s : Sec) : Con Tryz.prog gl 88 [secC s] (I (areaS s)) := by
  have hv := rvalid_con (gl := gl) s
  have v := valS_V s
  unfold areaS areaV
  generalize valS s = u at *
  have hl := v.len
  have hb := sumN_bd (f := fun i => wid (rowD u i)) (c := 1200) (n := u.rows.length) (fun i hi => (wid_row v hi).2)
  refine con_of Tryz.func88 rfl (by kernel_rfl) rfl ?_
  simp only [Tryz.ntmps88, Tryz.results88, argEnv, ofC, of1, List.map]
  repeat' (first
 | ((with_reducible apply r_call); exact rfl; exact rfl; exact hv; exact rfl; exact rfl)
 | ((with_reducible apply aw_seq))
 | ((with_reducible apply aw_region))
 | ((with_reducible apply aw_block))
 | ((with_reducible apply thn_normal))
 | ((with_reducible apply ao_nil))
 | ((with_reducible apply r_assign); exact rfl; exact rfl)
 | ((with_reducible apply r_load_pa); exact rfl; exact rfl; exact rfl; exact rfl; exact rfl)
 | ((with_reducible apply r_box_a); exact rfl; exact rfl)
 | ((with_reducible apply r_store_pa); exact rfl; exact rfl; exact rfl; exact rfl; exact rfl; exact rfl)
 )
  refine aw_loopG (G := Nat × Int) (fun ((j, t) : Nat × Int) => j ≤ u.rows.length ∧ t = 10 * sumN (fun i => wid (rowD u i)) j) (fun ((j, t) : Nat × Int) => u.rows.length - j) (fun ((j, t) : Nat × Int) => [(1, .ptr 0 0), (3, A t), (4, A j)]) (fun ((j, t) : Nat × Int) => [(0, some (secB u))]) 1 (0, 0) ?_ (by refine weak_mk rfl ?_ ?_ <;> repeat (first | exact envW_nil | exact heapW_nil | refine envW_cons rfl rfl ?_ | refine heapW_cons rfl rfl rfl ?_)) rfl ?_
  · exact ⟨Nat.zero_le _, rfl⟩
  rintro ⟨j, t⟩ hI
  try dsimp only at hI
  try dsimp only
  obtain ⟨hj, ht⟩ := hI
  have hbj := hb j hj
  by_cases hjl : j < u.rows.length
  · have hr := v.row j hjl
    have hw2 := wid_row v hjl
    repeat' (first
 | ((with_reducible apply aw_seq))
 | ((with_reducible apply aw_region))
 | ((with_reducible apply aw_block))
 | ((with_reducible apply thn_normal))
 | ((with_reducible apply inb_normal))
 | ((with_reducible apply aw_skip))
 | ((with_reducible apply ao_nil))
 | ((with_reducible apply r_move); exact rfl; exact rfl)
 | ((with_reducible apply r_assign); exact rfl; exact rfl)
 | ((with_reducible apply r_field_p); exact rfl; exact rfl)
 | ((with_reducible apply r_load_p); exact rfl; exact rfl; exact rfl; exact rfl)
 | ((with_reducible apply r_lss); exact rfl; exact rfl; exact rfl)
 | ((with_reducible apply r_add); exact rfl; exact rfl; exact (by first | assumption | (unfold fits; omega)); exact rfl)
 | ((with_reducible apply r_sub); exact rfl; exact rfl; exact (by first | assumption | (unfold fits; omega)); exact rfl)
 | ((with_reducible apply r_mul); exact rfl; exact rfl; exact (by first | assumption | (unfold fits; omega)); exact rfl)
 | ((with_reducible apply r_len_f); exact rfl; exact inferInstance; exact rfl)
 | ((with_reducible apply r_index_f); exact rfl; exact inferInstance; exact rfl; exact rfl; (first | assumption | omega); exact rfl)
 | ((with_reducible apply r_load_f0); exact rfl; exact inferInstance; exact List.getElem?_eq_getElem (by first | assumption | omega); exact rfl; exact rfl)
 | ((with_reducible apply r_load_f); exact rfl; exact inferInstance; exact List.getElem?_eq_getElem (by first | assumption | omega); exact rfl; exact rfl; exact rfl)
 | ((with_reducible apply r_field_e); exact rfl; exact rfl)
 | (((with_reducible apply aw_cond); exact rfl) <;> intro hg <;> (first | (exact absurd hg (by decide)) | ((try simp only [decide_eq_true_eq, decide_eq_false_iff_not, Bool.not_eq_true', Bool.not_eq_false', Bool.not_true, Bool.not_false, Bool.not_not, Int.not_lt, Int.not_le, Nat.not_lt, Nat.not_le, gt_iff_lt, ge_iff_le, List.cons.injEq, and_true] at hg); first | (exact absurd trivial hg) | (exfalso; omega) | (have hT : True := hg; clear hT hg) | skip)))
 | (refine aw_drawq ?_ ?_; (kernel_rfl))
 | ((with_reducible apply ds_nil))
 )
    refine ⟨(j + 1, t + 10 * (u.rows[j].2 - u.rows[j].1)), ?_, ?_, by refine weak_mk rfl ?_ ?_ <;> repeat (first | exact envW_nil | exact heapW_nil | refine envW_cons rfl rfl ?_ | refine heapW_cons rfl rfl rfl ?_)⟩
    · show _ - (j + 1) < _ - j; omega
    · exact ⟨by show j + 1 ≤ _; omega, by show t + 10 * (u.rows[j].2 - u.rows[j].1) = 10 * (sumN _ j + wid (rowD u j)); rw [ht, hw2.1]; omega⟩
  · obtain rfl : j = u.rows.length := by omega
    repeat' (first
 | ((with_reducible apply aw_seq))
 | ((with_reducible apply aw_region))
 | ((with_reducible apply thn_normal))
 | ((with_reducible apply thn_exit))
 | ((with_reducible apply inb_exit))
 | ((with_reducible apply aw_exit))
 | ((with_reducible apply aw_ret))
 | ((with_reducible apply ao_nil))
 | ((with_reducible apply r_move); exact rfl; exact rfl)
 | ((with_reducible apply r_assign); exact rfl; exact rfl)
 | ((with_reducible apply r_field_p); exact rfl; exact rfl)
 | ((with_reducible apply r_load_p); exact rfl; exact rfl; exact rfl; exact rfl)
 | ((with_reducible apply r_lss); exact rfl; exact rfl; exact rfl)
 | ((with_reducible apply r_len_f); exact rfl; exact inferInstance; exact rfl)
 | (((with_reducible apply aw_cond); exact rfl) <;> intro hg <;> (first | (exact absurd hg (by decide)) | ((try simp only [decide_eq_true_eq, decide_eq_false_iff_not, Bool.not_eq_true', Bool.not_eq_false', Bool.not_true, Bool.not_false, Bool.not_not, Int.not_lt, Int.not_le, Nat.not_lt, Nat.not_le, gt_iff_lt, ge_iff_le, List.cons.injEq, and_true] at hg); first | (exact absurd trivial hg) | (exfalso; omega) | (have hT : True := hg; clear hT hg) | skip)))
 )
    exact ret_i rfl (by rw [ht])
theorem mul_bd2 {a b m k : Int} (h1 : 0 ≤ a ∧ a ≤ m) (h2 : 0 ≤ b ∧ b ≤ k) : 0 ≤ a * b ∧ a * b ≤ m * k := by
  refine ⟨Int.mul_nonneg h1.1 h2.1, ?_⟩
  exact Int.le_trans (Int.mul_le_mul_of_nonneg_right h1.2 h2.1) (Int.mul_le_mul_of_nonneg_left h2.2 (by omega))
theorem meet_bd {a X : Span} (h : -600000 ≤ a.1 ∧ a.2 ≤ 600000 ∧ a.1 ≤ a.2) : -600000 ≤ (meetS a X).1 ∧ (meetS a X).1 ≤ 600000 ∧ -600000 ≤ (meetS a X).2 ∧ (meetS a X).2 ≤ 600000 := by
  unfold meetS; split
  · exact ⟨by decide, by decide, by decide, by decide⟩
  · dsimp only; omega
theorem len_meet {a X : Span} (h : -600000 ≤ a.1 ∧ a.2 ≤ 600000 ∧ a.1 ≤ a.2) : Con Tryz.prog gl 77 [spV (meetS a X)] (I (ov a X)) := by
  have := meet_bd (X := X) h
  rw [← wid_meet]
  exact len_con _ _ (by unfold fits; omega) (by omega)
end Go.Proofs.YtkhljpbkebnnmaaGreatDoor.Ge
