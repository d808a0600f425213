/- Walks of the laws on classes. -/
import Derived.Test.YtokkpocccgdilaaMH
namespace Go.Proofs.Ytokkpocccgdilaa.Ge
set_option linter.unusedVariables false
set_option linter.unusedSimpArgs false
open Go.RowKit Go.Proofs.Ytokkpocccgdilaa.Ev
variable {gl : List (Nat × List CV)}

abbrev KQ (K : List Kl) : Prop := K.length ≤ maxLen
abbrev Lg := List Slc × List Dfc
abbrev LgQ (x : Lg) : Prop := x.1.length ≤ maxLen ∧ x.2.length ≤ maxLen
abbrev lgV (x : Lg) : CV := .agg [LL x.1, LD x.2]
set_option maxRecDepth 100000 in
set_option maxHeartbeats 8000000 in
theorem kchecks_law (K : List Kl) (hK : KQ K) : Con Try.prog gl 3 [LK K] T := by
  obtain ⟨b, _, hs⟩ := kshort_con (gl := gl) K hK
  have h1 := kcheck_con (gl := gl) K hK
  have h2 := rkcheck_con (gl := gl) K hK
  refine con_of Try.func3 rfl (by kernel_rfl) rfl ?_
  simp only [Try.ntmps3, Try.results3, argEnv, ofC, of1, List.map]
  cases b
  all_goals
    repeat' (first
      | ((with_reducible apply r_call); exact rfl; exact rfl; (first | exact hs | exact h1 | exact h2 | exact awake16_con); exact rfl; exact rfl)
      | ((with_reducible apply aw_seq))
      | ((with_reducible apply aw_region))
      | ((with_reducible apply thn_normal))
      | ((with_reducible apply aw_ret))
      | ((with_reducible apply ao_nil))
      | ((with_reducible apply r_move); exact rfl; exact rfl)
      | ((with_reducible apply r_assign); exact rfl; exact rfl)
      | ((with_reducible apply r_eql); exact rfl; exact rfl; exact rfl)
      | ((with_reducible apply r_pick_t); exact rfl; exact rfl; exact rfl)
      | ((with_reducible apply r_pick_f); exact rfl; exact rfl; exact rfl)
      | ((with_reducible apply r_not); exact rfl; exact rfl)
      | (((with_reducible apply r_guard); exact rfl; exact rfl; exact rfl; exact rfl) <;> intro hg <;> (first | (exact absurd hg (by decide)) | ((try simp only [decide_eq_true_eq, decide_eq_false_iff_not, Bool.not_eq_true', Bool.not_eq_false', Bool.not_true, Bool.not_false, Bool.not_not, Int.not_lt, Int.not_le, Nat.not_lt, Nat.not_le, gt_iff_lt, ge_iff_le, List.cons.injEq, and_true] at hg); first | (exact absurd trivial hg) | (exfalso; omega) | (have hT : True := hg; clear hT hg) | skip)))
      )
    all_goals first | exact ret_b rfl rfl | exact ret_b rfl (by simp) | trace_state
set_option maxRecDepth 100000 in
set_option maxHeartbeats 8000000 in
theorem kfits_law (c : Kl) (_ : True) (x : Lg) (hx : LgQ x) : Con Try.prog gl 4 [klV c, lgV x] T := by
  obtain ⟨l, d⟩ := x
  have hs := few_con (gl := gl) l d hx.1
  have h1 := fits_con (gl := gl) c l d hx.1 hx.2
  have h2 := rfits_con (gl := gl) c l d hx.1 hx.2
  refine con_of Try.func4 rfl (by kernel_rfl) rfl ?_
  simp only [Try.ntmps4, Try.results4, argEnv, ofC, of1, List.map]
  cases hf : fewS l d with
  | false =>
    rw [hf] at hs
    repeat' (first
      | ((with_reducible apply r_call); exact rfl; exact rfl; (first | exact hs | exact awake16_con); exact rfl; exact rfl)
      | ((with_reducible apply aw_seq))
      | ((with_reducible apply aw_region))
      | ((with_reducible apply thn_normal))
      | ((with_reducible apply thn_ret))
      | ((with_reducible apply aw_ret))
      | ((with_reducible apply ao_nil))
      | ((with_reducible apply r_assign); exact rfl; exact rfl)
      | ((with_reducible apply r_load_pa); exact rfl; exact rfl; exact rfl; exact rfl; exact rfl)
      | ((with_reducible apply r_box_a); exact rfl; exact rfl)
      | ((with_reducible apply r_not); exact rfl; exact rfl)
      | (((with_reducible apply aw_cond); exact rfl) <;> intro hg <;> (first | (exact absurd hg (by decide)) | ((try simp only [decide_eq_true_eq, decide_eq_false_iff_not, Bool.not_eq_true', Bool.not_eq_false', Bool.not_true, Bool.not_false, Bool.not_not, Int.not_lt, Int.not_le, Nat.not_lt, Nat.not_le, gt_iff_lt, ge_iff_le, List.cons.injEq, and_true] at hg); first | (exact absurd trivial hg) | (exfalso; omega) | (have hT : True := hg; clear hT hg) | skip)))
      )
    all_goals first | exact ret_b rfl rfl | trace_state
  | true =>
    rw [hf] at hs
    cases hb : fitS l d c <;> rw [hb] at h1 h2
    all_goals
      repeat' (first
        | ((with_reducible apply r_call); exact rfl; exact rfl; (first | exact hs | exact h1 | exact h2 | exact awake16_con); exact rfl; exact rfl)
        | ((with_reducible apply r_eqb); exact rfl; exact rfl; exact Try.underlying4; exact rfl)
        | (rw [show ((true : Bool) == true) = true from rfl])
        | (rw [show ((false : Bool) == false) = true from rfl])
        | ((with_reducible apply aw_seq))
        | ((with_reducible apply aw_region))
        | ((with_reducible apply thn_normal))
        | ((with_reducible apply aw_skip))
        | ((with_reducible apply aw_ret))
        | ((with_reducible apply ao_nil))
        | ((with_reducible apply r_move); exact rfl; exact rfl)
        | ((with_reducible apply r_assign); exact rfl; exact rfl)
        | ((with_reducible apply r_field_p); exact rfl; exact rfl)
        | ((with_reducible apply r_load_p); exact rfl; exact rfl; exact rfl; exact rfl)
        | ((with_reducible apply r_load_pa); exact rfl; exact rfl; exact rfl; exact rfl; exact rfl)
        | ((with_reducible apply r_box_a); exact rfl; exact rfl)
        | ((with_reducible apply r_pick_t); exact rfl; exact rfl; exact rfl)
        | ((with_reducible apply r_not); exact rfl; exact rfl)
        | (((with_reducible apply aw_cond); exact rfl) <;> intro hg <;> (first | (exact absurd hg (by decide)) | ((try simp only [decide_eq_true_eq, decide_eq_false_iff_not, Bool.not_eq_true', Bool.not_eq_false', Bool.not_true, Bool.not_false, Bool.not_not, Int.not_lt, Int.not_le, Nat.not_lt, Nat.not_le, gt_iff_lt, ge_iff_le, List.cons.injEq, and_true] at hg); first | (exact absurd trivial hg) | (exfalso; omega) | (have hT : True := hg; clear hT hg) | skip)))
        | (refine aw_drawq ?_ ?_; (kernel_rfl))
        | ((with_reducible apply ds_nil))
        | (((with_reducible apply rd_guard); exact rfl; exact rfl; exact rfl) <;> intro hg <;> (first | (exact absurd hg (by decide)) | ((try rw [hg]); (try simp only [decide_eq_true_eq, decide_eq_false_iff_not, Bool.not_eq_true', Bool.not_eq_false', Bool.not_true, Bool.not_false, Bool.not_not, Int.not_lt, Int.not_le, Nat.not_lt, Nat.not_le, gt_iff_lt, ge_iff_le, List.cons.injEq, and_true] at hg); first | (exact absurd trivial hg) | (exfalso; omega) | (have hT : True := hg; clear hT hg) | skip)))
        )
      all_goals first | exact ret_b rfl rfl | trace_state
set_option maxRecDepth 100000 in
set_option maxHeartbeats 8000000 in
theorem kprices_law (K : List Kl) (hK : KQ K) (x : Lg) (hx : LgQ x) : Con Try.prog gl 5 [LK K, lgV x] T := by
  obtain ⟨l, d⟩ := x
  obtain ⟨b, _, hs⟩ := kshort_con (gl := gl) K hK
  have hs2 := few_con (gl := gl) l d hx.1
  have h1 := of_con (gl := gl) K l d hK hx.1 hx.2
  have h2 := rof_con (gl := gl) K l d hK hx.1 hx.2
  have h3 := price_con (gl := gl) K l d hK hx.1 hx.2
  have h4 := rprice_con (gl := gl) K l d hK hx.1 hx.2
  refine con_of Try.func5 rfl (by kernel_rfl) rfl ?_
  simp only [Try.ntmps5, Try.results5, argEnv, ofC, of1, List.map]
  generalize fewS l d = f at hs2
  generalize priceS K l d = p at h3 h4
  generalize ofS K l d = o at h1 h2
  obtain ⟨i, y⟩ := o
  change Con _ _ _ _ (.tup [I i, .v (.bool y)]) at h1 h2
  cases b <;> cases f <;> cases y
  all_goals
    repeat' (first
      | ((with_reducible apply r_call); exact rfl; exact rfl; (first | exact hs | exact hs2 | exact h1 | exact h2 | exact h3 | exact h4 | exact awake16_con); exact rfl; exact rfl)
      | ((with_reducible apply r_eqb); exact rfl; exact rfl; exact Try.underlying4; exact rfl)
      | (rw [show ((true : Bool) == true) = true from rfl])
      | (rw [show ((false : Bool) == false) = true from rfl])
      | ((with_reducible apply aw_seq))
      | ((with_reducible apply aw_region))
      | ((with_reducible apply thn_normal))
      | ((with_reducible apply thn_ret))
      | ((with_reducible apply aw_skip))
      | ((with_reducible apply aw_ret))
      | ((with_reducible apply ao_nil))
      | ((with_reducible apply r_move); exact rfl; exact rfl)
      | ((with_reducible apply r_assign); exact rfl; exact rfl)
      | ((with_reducible apply r_field_p); exact rfl; exact rfl)
      | ((with_reducible apply r_load_p); exact rfl; exact rfl; exact rfl; exact rfl)
      | ((with_reducible apply r_load_pa); exact rfl; exact rfl; exact rfl; exact rfl; exact rfl)
      | ((with_reducible apply r_eql); exact rfl; exact rfl; exact rfl)
      | ((with_reducible apply r_box_a); exact rfl; exact rfl)
      | ((with_reducible apply r_pick_t); exact rfl; exact rfl; exact rfl)
      | ((with_reducible apply r_pick_f); exact rfl; exact rfl; exact rfl)
      | ((with_reducible apply r_not); exact rfl; exact rfl)
      | ((with_reducible apply r_extract); exact rfl; exact rfl; exact rfl)
      | (((with_reducible apply r_guard); exact rfl; exact rfl; exact rfl; exact rfl) <;> intro hg <;> (first | (exact absurd hg (by decide)) | ((try simp only [decide_eq_true_eq, decide_eq_false_iff_not, Bool.not_eq_true', Bool.not_eq_false', Bool.not_true, Bool.not_false, Bool.not_not, Int.not_lt, Int.not_le, Nat.not_lt, Nat.not_le, gt_iff_lt, ge_iff_le, List.cons.injEq, and_true] at hg); first | (exact absurd trivial hg) | (exfalso; omega) | (have hT : True := hg; clear hT hg) | skip)))
      | (((with_reducible apply aw_cond); exact rfl) <;> intro hg <;> (first | (exact absurd hg (by decide)) | ((try simp only [decide_eq_true_eq, decide_eq_false_iff_not, Bool.not_eq_true', Bool.not_eq_false', Bool.not_true, Bool.not_false, Bool.not_not, Int.not_lt, Int.not_le, Nat.not_lt, Nat.not_le, gt_iff_lt, ge_iff_le, List.cons.injEq, and_true] at hg); first | (exact absurd trivial hg) | (exfalso; omega) | (have hT : True := hg; clear hT hg) | skip)))
      | (refine aw_drawq ?_ ?_; (kernel_rfl))
      | ((with_reducible apply ds_nil))
      | (((with_reducible apply rd_guard); exact rfl; exact rfl; exact rfl) <;> intro hg <;> (first | (exact absurd hg (by decide)) | ((try rw [hg]); (try simp only [decide_eq_true_eq, decide_eq_false_iff_not, Bool.not_eq_true', Bool.not_eq_false', Bool.not_true, Bool.not_false, Bool.not_not, Int.not_lt, Int.not_le, Nat.not_lt, Nat.not_le, gt_iff_lt, ge_iff_le, List.cons.injEq, and_true] at hg); first | (exact absurd trivial hg) | (exfalso; omega) | (have hT : True := hg; clear hT hg) | skip)))
      )
    all_goals first | exact ret_b rfl rfl | trace_state
theorem loose_fit {a b : Kl} (h : looseS a b = true) {l : List Slc} {d : List Dfc} (hf : fitS l d a = true) : fitS l d b = true := by
  by_cases hb : bothOk l d
  · rw [fit_ok hb] at hf ⊢
    unfold fitM looseS at *
    simp only [decide_eq_true_eq] at *
    omega
  · rw [fit_no hb] at hf; cases hf
set_option maxRecDepth 100000 in
set_option maxHeartbeats 8000000 in
theorem klimits_law (a : Kl) (_ : True) (b : Kl) (_ : True) (x : Lg) (hx : LgQ x) : Con Try.prog gl 7 [klV a, klV b, lgV x] T := by
  obtain ⟨l, d⟩ := x
  have hs := few_con (gl := gl) l d hx.1
  have h0 := looser_con (gl := gl) a b
  have h1 := fits_con (gl := gl) a l d hx.1 hx.2
  have h2 := fits_con (gl := gl) b l d hx.1 hx.2
  have hf := fun h => loose_fit (a := a) (b := b) h (l := l) (d := d)
  refine con_of Try.func7 rfl (by kernel_rfl) rfl ?_
  simp only [Try.ntmps7, Try.results7, argEnv, ofC, of1, List.map]
  revert hs h0 h1 h2 hf
  generalize fewS l d = f
  generalize looseS a b = q
  generalize fitS l d a = y1
  generalize fitS l d b = y2
  intro hs h0 h1 h2 hf
  cases f <;> cases q <;> cases y1 <;> cases y2 <;> first | (exact absurd (hf rfl rfl) (by decide)) | skip
  all_goals
    repeat' (first
      | ((with_reducible apply r_call); exact rfl; exact rfl; (first | exact hs | exact h0 | exact h1 | exact h2 | exact awake16_con); exact rfl; exact rfl)
      | ((with_reducible apply aw_seq))
      | ((with_reducible apply aw_region))
      | ((with_reducible apply thn_normal))
      | ((with_reducible apply thn_ret))
      | ((with_reducible apply aw_skip))
      | ((with_reducible apply aw_ret))
      | ((with_reducible apply ao_nil))
      | ((with_reducible apply r_move); exact rfl; exact rfl)
      | ((with_reducible apply r_assign); exact rfl; exact rfl)
      | ((with_reducible apply r_field_p); exact rfl; exact rfl)
      | ((with_reducible apply r_load_p); exact rfl; exact rfl; exact rfl; exact rfl)
      | ((with_reducible apply r_load_pa); exact rfl; exact rfl; exact rfl; exact rfl; exact rfl)
      | ((with_reducible apply r_box_a); exact rfl; exact rfl)
      | ((with_reducible apply r_pick_t); exact rfl; exact rfl; exact rfl)
      | ((with_reducible apply r_pick_f); exact rfl; exact rfl; exact rfl)
      | ((with_reducible apply r_not); exact rfl; exact rfl)
      | (((with_reducible apply r_guard); exact rfl; exact rfl; exact rfl; exact rfl) <;> intro hg <;> (first | (exact absurd hg (by decide)) | ((try simp only [decide_eq_true_eq, decide_eq_false_iff_not, Bool.not_eq_true', Bool.not_eq_false', Bool.not_true, Bool.not_false, Bool.not_not, Int.not_lt, Int.not_le, Nat.not_lt, Nat.not_le, gt_iff_lt, ge_iff_le, List.cons.injEq, and_true] at hg); first | (exact absurd trivial hg) | (exfalso; omega) | (have hT : True := hg; clear hT hg) | skip)))
      | (((with_reducible apply aw_cond); exact rfl) <;> intro hg <;> (first | (exact absurd hg (by decide)) | ((try simp only [decide_eq_true_eq, decide_eq_false_iff_not, Bool.not_eq_true', Bool.not_eq_false', Bool.not_true, Bool.not_false, Bool.not_not, Int.not_lt, Int.not_le, Nat.not_lt, Nat.not_le, gt_iff_lt, ge_iff_le, List.cons.injEq, and_true] at hg); first | (exact absurd trivial hg) | (exfalso; omega) | (have hT : True := hg; clear hT hg) | skip)))
      )
    all_goals first | exact ret_b rfl rfl | trace_state
theorem defGo_iff : ∀ d : List Dfc, defGo d = 0 ↔ ∀ x ∈ d, dfChk x = 0
  | [] => by simp [defGo]
  | y :: l => by
    unfold defGo
    by_cases h : dfChk y = 0
    · rw [if_pos h, defGo_iff l]; simp [h]
    · rw [if_neg h]; simp [h]
theorem defChk_iff (d : List Dfc) : defChk d = 0 ↔ d.length ≤ 64 ∧ ∀ x ∈ d, dfChk x = 0 := by
  unfold defChk
  by_cases h : 64 < d.length
  · rw [if_pos h]; simp; omega
  · rw [if_neg h, defGo_iff]; exact ⟨fun hh => ⟨by omega, hh⟩, fun hh => hh.2⟩
theorem fit_less {l : List Slc} {d d' : List Dfc} (hs : d'.Sublist d) {c : Kl} (h : fitS l d c = true) : fitS l d' c = true := by
  by_cases hb : bothOk l d
  · have h2 := (defChk_iff d).1 hb.2
    have hb' : bothOk l d' := ⟨hb.1, (defChk_iff d').2 ⟨by have := hs.length_le; omega, fun x hx => h2.2 x (hs.subset hx)⟩⟩
    have hc : ∀ k, cnt d' k ≤ cnt d k := fun k => by
      show cntN d' k d'.length ≤ cntN d k d.length
      unfold cntN
      rw [List.take_length, List.take_length]
      have := hs.countP_le (p := fun x : Dfc => decide (x.kind = k))
      omega
    have c1 := hc 1
    have c2 := hc 2
    have c3 := hc 3
    rw [fit_ok hb] at h
    rw [fit_ok hb']
    unfold fitM measL at *
    simp only [decide_eq_true_eq] at *
    omega
  · rw [fit_no hb] at h; cases h
theorem without_sub (d : List Dfc) (n : Nat) : (d.take n ++ d.drop (n + 1)).Sublist d := by
  rw [← List.eraseIdx_eq_take_drop_succ]; exact List.eraseIdx_sublist d n
theorem few_len {l : List Slc} {d : List Dfc} (h : fewS l d = true) : d.length ≤ 100 := by
  unfold fewS at h
  simp only [Bool.and_eq_true, decide_eq_true_eq] at h
  exact h.2.1
set_option maxRecDepth 100000 in
set_option maxHeartbeats 16000000 in
theorem kdefects_law (c : Kl) (_ : True) (x : Lg) (hx : LgQ x) (at_ : Int) (ha : fits at_) : Con Try.prog gl 8 [klV c, lgV x, I at_] T := by
  obtain ⟨l, d⟩ := x
  have hs := few_con (gl := gl) l d hx.1
  have h1 := fits_con (gl := gl) c l d hx.1 hx.2
  refine con_of Try.func8 rfl (by kernel_rfl) rfl ?_
  simp only [Try.ntmps8, Try.results8, argEnv, ofC, of1, List.map]
  cases hf : fewS l d with
  | false =>
    rw [hf] at hs
    repeat' (first
      | ((with_reducible apply r_call); exact rfl; exact rfl; (first | exact hs | exact awake16_con); exact rfl; exact rfl)
      | ((with_reducible apply aw_seq))
      | ((with_reducible apply aw_region))
      | ((with_reducible apply thn_normal))
      | ((with_reducible apply thn_ret))
      | ((with_reducible apply aw_ret))
      | ((with_reducible apply ao_nil))
      | ((with_reducible apply r_move); exact rfl; exact rfl)
      | ((with_reducible apply r_assign); exact rfl; exact rfl)
      | ((with_reducible apply r_load_pa); exact rfl; exact rfl; exact rfl; exact rfl; exact rfl)
      | ((with_reducible apply r_box_a); exact rfl; exact rfl)
      | ((with_reducible apply r_pick_t); exact rfl; exact rfl; exact rfl)
      | ((with_reducible apply r_not); exact rfl; exact rfl)
      | (((with_reducible apply r_guard); exact rfl; exact rfl; exact rfl; exact rfl) <;> intro hg <;> (first | (exact absurd hg (by decide)) | ((try simp only [decide_eq_true_eq, decide_eq_false_iff_not, Bool.not_eq_true', Bool.not_eq_false', Bool.not_true, Bool.not_false, Bool.not_not, Int.not_lt, Int.not_le, Nat.not_lt, Nat.not_le, gt_iff_lt, ge_iff_le, List.cons.injEq, and_true] at hg); first | (exact absurd trivial hg) | (exfalso; omega) | (have hT : True := hg; clear hT hg) | skip)))
      | (((with_reducible apply aw_cond); exact rfl) <;> intro hg <;> (first | (exact absurd hg (by decide)) | ((try simp only [decide_eq_true_eq, decide_eq_false_iff_not, Bool.not_eq_true', Bool.not_eq_false', Bool.not_true, Bool.not_false, Bool.not_not, Int.not_lt, Int.not_le, Nat.not_lt, Nat.not_le, gt_iff_lt, ge_iff_le, List.cons.injEq, and_true] at hg); first | (exact absurd trivial hg) | (exfalso; omega) | (have hT : True := hg; clear hT hg) | skip)))
      )
    all_goals first | exact ret_b rfl rfl | trace_state
  | true =>
  rw [hf] at hs
  have hd100 := few_len hf
  by_cases hin : 0 ≤ at_ ∧ at_ < d.length
  rotate_left
  · skip
    repeat' (first
      | ((with_reducible apply r_call); exact rfl; exact rfl; (first | exact hs | exact awake16_con); exact rfl; exact rfl)
      | ((with_reducible apply aw_seq))
      | ((with_reducible apply aw_region))
      | ((with_reducible apply thn_normal))
      | ((with_reducible apply thn_ret))
      | ((with_reducible apply aw_ret))
      | ((with_reducible apply ao_nil))
      | ((with_reducible apply r_move); exact rfl; exact rfl)
      | ((with_reducible apply r_assign); exact rfl; exact rfl)
      | ((with_reducible apply r_field_p); exact rfl; exact rfl)
      | ((with_reducible apply r_load_p); exact rfl; exact rfl; exact rfl; exact rfl)
      | ((with_reducible apply r_load_pa); exact rfl; exact rfl; exact rfl; exact rfl; exact rfl)
      | ((with_reducible apply r_lss); exact rfl; exact rfl; exact rfl)
      | ((with_reducible apply r_geq); exact rfl; exact rfl; exact rfl)
      | ((with_reducible apply r_box_a); exact rfl; exact rfl)
      | ((with_reducible apply r_pick_t); exact rfl; exact rfl; exact rfl)
      | ((with_reducible apply r_pick_f); exact rfl; exact rfl; exact rfl)
      | ((with_reducible apply r_not); exact rfl; exact rfl)
      | ((with_reducible apply r_len_f); exact rfl; exact inferInstance; exact rfl)
      | (((with_reducible apply r_guard); exact rfl; exact rfl; exact rfl; exact rfl) <;> intro hg <;> (first | (exact absurd hg (by decide)) | ((try simp only [decide_eq_true_eq, decide_eq_false_iff_not, Bool.not_eq_true', Bool.not_eq_false', Bool.not_true, Bool.not_false, Bool.not_not, Int.not_lt, Int.not_le, Nat.not_lt, Nat.not_le, gt_iff_lt, ge_iff_le, List.cons.injEq, and_true] at hg); first | (exact absurd trivial hg) | (exfalso; omega) | (have hT : True := hg; clear hT hg) | skip)))
      | (((with_reducible apply aw_cond); exact rfl) <;> intro hg <;> (first | (exact absurd hg (by decide)) | ((try simp only [decide_eq_true_eq, decide_eq_false_iff_not, Bool.not_eq_true', Bool.not_eq_false', Bool.not_true, Bool.not_false, Bool.not_not, Int.not_lt, Int.not_le, Nat.not_lt, Nat.not_le, gt_iff_lt, ge_iff_le, List.cons.injEq, and_true] at hg); first | (exact absurd trivial hg) | (exfalso; omega) | (have hT : True := hg; clear hT hg) | skip)))
      )
    all_goals first | exact ret_b rfl rfl | trace_state
  obtain ⟨n, rfl⟩ : ∃ n : Nat, at_ = (n : Int) := ⟨at_.toNat, by omega⟩
  have hn : n < d.length := by omega
  have h2 := fits_con (gl := gl) c l (d.take n ++ d.drop (n + 1)) hx.1 (by have := (without_sub d n).length_le; unfold maxLen; omega)
  have hle := fit_less (l := l) (c := c) (without_sub d n)
  have t1 : (d.take n).length = n := by rw [List.length_take]; omega
  have t2 : (d.drop (n + 1)).length = d.length - (n + 1) := List.length_drop
  revert h1 h2 hle
  generalize fitS l d c = y1
  generalize fitS l (d.take n ++ d.drop (n + 1)) c = y2
  intro h1 h2 hle
  cases y1 <;> cases y2 <;> first | (exact absurd (hle rfl) (by decide)) | skip
  all_goals
    repeat' (first
      | ((with_reducible apply r_call); exact rfl; exact rfl; (first | exact hs | exact h1 | exact h2 | exact awake16_con); exact rfl; exact rfl)
      | ((with_reducible apply (r_slice_hi n)); exact rfl; exact inferInstance; exact rfl; exact rfl; exact (by omega); exact rfl)
      | ((with_reducible apply (r_slice_lo (n + 1))); exact rfl; exact inferInstance; exact rfl; exact rfl; exact (by omega); exact rfl)
      | ((with_reducible apply r_appendl_nil); exact rfl; exact rfl; exact inferInstance; exact (by omega); exact (by omega); exact rfl)
      | ((with_reducible apply r_appendl); exact rfl; exact rfl; exact inferInstance; exact rfl; exact rfl; exact (by omega); exact (by omega); exact rfl)
      | ((with_reducible apply (r_freeze 38)); exact rfl; exact rfl; exact (by rw [flat_len EncL.len, List.length_append]))
      | ((with_reducible apply aw_seq))
      | ((with_reducible apply aw_region))
      | ((with_reducible apply thn_normal))
      | ((with_reducible apply thn_ret))
      | ((with_reducible apply aw_skip))
      | ((with_reducible apply aw_ret))
      | ((with_reducible apply ao_nil))
      | ((with_reducible apply r_move); exact rfl; exact rfl)
      | ((with_reducible apply r_assign); exact rfl; exact rfl)
      | ((with_reducible apply r_field_p); exact rfl; exact rfl)
      | ((with_reducible apply r_load_p); exact rfl; exact rfl; exact rfl; exact rfl)
      | ((with_reducible apply r_load_pa); exact rfl; exact rfl; exact rfl; exact rfl; exact rfl)
      | ((with_reducible apply r_lss); exact rfl; exact rfl; exact rfl)
      | ((with_reducible apply r_geq); exact rfl; exact rfl; exact rfl)
      | ((with_reducible apply r_neq); exact rfl; exact rfl; exact rfl)
      | ((with_reducible apply r_add); exact rfl; exact rfl; exact (by first | assumption | (unfold fits; omega)); exact rfl)
      | ((with_reducible apply r_box_a); exact rfl; exact rfl)
      | ((with_reducible apply r_pick_t); exact rfl; exact rfl; exact rfl)
      | ((with_reducible apply r_pick_f); exact rfl; exact rfl; exact rfl)
      | ((with_reducible apply r_not); exact rfl; exact rfl)
      | ((with_reducible apply r_len_f); exact rfl; exact inferInstance; exact rfl)
      | ((with_reducible apply r_index_f); exact rfl; exact inferInstance; exact rfl; exact rfl; (first | assumption | omega); exact rfl)
      | ((with_reducible apply r_load_f0); exact rfl; exact inferInstance; exact List.getElem?_eq_getElem (by first | assumption | omega); exact rfl; exact rfl)
      | ((with_reducible apply r_field_e); exact rfl; exact rfl)
      | (((with_reducible apply r_guard); exact rfl; exact rfl; exact rfl; exact rfl) <;> intro hg <;> (first | (exact absurd hg (by decide)) | ((try simp only [decide_eq_true_eq, decide_eq_false_iff_not, Bool.not_eq_true', Bool.not_eq_false', Bool.not_true, Bool.not_false, Bool.not_not, Int.not_lt, Int.not_le, Nat.not_lt, Nat.not_le, gt_iff_lt, ge_iff_le, List.cons.injEq, and_true] at hg); first | (exact absurd trivial hg) | (exfalso; omega) | (have hT : True := hg; clear hT hg) | skip)))
      | (((with_reducible apply aw_cond); exact rfl) <;> intro hg <;> (first | (exact absurd hg (by decide)) | ((try simp only [decide_eq_true_eq, decide_eq_false_iff_not, Bool.not_eq_true', Bool.not_eq_false', Bool.not_true, Bool.not_false, Bool.not_not, Int.not_lt, Int.not_le, Nat.not_lt, Nat.not_le, gt_iff_lt, ge_iff_le, List.cons.injEq, and_true] at hg); first | (exact absurd trivial hg) | (exfalso; omega) | (have hT : True := hg; clear hT hg) | skip)))
      | (refine aw_drawq ?_ ?_; (kernel_rfl))
      | ((with_reducible apply ds_nil))
      )
    all_goals first | exact ret_b rfl rfl | exact ret_b rfl (by simp) | trace_state
theorem klGo_pre : ∀ (a b p : List Kl), klGo p (a ++ b) = 0 → klGo p a = 0
  | [], _, _, _ => by unfold klGo; rfl
  | x :: a, b, p, h => by
    rw [List.cons_append] at h
    unfold klGo at h ⊢
    split at h
    · cases h
    · rename_i h1
      rw [if_neg h1]
      split at h
      · cases h
      · rename_i h2
        rw [if_neg h2]
        split at h
        · cases h
        · rename_i h3
          rw [if_neg h3]
          exact klGo_pre a b _ h
theorem klChk_pre {a b : List Kl} (h : klChk (a ++ b) = 0) : klChk a = 0 := by
  unfold klChk at h ⊢
  rw [List.length_append] at h
  split at h
  · cases h
  · rw [if_neg (by omega)]; exact klGo_pre a b _ h
theorem of_full {K : List Kl} (hk : klChk K = 0) (l : List Slc) (d : List Dfc) : (ofS K l d = (0, false) ∧ ∀ j (hj : j < K.length), fitS l d K[j] = false) ∨ ∃ i, ∃ hi : i < K.length, ofS K l d = ((i : Int), true) ∧ fitS l d K[i] = true ∧ ∀ j (hj : j < K.length), j < i → fitS l d K[j] = false := by
  unfold ofS ofN
  rw [if_pos hk]
  cases hf : K.findIdx? (fitS l d) with
  | none =>
    refine .inl ⟨rfl, fun j hj => ?_⟩
    exact List.findIdx?_eq_none_iff.1 hf _ (List.getElem_mem hj)
  | some i =>
    obtain ⟨h1, h2, h3⟩ := (List.findIdx?_eq_some_iff_getElem).1 hf
    exact .inr ⟨i, h1, rfl, h2, fun j hj hji => by simpa using h3 j hji⟩
theorem of_longer {a b : List Kl} (h : klChk (a ++ b) = 0) (l : List Slc) (d : List Dfc) : (∃ i : Nat, ofS a l d = ((i : Int), true) ∧ ofS (a ++ b) l d = ((i : Int), true)) ∨ (ofS a l d = (0, false) ∧ (ofS (a ++ b) l d = (0, false) ∨ ∃ m : Nat, a.length ≤ m ∧ ofS (a ++ b) l d = ((m : Int), true))) := by
  have ha := klChk_pre h
  rcases of_full ha l d with ⟨e1, e2⟩ | ⟨i, hi, e1, e2, e3⟩
  · refine .inr ⟨e1, ?_⟩
    rcases of_full h l d with ⟨f1, _⟩ | ⟨m, hm, f1, f2, _⟩
    · exact .inl f1
    · refine .inr ⟨m, Nat.le_of_not_lt fun hlt => ?_, f1⟩
      rw [List.getElem_append_left hlt] at f2
      rw [e2 m hlt] at f2; cases f2
  · refine .inl ⟨i, e1, of_some h (by rw [List.length_append]; omega) (by rw [List.getElem_append_left hi]; exact e2) (fun j hj hji => ?_)⟩
    rw [List.getElem_append_left (by omega)]
    exact e3 j (by omega) hji
set_option maxRecDepth 100000 in
set_option maxHeartbeats 16000000 in
theorem klonger_law (a : List Kl) (hA : KQ a) (b : List Kl) (hB : KQ b) (x : Lg) (hx : LgQ x) : Con Try.prog gl 9 [LK a, LK b, lgV x] T := by
  obtain ⟨l, d⟩ := x
  have hs2 := few_con (gl := gl) l d hx.1
  refine con_of Try.func9 rfl (by kernel_rfl) rfl ?_
  simp only [Try.ntmps9, Try.results9, argEnv, ofC, of1, List.map]
  by_cases h20 : a.length ≤ 20 ∧ b.length ≤ 20
  rotate_left
  · skip
    repeat' (first
      | ((with_reducible apply r_call); exact rfl; exact rfl; (first | exact awake16_con); exact rfl; exact rfl)
      | ((with_reducible apply aw_seq))
      | ((with_reducible apply aw_region))
      | ((with_reducible apply thn_normal))
      | ((with_reducible apply thn_ret))
      | ((with_reducible apply aw_ret))
      | ((with_reducible apply ao_nil))
      | ((with_reducible apply r_move); exact rfl; exact rfl)
      | ((with_reducible apply r_assign); exact rfl; exact rfl)
      | ((with_reducible apply r_gtr); exact rfl; exact rfl; exact rfl)
      | ((with_reducible apply r_box_a); exact rfl; exact rfl)
      | ((with_reducible apply r_pick_t); exact rfl; exact rfl; exact rfl)
      | ((with_reducible apply r_pick_f); exact rfl; exact rfl; exact rfl)
      | ((with_reducible apply r_len_f); exact rfl; exact inferInstance; exact rfl)
      | (((with_reducible apply r_guard); exact rfl; exact rfl; exact rfl; exact rfl) <;> intro hg <;> (first | (exact absurd hg (by decide)) | ((try simp only [decide_eq_true_eq, decide_eq_false_iff_not, Bool.not_eq_true', Bool.not_eq_false', Bool.not_true, Bool.not_false, Bool.not_not, Int.not_lt, Int.not_le, Nat.not_lt, Nat.not_le, gt_iff_lt, ge_iff_le, List.cons.injEq, and_true] at hg); first | (exact absurd trivial hg) | (exfalso; omega) | (have hT : True := hg; clear hT hg) | skip)))
      | (((with_reducible apply aw_cond); exact rfl) <;> intro hg <;> (first | (exact absurd hg (by decide)) | ((try simp only [decide_eq_true_eq, decide_eq_false_iff_not, Bool.not_eq_true', Bool.not_eq_false', Bool.not_true, Bool.not_false, Bool.not_not, Int.not_lt, Int.not_le, Nat.not_lt, Nat.not_le, gt_iff_lt, ge_iff_le, List.cons.injEq, and_true] at hg); first | (exact absurd trivial hg) | (exfalso; omega) | (have hT : True := hg; clear hT hg) | skip)))
      )
    all_goals first | exact ret_b rfl rfl | trace_state
  obtain ⟨ha20, hb20⟩ := h20
  have hab : (a ++ b).length ≤ maxLen := by rw [List.length_append]; unfold maxLen; omega
  obtain ⟨bs, _, hs⟩ := kshort_con (gl := gl) (a ++ b) hab
  have h0 := kcheck_con (gl := gl) (a ++ b) hab
  have h1 := of_con (gl := gl) a l d hA hx.1 hx.2
  have h2 := of_con (gl := gl) (a ++ b) l d hab hx.1 hx.2
  have hl := fun h => of_longer (a := a) (b := b) h l d
  revert hs2 h0 h1 h2 hl
  generalize fewS l d = f
  generalize klChk (a ++ b) = e
  generalize ofS a l d = o1
  generalize ofS (a ++ b) l d = o2
  intro hs2 h0 h1 h2 hl
  by_cases he : bs = true ∧ f = true ∧ e = 0
  rotate_left
  · cases bs <;> cases f
    all_goals try (have he0 : ¬ e = 0 := fun h => he ⟨rfl, rfl, h⟩)
    all_goals
      repeat' (first
        | ((with_reducible apply r_call); exact rfl; exact rfl; (first | exact hs | exact hs2 | exact h0 | exact awake16_con); exact rfl; exact rfl)
        | ((with_reducible apply r_appendl_nil); exact rfl; exact rfl; exact inferInstance; exact (by omega); exact (by omega); exact rfl)
        | ((with_reducible apply r_appendl); exact rfl; exact rfl; exact inferInstance; exact rfl; exact rfl; exact (by omega); exact (by omega); exact rfl)
        | ((with_reducible apply (r_freeze 26)); exact rfl; exact rfl; exact (by rw [flat_len EncL.len, List.length_append]))
        | ((with_reducible apply aw_seq))
        | ((with_reducible apply aw_region))
        | ((with_reducible apply thn_normal))
        | ((with_reducible apply thn_ret))
        | ((with_reducible apply aw_skip))
        | ((with_reducible apply aw_ret))
        | ((with_reducible apply ao_nil))
        | ((with_reducible apply r_move); exact rfl; exact rfl)
        | ((with_reducible apply r_assign); exact rfl; exact rfl)
        | ((with_reducible apply r_load_pa); exact rfl; exact rfl; exact rfl; exact rfl; exact rfl)
        | ((with_reducible apply r_gtr); exact rfl; exact rfl; exact rfl)
        | ((with_reducible apply r_neq); exact rfl; exact rfl; exact rfl)
        | ((with_reducible apply r_box_a); exact rfl; exact rfl)
        | ((with_reducible apply r_pick_t); exact rfl; exact rfl; exact rfl)
        | ((with_reducible apply r_pick_f); exact rfl; exact rfl; exact rfl)
        | ((with_reducible apply r_not); exact rfl; exact rfl)
        | ((with_reducible apply r_len_f); exact rfl; exact inferInstance; exact rfl)
        | (((with_reducible apply r_guard); exact rfl; exact rfl; exact rfl; exact rfl) <;> intro hg <;> (first | (exact absurd hg (by decide)) | ((try simp only [decide_eq_true_eq, decide_eq_false_iff_not, Bool.not_eq_true', Bool.not_eq_false', Bool.not_true, Bool.not_false, Bool.not_not, Int.not_lt, Int.not_le, Nat.not_lt, Nat.not_le, gt_iff_lt, ge_iff_le, List.cons.injEq, and_true] at hg); first | (exact absurd trivial hg) | (exfalso; omega) | (have hT : True := hg; clear hT hg) | skip)))
        | (((with_reducible apply aw_cond); exact rfl) <;> intro hg <;> (first | (exact absurd hg (by decide)) | ((try simp only [decide_eq_true_eq, decide_eq_false_iff_not, Bool.not_eq_true', Bool.not_eq_false', Bool.not_true, Bool.not_false, Bool.not_not, Int.not_lt, Int.not_le, Nat.not_lt, Nat.not_le, gt_iff_lt, ge_iff_le, List.cons.injEq, and_true] at hg); first | (exact absurd trivial hg) | (exfalso; omega) | (have hT : True := hg; clear hT hg) | skip)))
        )
      all_goals first | exact ret_b rfl rfl | trace_state
  obtain ⟨rfl, rfl, rfl⟩ := he
  rcases hl rfl with ⟨i, rfl, rfl⟩ | ⟨rfl, rfl | ⟨m, hm, rfl⟩⟩
  · change Con _ _ _ _ (.tup [I (i : Int), .v (.bool true)]) at h1 h2
    repeat' (first
      | ((with_reducible apply r_call); exact rfl; exact rfl; (first | exact hs | exact hs2 | exact h0 | exact h1 | exact h2 | exact awake16_con); exact rfl; exact rfl)
      | ((with_reducible apply r_appendl_nil); exact rfl; exact rfl; exact inferInstance; exact (by omega); exact (by omega); exact rfl)
      | ((with_reducible apply r_appendl); exact rfl; exact rfl; exact inferInstance; exact rfl; exact rfl; exact (by omega); exact (by omega); exact rfl)
      | ((with_reducible apply (r_freeze 26)); exact rfl; exact rfl; exact (by rw [flat_len EncL.len, List.length_append]))
      | ((with_reducible apply aw_seq))
      | ((with_reducible apply aw_region))
      | ((with_reducible apply thn_normal))
      | ((with_reducible apply thn_ret))
      | ((with_reducible apply aw_skip))
      | ((with_reducible apply aw_ret))
      | ((with_reducible apply ao_nil))
      | ((with_reducible apply r_move); exact rfl; exact rfl)
      | ((with_reducible apply r_assign); exact rfl; exact rfl)
      | ((with_reducible apply r_field_p); exact rfl; exact rfl)
      | ((with_reducible apply r_load_p); exact rfl; exact rfl; exact rfl; exact rfl)
      | ((with_reducible apply r_load_pa); exact rfl; exact rfl; exact rfl; exact rfl; exact rfl)
      | ((with_reducible apply r_gtr); exact rfl; exact rfl; exact rfl)
      | ((with_reducible apply r_eql); exact rfl; exact rfl; exact rfl)
      | ((with_reducible apply r_neq); exact rfl; exact rfl; exact rfl)
      | ((with_reducible apply r_box_a); exact rfl; exact rfl)
      | ((with_reducible apply r_pick_t); exact rfl; exact rfl; exact rfl)
      | ((with_reducible apply r_pick_f); exact rfl; exact rfl; exact rfl)
      | ((with_reducible apply r_not); exact rfl; exact rfl)
      | ((with_reducible apply r_len_f); exact rfl; exact inferInstance; exact rfl)
      | ((with_reducible apply r_extract); exact rfl; exact rfl; exact rfl)
      | (((with_reducible apply r_guard); exact rfl; exact rfl; exact rfl; exact rfl) <;> intro hg <;> (first | (exact absurd hg (by decide)) | ((try simp only [decide_eq_true_eq, decide_eq_false_iff_not, Bool.not_eq_true', Bool.not_eq_false', Bool.not_true, Bool.not_false, Bool.not_not, Int.not_lt, Int.not_le, Nat.not_lt, Nat.not_le, gt_iff_lt, ge_iff_le, List.cons.injEq, and_true] at hg); first | (exact absurd trivial hg) | (exfalso; omega) | (have hT : True := hg; clear hT hg) | skip)))
      | (((with_reducible apply aw_cond); exact rfl) <;> intro hg <;> (first | (exact absurd hg (by decide)) | ((try simp only [decide_eq_true_eq, decide_eq_false_iff_not, Bool.not_eq_true', Bool.not_eq_false', Bool.not_true, Bool.not_false, Bool.not_not, Int.not_lt, Int.not_le, Nat.not_lt, Nat.not_le, gt_iff_lt, ge_iff_le, List.cons.injEq, and_true] at hg); first | (exact absurd trivial hg) | (exfalso; omega) | (have hT : True := hg; clear hT hg) | skip)))
      )
    all_goals first | exact ret_b rfl rfl | exact ret_b rfl (by simp) | trace_state
  · change Con _ _ _ _ (.tup [I 0, .v (.bool false)]) at h1 h2
    repeat' (first
      | ((with_reducible apply r_call); exact rfl; exact rfl; (first | exact hs | exact hs2 | exact h0 | exact h1 | exact h2 | exact awake16_con); exact rfl; exact rfl)
      | ((with_reducible apply r_appendl_nil); exact rfl; exact rfl; exact inferInstance; exact (by omega); exact (by omega); exact rfl)
      | ((with_reducible apply r_appendl); exact rfl; exact rfl; exact inferInstance; exact rfl; exact rfl; exact (by omega); exact (by omega); exact rfl)
      | ((with_reducible apply (r_freeze 26)); exact rfl; exact rfl; exact (by rw [flat_len EncL.len, List.length_append]))
      | ((with_reducible apply aw_seq))
      | ((with_reducible apply aw_region))
      | ((with_reducible apply thn_normal))
      | ((with_reducible apply aw_skip))
      | ((with_reducible apply aw_ret))
      | ((with_reducible apply ao_nil))
      | ((with_reducible apply r_move); exact rfl; exact rfl)
      | ((with_reducible apply r_assign); exact rfl; exact rfl)
      | ((with_reducible apply r_field_p); exact rfl; exact rfl)
      | ((with_reducible apply r_load_p); exact rfl; exact rfl; exact rfl; exact rfl)
      | ((with_reducible apply r_load_pa); exact rfl; exact rfl; exact rfl; exact rfl; exact rfl)
      | ((with_reducible apply r_gtr); exact rfl; exact rfl; exact rfl)
      | ((with_reducible apply r_neq); exact rfl; exact rfl; exact rfl)
      | ((with_reducible apply r_box_a); exact rfl; exact rfl)
      | ((with_reducible apply r_pick_t); exact rfl; exact rfl; exact rfl)
      | ((with_reducible apply r_pick_f); exact rfl; exact rfl; exact rfl)
      | ((with_reducible apply r_not); exact rfl; exact rfl)
      | ((with_reducible apply r_len_f); exact rfl; exact inferInstance; exact rfl)
      | ((with_reducible apply r_extract); exact rfl; exact rfl; exact rfl)
      | (((with_reducible apply r_guard); exact rfl; exact rfl; exact rfl; exact rfl) <;> intro hg <;> (first | (exact absurd hg (by decide)) | ((try simp only [decide_eq_true_eq, decide_eq_false_iff_not, Bool.not_eq_true', Bool.not_eq_false', Bool.not_true, Bool.not_false, Bool.not_not, Int.not_lt, Int.not_le, Nat.not_lt, Nat.not_le, gt_iff_lt, ge_iff_le, List.cons.injEq, and_true] at hg); first | (exact absurd trivial hg) | (exfalso; omega) | (have hT : True := hg; clear hT hg) | skip)))
      | (((with_reducible apply aw_cond); exact rfl) <;> intro hg <;> (first | (exact absurd hg (by decide)) | ((try simp only [decide_eq_true_eq, decide_eq_false_iff_not, Bool.not_eq_true', Bool.not_eq_false', Bool.not_true, Bool.not_false, Bool.not_not, Int.not_lt, Int.not_le, Nat.not_lt, Nat.not_le, gt_iff_lt, ge_iff_le, List.cons.injEq, and_true] at hg); first | (exact absurd trivial hg) | (exfalso; omega) | (have hT : True := hg; clear hT hg) | skip)))
      )
    all_goals first | exact ret_b rfl rfl | exact ret_b rfl (by simp) | trace_state
  · change Con _ _ _ _ (.tup [I 0, .v (.bool false)]) at h1
    change Con _ _ _ _ (.tup [I (m : Int), .v (.bool true)]) at h2
    repeat' (first
      | ((with_reducible apply r_call); exact rfl; exact rfl; (first | exact hs | exact hs2 | exact h0 | exact h1 | exact h2 | exact awake16_con); exact rfl; exact rfl)
      | ((with_reducible apply r_appendl_nil); exact rfl; exact rfl; exact inferInstance; exact (by omega); exact (by omega); exact rfl)
      | ((with_reducible apply r_appendl); exact rfl; exact rfl; exact inferInstance; exact rfl; exact rfl; exact (by omega); exact (by omega); exact rfl)
      | ((with_reducible apply (r_freeze 26)); exact rfl; exact rfl; exact (by rw [flat_len EncL.len, List.length_append]))
      | ((with_reducible apply aw_seq))
      | ((with_reducible apply aw_region))
      | ((with_reducible apply thn_normal))
      | ((with_reducible apply aw_skip))
      | ((with_reducible apply aw_ret))
      | ((with_reducible apply ao_nil))
      | ((with_reducible apply r_move); exact rfl; exact rfl)
      | ((with_reducible apply r_assign); exact rfl; exact rfl)
      | ((with_reducible apply r_field_p); exact rfl; exact rfl)
      | ((with_reducible apply r_load_p); exact rfl; exact rfl; exact rfl; exact rfl)
      | ((with_reducible apply r_load_pa); exact rfl; exact rfl; exact rfl; exact rfl; exact rfl)
      | ((with_reducible apply r_gtr); exact rfl; exact rfl; exact rfl)
      | ((with_reducible apply r_geq); exact rfl; exact rfl; exact rfl)
      | ((with_reducible apply r_neq); exact rfl; exact rfl; exact rfl)
      | ((with_reducible apply r_box_a); exact rfl; exact rfl)
      | ((with_reducible apply r_pick_t); exact rfl; exact rfl; exact rfl)
      | ((with_reducible apply r_pick_f); exact rfl; exact rfl; exact rfl)
      | ((with_reducible apply r_not); exact rfl; exact rfl)
      | ((with_reducible apply r_len_f); exact rfl; exact inferInstance; exact rfl)
      | ((with_reducible apply r_extract); exact rfl; exact rfl; exact rfl)
      | (((with_reducible apply r_guard); exact rfl; exact rfl; exact rfl; exact rfl) <;> intro hg <;> (first | (exact absurd hg (by decide)) | ((try simp only [decide_eq_true_eq, decide_eq_false_iff_not, Bool.not_eq_true', Bool.not_eq_false', Bool.not_true, Bool.not_false, Bool.not_not, Int.not_lt, Int.not_le, Nat.not_lt, Nat.not_le, gt_iff_lt, ge_iff_le, List.cons.injEq, and_true] at hg); first | (exact absurd trivial hg) | (exfalso; omega) | (have hT : True := hg; clear hT hg) | skip)))
      | (((with_reducible apply aw_cond); exact rfl) <;> intro hg <;> (first | (exact absurd hg (by decide)) | ((try simp only [decide_eq_true_eq, decide_eq_false_iff_not, Bool.not_eq_true', Bool.not_eq_false', Bool.not_true, Bool.not_false, Bool.not_not, Int.not_lt, Int.not_le, Nat.not_lt, Nat.not_le, gt_iff_lt, ge_iff_le, List.cons.injEq, and_true] at hg); first | (exact absurd trivial hg) | (exfalso; omega) | (have hT : True := hg; clear hT hg) | skip)))
      )
    all_goals first | exact ret_b rfl rfl | exact ret_b rfl (by simp) | trace_state
set_option maxRecDepth 100000 in
set_option maxHeartbeats 16000000 in
theorem kfirst_law (K : List Kl) (hK : KQ K) (x : Lg) (hx : LgQ x) : Con Try.prog gl 6 [LK K, lgV x] T := by
  obtain ⟨l, d⟩ := x
  obtain ⟨bs, hlen, hs⟩ := kshort_con (gl := gl) K hK
  have hs2 := few_con (gl := gl) l d hx.1
  have h0 := kcheck_con (gl := gl) K hK
  have h1 := of_con (gl := gl) K l d hK hx.1 hx.2
  have h3 := price_con (gl := gl) K l d hK hx.1 hx.2
  refine con_of Try.func6 rfl (by kernel_rfl) rfl ?_
  simp only [Try.ntmps6, Try.results6, argEnv, ofC, of1, List.map]
  by_cases he : bs = true ∧ fewS l d = true
  rotate_left
  · generalize fewS l d = f at hs2 he
    cases bs <;> cases f <;> first | (exact absurd ⟨rfl, rfl⟩ he) | skip
    all_goals
      repeat' (first
        | ((with_reducible apply r_call); exact rfl; exact rfl; (first | exact hs | exact hs2 | exact awake16_con); exact rfl; exact rfl)
        | ((with_reducible apply aw_seq))
        | ((with_reducible apply aw_region))
        | ((with_reducible apply thn_normal))
        | ((with_reducible apply thn_ret))
        | ((with_reducible apply aw_ret))
        | ((with_reducible apply ao_nil))
        | ((with_reducible apply r_move); exact rfl; exact rfl)
        | ((with_reducible apply r_assign); exact rfl; exact rfl)
        | ((with_reducible apply r_load_pa); exact rfl; exact rfl; exact rfl; exact rfl; exact rfl)
        | ((with_reducible apply r_box_a); exact rfl; exact rfl)
        | ((with_reducible apply r_pick_t); exact rfl; exact rfl; exact rfl)
        | ((with_reducible apply r_pick_f); exact rfl; exact rfl; exact rfl)
        | ((with_reducible apply r_not); exact rfl; exact rfl)
        | (((with_reducible apply r_guard); exact rfl; exact rfl; exact rfl; exact rfl) <;> intro hg <;> (first | (exact absurd hg (by decide)) | ((try simp only [decide_eq_true_eq, decide_eq_false_iff_not, Bool.not_eq_true', Bool.not_eq_false', Bool.not_true, Bool.not_false, Bool.not_not, Int.not_lt, Int.not_le, Nat.not_lt, Nat.not_le, gt_iff_lt, ge_iff_le, List.cons.injEq, and_true] at hg); first | (exact absurd trivial hg) | (exfalso; omega) | (have hT : True := hg; clear hT hg) | skip)))
        | (((with_reducible apply aw_cond); exact rfl) <;> intro hg <;> (first | (exact absurd hg (by decide)) | ((try simp only [decide_eq_true_eq, decide_eq_false_iff_not, Bool.not_eq_true', Bool.not_eq_false', Bool.not_true, Bool.not_false, Bool.not_not, Int.not_lt, Int.not_le, Nat.not_lt, Nat.not_le, gt_iff_lt, ge_iff_le, List.cons.injEq, and_true] at hg); first | (exact absurd trivial hg) | (exfalso; omega) | (have hT : True := hg; clear hT hg) | skip)))
        )
      all_goals first | exact ret_b rfl rfl | trace_state
  obtain ⟨rfl, hfe⟩ := he
  rw [hfe] at hs2
  have hlen := hlen rfl
  have hv := volS_bd l
  have c1 := svolume_con (gl := gl) l hx.1
  by_cases hk : klChk K = 0
  · rw [hk] at h0
    rcases of_full hk l d with ⟨e1, e2⟩ | ⟨i, hi, e1, e2, e3⟩
    · rw [priceS_none e1] at h3
      rw [e1] at h1
      change Con _ _ _ _ (.tup [I 0, .v (.bool false)]) at h1
      repeat' (first
        | ((with_reducible apply r_call); exact rfl; exact rfl; (first | exact hs | exact hs2 | exact h1 | exact h3); exact rfl; exact rfl)
        | ((with_reducible apply aw_seq))
        | ((with_reducible apply aw_region))
        | ((with_reducible apply aw_block))
        | ((with_reducible apply thn_normal))
        | ((with_reducible apply aw_skip))
        | ((with_reducible apply ao_nil))
        | ((with_reducible apply r_move); exact rfl; exact rfl)
        | ((with_reducible apply r_assign); exact rfl; exact rfl)
        | ((with_reducible apply r_field_p); exact rfl; exact rfl)
        | ((with_reducible apply r_load_p); exact rfl; exact rfl; exact rfl; exact rfl)
        | ((with_reducible apply r_load_pa); exact rfl; exact rfl; exact rfl; exact rfl; exact rfl)
        | ((with_reducible apply r_box_a); exact rfl; exact rfl)
        | ((with_reducible apply r_pick_f); exact rfl; exact rfl; exact rfl)
        | ((with_reducible apply r_not); exact rfl; exact rfl)
        | ((with_reducible apply r_extract); exact rfl; exact rfl; exact rfl)
        | (((with_reducible apply r_guard); exact rfl; exact rfl; exact rfl; exact rfl) <;> intro hg <;> (first | (exact absurd hg (by decide)) | ((try simp only [decide_eq_true_eq, decide_eq_false_iff_not, Bool.not_eq_true', Bool.not_eq_false', Bool.not_true, Bool.not_false, Bool.not_not, Int.not_lt, Int.not_le, Nat.not_lt, Nat.not_le, gt_iff_lt, ge_iff_le, List.cons.injEq, and_true] at hg); first | (exact absurd trivial hg) | (exfalso; omega) | (have hT : True := hg; clear hT hg) | skip)))
        | (((with_reducible apply aw_cond); exact rfl) <;> intro hg <;> (first | (exact absurd hg (by decide)) | ((try simp only [decide_eq_true_eq, decide_eq_false_iff_not, Bool.not_eq_true', Bool.not_eq_false', Bool.not_true, Bool.not_false, Bool.not_not, Int.not_lt, Int.not_le, Nat.not_lt, Nat.not_le, gt_iff_lt, ge_iff_le, List.cons.injEq, and_true] at hg); first | (exact absurd trivial hg) | (exfalso; omega) | (have hT : True := hg; clear hT hg) | skip)))
        )
      refine aw_loopG (G := Nat) (fun (k : Nat) => k ≤ K.length) (fun (k : Nat) => K.length - k) (fun (k : Nat) => [(0, .c (LK K)), (3, .ptr 0 0), (5, A 0), (7, A 0), (8, A k)]) (fun (k : Nat) => [(0, some (.cells 32 [.c (LL l), .c (LD d)]))]) 1 0 ?_ (by refine weak_mk rfl ?_ ?_ <;> repeat (first | exact envW_nil | exact heapW_nil | refine envW_cons rfl rfl ?_ | refine heapW_cons rfl rfl rfl ?_)) rfl ?_
      · exact Nat.zero_le _
      rintro k hI
      try dsimp only at hI
      try dsimp only
      by_cases hkl : k < K.length
      · have h4 := fits_con (gl := gl) K[k] l d hx.1 hx.2
        rw [e2 k hkl] at h4
        repeat' (first
          | ((with_reducible apply r_call); exact rfl; exact rfl; (first | exact h0 | exact h4); exact rfl; exact rfl)
          | ((with_reducible apply aw_seq))
          | ((with_reducible apply aw_region))
          | ((with_reducible apply aw_block))
          | ((with_reducible apply thn_normal))
          | ((with_reducible apply inb_normal))
          | ((with_reducible apply aw_skip))
          | ((with_reducible apply ao_nil))
          | ((with_reducible apply r_move); exact rfl; exact rfl)
          | ((with_reducible apply r_assign); exact rfl; exact rfl)
          | ((with_reducible apply r_field_p); exact rfl; exact rfl)
          | ((with_reducible apply r_load_p); exact rfl; exact rfl; exact rfl; exact rfl)
          | ((with_reducible apply r_lss); exact rfl; exact rfl; exact rfl)
          | ((with_reducible apply r_eql); exact rfl; exact rfl; exact rfl)
          | ((with_reducible apply r_add); exact rfl; exact rfl; exact (by first | assumption | (unfold fits; omega)); exact rfl)
          | ((with_reducible apply r_pick_t); exact rfl; exact rfl; exact rfl)
          | ((with_reducible apply r_len_f); exact rfl; exact inferInstance; exact rfl)
          | ((with_reducible apply r_index_f); exact rfl; exact inferInstance; exact rfl; exact rfl; (first | assumption | omega); exact rfl)
          | ((with_reducible apply r_load_fa0); exact rfl; exact inferInstance; exact List.getElem?_eq_getElem (by first | assumption | omega); exact rfl; exact rfl; exact rfl)
          | (((with_reducible apply aw_cond); exact rfl) <;> intro hg <;> (first | (exact absurd hg (by decide)) | ((try simp only [decide_eq_true_eq, decide_eq_false_iff_not, Bool.not_eq_true', Bool.not_eq_false', Bool.not_true, Bool.not_false, Bool.not_not, Int.not_lt, Int.not_le, Nat.not_lt, Nat.not_le, gt_iff_lt, ge_iff_le, List.cons.injEq, and_true] at hg); first | (exact absurd trivial hg) | (exfalso; omega) | (have hT : True := hg; clear hT hg) | skip)))
          | (refine aw_drawq ?_ ?_; (kernel_rfl))
          | ((with_reducible apply ds_nil))
          | (((with_reducible apply rd_guard); exact rfl; exact rfl; exact rfl) <;> intro hg <;> (first | (exact absurd hg (by decide)) | ((try rw [hg]); (try simp only [decide_eq_true_eq, decide_eq_false_iff_not, Bool.not_eq_true', Bool.not_eq_false', Bool.not_true, Bool.not_false, Bool.not_not, Int.not_lt, Int.not_le, Nat.not_lt, Nat.not_le, gt_iff_lt, ge_iff_le, List.cons.injEq, and_true] at hg); first | (exact absurd trivial hg) | (exfalso; omega) | (have hT : True := hg; clear hT hg) | skip)))
          )
        all_goals
          refine ⟨k + 1, ?_, ?_, by refine weak_mk rfl ?_ ?_ <;> repeat (first | exact envW_nil | exact heapW_nil | refine envW_cons rfl rfl ?_ | refine heapW_cons rfl rfl rfl ?_)⟩
          · show _ - (k + 1) < _ - k; omega
          · show k + 1 ≤ _; omega
      · skip
        repeat' (first
          | ((with_reducible apply r_call); exact rfl; exact rfl; (first | exact awake16_con); exact rfl; exact rfl)
          | ((with_reducible apply aw_seq))
          | ((with_reducible apply aw_region))
          | ((with_reducible apply thn_normal))
          | ((with_reducible apply thn_ret))
          | ((with_reducible apply thn_exit))
          | ((with_reducible apply inb_exit))
          | ((with_reducible apply aw_exit))
          | ((with_reducible apply aw_ret))
          | ((with_reducible apply ao_nil))
          | ((with_reducible apply r_move); exact rfl; exact rfl)
          | ((with_reducible apply r_assign); exact rfl; exact rfl)
          | ((with_reducible apply r_lss); exact rfl; exact rfl; exact rfl)
          | ((with_reducible apply r_eql); exact rfl; exact rfl; exact rfl)
          | ((with_reducible apply r_pick_t); exact rfl; exact rfl; exact rfl)
          | ((with_reducible apply r_len_f); exact rfl; exact inferInstance; exact rfl)
          | (((with_reducible apply r_guard); exact rfl; exact rfl; exact rfl; exact rfl) <;> intro hg <;> (first | (exact absurd hg (by decide)) | ((try simp only [decide_eq_true_eq, decide_eq_false_iff_not, Bool.not_eq_true', Bool.not_eq_false', Bool.not_true, Bool.not_false, Bool.not_not, Int.not_lt, Int.not_le, Nat.not_lt, Nat.not_le, gt_iff_lt, ge_iff_le, List.cons.injEq, and_true] at hg); first | (exact absurd trivial hg) | (exfalso; omega) | (have hT : True := hg; clear hT hg) | skip)))
          | (((with_reducible apply aw_cond); exact rfl) <;> intro hg <;> (first | (exact absurd hg (by decide)) | ((try simp only [decide_eq_true_eq, decide_eq_false_iff_not, Bool.not_eq_true', Bool.not_eq_false', Bool.not_true, Bool.not_false, Bool.not_not, Int.not_lt, Int.not_le, Nat.not_lt, Nat.not_le, gt_iff_lt, ge_iff_le, List.cons.injEq, and_true] at hg); first | (exact absurd trivial hg) | (exfalso; omega) | (have hT : True := hg; clear hT hg) | skip)))
          )
        all_goals first | exact ret_b rfl rfl | trace_state
    · rw [priceS_some hi e1] at h3
      rw [e1] at h1
      change Con _ _ _ _ (.tup [I (i : Int), .v (.bool true)]) at h1
      have hp := price_bd (kl_ok hk K[i] (List.getElem_mem _))
      have hm := mulp_bd hp hv
      have h4 := fits_con (gl := gl) K[i] l d hx.1 hx.2
      rw [e2] at h4
      have hq1 := Int.emod_add_mul_ediv (K[i].price * volS l) 1000000000
      have hq2 := Int.emod_nonneg (K[i].price * volS l) (b := 1000000000) (by decide)
      have hq3 := Int.emod_lt_of_pos (K[i].price * volS l) (b := 1000000000) (by decide)
      obtain ⟨v, ev⟩ : ∃ v, v = volS l := ⟨_, rfl⟩
      rw [← ev] at h3 hv c1 hm hq1 hq2 hq3
      obtain ⟨w, hw⟩ : ∃ w, w = K[i].price * v := ⟨_, rfl⟩
      rw [← hw] at h3 hm hq1 hq2 hq3
      obtain ⟨r, er⟩ : ∃ r, r = w % 1000000000 := ⟨_, rfl⟩
      obtain ⟨q, eq⟩ : ∃ q, q = w / 1000000000 := ⟨_, rfl⟩
      rw [← er] at hq1 hq2 hq3
      rw [← eq] at h3 hq1
      have hf1 : fits w := by unfold fits; omega
      have hf2 : fits (1000000000 * q) := by unfold fits; omega
      have hf3 : fits (w - 1000000000 * q) := by unfold fits; omega
      have hf1' : fits (K[i].price * v) := by rw [← hw]; exact hf1
      repeat' (first
        | ((with_reducible apply r_call); exact rfl; exact rfl; (first | exact hs | exact hs2 | exact h0 | exact h1 | exact h3 | exact h4); exact rfl; exact rfl)
        | ((with_reducible apply aw_seq))
        | ((with_reducible apply aw_region))
        | ((with_reducible apply aw_block))
        | ((with_reducible apply thn_normal))
        | ((with_reducible apply aw_skip))
        | ((with_reducible apply ao_nil))
        | ((with_reducible apply r_move); exact rfl; exact rfl)
        | ((with_reducible apply r_assign); exact rfl; exact rfl)
        | ((with_reducible apply r_field_p); exact rfl; exact rfl)
        | ((with_reducible apply r_load_p); exact rfl; exact rfl; exact rfl; exact rfl)
        | ((with_reducible apply r_load_pa); exact rfl; exact rfl; exact rfl; exact rfl; exact rfl)
        | ((with_reducible apply r_lss); exact rfl; exact rfl; exact rfl)
        | ((with_reducible apply r_geq); exact rfl; exact rfl; exact rfl)
        | ((with_reducible apply r_neq); exact rfl; exact rfl; exact rfl)
        | ((with_reducible apply r_box_a); exact rfl; exact rfl)
        | ((with_reducible apply r_pick_f); exact rfl; exact rfl; exact rfl)
        | ((with_reducible apply r_not); exact rfl; exact rfl)
        | ((with_reducible apply r_len_f); exact rfl; exact inferInstance; exact rfl)
        | ((with_reducible apply r_index_f); exact rfl; exact inferInstance; exact rfl; exact rfl; (first | assumption | omega); exact rfl)
        | ((with_reducible apply r_load_fa0); exact rfl; exact inferInstance; exact List.getElem?_eq_getElem (by first | assumption | omega); exact rfl; exact rfl; exact rfl)
        | ((with_reducible apply r_extract); exact rfl; exact rfl; exact rfl)
        | (((with_reducible apply r_guard); exact rfl; exact rfl; exact rfl; exact rfl) <;> intro hg <;> (first | (exact absurd hg (by decide)) | ((try simp only [decide_eq_true_eq, decide_eq_false_iff_not, Bool.not_eq_true', Bool.not_eq_false', Bool.not_true, Bool.not_false, Bool.not_not, Int.not_lt, Int.not_le, Nat.not_lt, Nat.not_le, gt_iff_lt, ge_iff_le, List.cons.injEq, and_true] at hg); first | (exact absurd trivial hg) | (exfalso; omega) | (have hT : True := hg; clear hT hg) | skip)))
        | (((with_reducible apply aw_cond); exact rfl) <;> intro hg <;> (first | (exact absurd hg (by decide)) | ((try simp only [decide_eq_true_eq, decide_eq_false_iff_not, Bool.not_eq_true', Bool.not_eq_false', Bool.not_true, Bool.not_false, Bool.not_not, Int.not_lt, Int.not_le, Nat.not_lt, Nat.not_le, gt_iff_lt, ge_iff_le, List.cons.injEq, and_true] at hg); first | (exact absurd trivial hg) | (exfalso; omega) | (have hT : True := hg; clear hT hg) | skip)))
        | (refine aw_drawq ?_ ?_; (kernel_rfl))
        | ((with_reducible apply ds_nil))
        | (((with_reducible apply rd_guard); exact rfl; exact rfl; exact rfl) <;> intro hg <;> (first | (exact absurd hg (by decide)) | ((try rw [hg]); (try simp only [decide_eq_true_eq, decide_eq_false_iff_not, Bool.not_eq_true', Bool.not_eq_false', Bool.not_true, Bool.not_false, Bool.not_not, Int.not_lt, Int.not_le, Nat.not_lt, Nat.not_le, gt_iff_lt, ge_iff_le, List.cons.injEq, and_true] at hg); first | (exact absurd trivial hg) | (exfalso; omega) | (have hT : True := hg; clear hT hg) | skip)))
        )
      refine aw_loopG (G := Nat) (fun (k : Nat) => k ≤ i) (fun (k : Nat) => i - k) (fun (k : Nat) => [(0, .c (LK K)), (3, .ptr 0 0), (5, A i), (7, A q), (9, A k)]) (fun (k : Nat) => [(0, some (.cells 32 [.c (LL l), .c (LD d)]))]) 1 0 ?_ (by refine weak_mk rfl ?_ ?_ <;> repeat (first | exact envW_nil | exact heapW_nil | refine envW_cons rfl rfl ?_ | refine heapW_cons rfl rfl rfl ?_)) rfl ?_
      · exact Nat.zero_le _
      rintro k hI
      try dsimp only at hI
      try dsimp only
      by_cases hki : k < i
      · have h5 := fits_con (gl := gl) K[k] l d hx.1 hx.2
        rw [e3 k (by omega) hki] at h5
        repeat' (first
          | ((with_reducible apply r_call); exact rfl; exact rfl; (first | exact h5); exact rfl; exact rfl)
          | ((with_reducible apply aw_seq))
          | ((with_reducible apply aw_region))
          | ((with_reducible apply aw_block))
          | ((with_reducible apply thn_normal))
          | ((with_reducible apply inb_normal))
          | ((with_reducible apply aw_skip))
          | ((with_reducible apply ao_nil))
          | ((with_reducible apply r_move); exact rfl; exact rfl)
          | ((with_reducible apply r_assign); exact rfl; exact rfl)
          | ((with_reducible apply r_field_p); exact rfl; exact rfl)
          | ((with_reducible apply r_load_p); exact rfl; exact rfl; exact rfl; exact rfl)
          | ((with_reducible apply r_lss); exact rfl; exact rfl; exact rfl)
          | ((with_reducible apply r_add); exact rfl; exact rfl; exact (by first | assumption | (unfold fits; omega)); exact rfl)
          | ((with_reducible apply r_index_f); exact rfl; exact inferInstance; exact rfl; exact rfl; (first | assumption | omega); exact rfl)
          | ((with_reducible apply r_load_fa0); exact rfl; exact inferInstance; exact List.getElem?_eq_getElem (by first | assumption | omega); exact rfl; exact rfl; exact rfl)
          | (((with_reducible apply aw_cond); exact rfl) <;> intro hg <;> (first | (exact absurd hg (by decide)) | ((try simp only [decide_eq_true_eq, decide_eq_false_iff_not, Bool.not_eq_true', Bool.not_eq_false', Bool.not_true, Bool.not_false, Bool.not_not, Int.not_lt, Int.not_le, Nat.not_lt, Nat.not_le, gt_iff_lt, ge_iff_le, List.cons.injEq, and_true] at hg); first | (exact absurd trivial hg) | (exfalso; omega) | (have hT : True := hg; clear hT hg) | skip)))
          | (refine aw_drawq ?_ ?_; (kernel_rfl))
          | ((with_reducible apply ds_nil))
          )
        refine ⟨k + 1, ?_, ?_, by refine weak_mk rfl ?_ ?_ <;> repeat (first | exact envW_nil | exact heapW_nil | refine envW_cons rfl rfl ?_ | refine heapW_cons rfl rfl rfl ?_)⟩
        · show _ - (k + 1) < _ - k; omega
        · show k + 1 ≤ _; omega
      · obtain rfl : k = i := by omega
        repeat' (first
          | ((with_reducible apply r_call); exact rfl; exact rfl; (first | exact c1 | exact awake16_con); exact rfl; exact rfl)
          | (rw [← hw])
          | ((with_reducible apply aw_seq))
          | ((with_reducible apply aw_region))
          | ((with_reducible apply thn_normal))
          | ((with_reducible apply thn_exit))
          | ((with_reducible apply inb_exit))
          | ((with_reducible apply aw_exit))
          | ((with_reducible apply aw_ret))
          | ((with_reducible apply ao_nil))
          | ((with_reducible apply r_move); exact rfl; exact rfl)
          | ((with_reducible apply r_assign); exact rfl; exact rfl)
          | ((with_reducible apply r_field_p); exact rfl; exact rfl)
          | ((with_reducible apply r_load_p); exact rfl; exact rfl; exact rfl; exact rfl)
          | ((with_reducible apply r_lss); exact rfl; exact rfl; exact rfl)
          | ((with_reducible apply r_geq); exact rfl; exact rfl; exact rfl)
          | ((with_reducible apply r_sub); exact rfl; exact rfl; exact (by first | assumption | (unfold fits; omega)); exact rfl)
          | ((with_reducible apply r_mul); exact rfl; exact rfl; exact (by first | assumption | (unfold fits; omega)); exact rfl)
          | ((with_reducible apply r_pick_t); exact rfl; exact rfl; exact rfl)
          | ((with_reducible apply r_index_f); exact rfl; exact inferInstance; exact rfl; exact rfl; (first | assumption | omega); exact rfl)
          | ((with_reducible apply r_load_f); exact rfl; exact inferInstance; exact List.getElem?_eq_getElem (by first | assumption | omega); exact rfl; exact rfl; exact rfl)
          | ((with_reducible apply r_field_e); exact rfl; exact rfl)
          | (((with_reducible apply r_guard); exact rfl; exact rfl; exact rfl; exact rfl) <;> intro hg <;> (first | (exact absurd hg (by decide)) | ((try simp only [decide_eq_true_eq, decide_eq_false_iff_not, Bool.not_eq_true', Bool.not_eq_false', Bool.not_true, Bool.not_false, Bool.not_not, Int.not_lt, Int.not_le, Nat.not_lt, Nat.not_le, gt_iff_lt, ge_iff_le, List.cons.injEq, and_true] at hg); first | (exact absurd trivial hg) | (exfalso; omega) | (have hT : True := hg; clear hT hg) | skip)))
          | (((with_reducible apply aw_cond); exact rfl) <;> intro hg <;> (first | (exact absurd hg (by decide)) | ((try simp only [decide_eq_true_eq, decide_eq_false_iff_not, Bool.not_eq_true', Bool.not_eq_false', Bool.not_true, Bool.not_false, Bool.not_not, Int.not_lt, Int.not_le, Nat.not_lt, Nat.not_le, gt_iff_lt, ge_iff_le, List.cons.injEq, and_true] at hg); first | (exact absurd trivial hg) | (exfalso; omega) | (have hT : True := hg; clear hT hg) | skip)))
          | (refine aw_drawq ?_ ?_; (kernel_rfl))
          | ((with_reducible apply ds_nil))
          )
        all_goals first | exact ret_b rfl rfl | exact ret_b rfl (by simp) | trace_state
  · have e1 := of_bad (c := K) (l := l) (d := d) hk
    rw [priceS_none e1] at h3
    rw [e1] at h1
    change Con _ _ _ _ (.tup [I 0, .v (.bool false)]) at h1
    repeat' (first
      | ((with_reducible apply r_call); exact rfl; exact rfl; (first | exact hs | exact hs2 | exact h1 | exact h3); exact rfl; exact rfl)
      | ((with_reducible apply aw_seq))
      | ((with_reducible apply aw_region))
      | ((with_reducible apply aw_block))
      | ((with_reducible apply thn_normal))
      | ((with_reducible apply aw_skip))
      | ((with_reducible apply ao_nil))
      | ((with_reducible apply r_move); exact rfl; exact rfl)
      | ((with_reducible apply r_assign); exact rfl; exact rfl)
      | ((with_reducible apply r_field_p); exact rfl; exact rfl)
      | ((with_reducible apply r_load_p); exact rfl; exact rfl; exact rfl; exact rfl)
      | ((with_reducible apply r_load_pa); exact rfl; exact rfl; exact rfl; exact rfl; exact rfl)
      | ((with_reducible apply r_box_a); exact rfl; exact rfl)
      | ((with_reducible apply r_pick_f); exact rfl; exact rfl; exact rfl)
      | ((with_reducible apply r_not); exact rfl; exact rfl)
      | ((with_reducible apply r_extract); exact rfl; exact rfl; exact rfl)
      | (((with_reducible apply r_guard); exact rfl; exact rfl; exact rfl; exact rfl) <;> intro hg <;> (first | (exact absurd hg (by decide)) | ((try simp only [decide_eq_true_eq, decide_eq_false_iff_not, Bool.not_eq_true', Bool.not_eq_false', Bool.not_true, Bool.not_false, Bool.not_not, Int.not_lt, Int.not_le, Nat.not_lt, Nat.not_le, gt_iff_lt, ge_iff_le, List.cons.injEq, and_true] at hg); first | (exact absurd trivial hg) | (exfalso; omega) | (have hT : True := hg; clear hT hg) | skip)))
      | (((with_reducible apply aw_cond); exact rfl) <;> intro hg <;> (first | (exact absurd hg (by decide)) | ((try simp only [decide_eq_true_eq, decide_eq_false_iff_not, Bool.not_eq_true', Bool.not_eq_false', Bool.not_true, Bool.not_false, Bool.not_not, Int.not_lt, Int.not_le, Nat.not_lt, Nat.not_le, gt_iff_lt, ge_iff_le, List.cons.injEq, and_true] at hg); first | (exact absurd trivial hg) | (exfalso; omega) | (have hT : True := hg; clear hT hg) | skip)))
      )
    refine aw_loopG (G := Nat) (fun (k : Nat) => k ≤ K.length) (fun (k : Nat) => K.length - k) (fun (k : Nat) => [(0, .c (LK K)), (3, .ptr 0 0), (5, A 0), (7, A 0), (8, A k)]) (fun (k : Nat) => [(0, some (.cells 32 [.c (LL l), .c (LD d)]))]) 1 0 ?_ (by refine weak_mk rfl ?_ ?_ <;> repeat (first | exact envW_nil | exact heapW_nil | refine envW_cons rfl rfl ?_ | refine heapW_cons rfl rfl rfl ?_)) rfl ?_
    · exact Nat.zero_le _
    rintro k hI
    try dsimp only at hI
    try dsimp only
    by_cases hkl : k < K.length
    · skip
      repeat' (first
        | ((with_reducible apply r_call); exact rfl; exact rfl; (first | exact h0); exact rfl; exact rfl)
        | ((with_reducible apply aw_seq))
        | ((with_reducible apply aw_region))
        | ((with_reducible apply aw_block))
        | ((with_reducible apply thn_normal))
        | ((with_reducible apply inb_normal))
        | ((with_reducible apply aw_skip))
        | ((with_reducible apply ao_nil))
        | ((with_reducible apply r_move); exact rfl; exact rfl)
        | ((with_reducible apply r_assign); exact rfl; exact rfl)
        | ((with_reducible apply r_lss); exact rfl; exact rfl; exact rfl)
        | ((with_reducible apply r_eql); exact rfl; exact rfl; exact rfl)
        | ((with_reducible apply r_add); exact rfl; exact rfl; exact (by first | assumption | (unfold fits; omega)); exact rfl)
        | ((with_reducible apply r_pick_f); exact rfl; exact rfl; exact rfl)
        | ((with_reducible apply r_len_f); exact rfl; exact inferInstance; exact rfl)
        | (((with_reducible apply aw_cond); exact rfl) <;> intro hg <;> (first | (exact absurd hg (by decide)) | ((try simp only [decide_eq_true_eq, decide_eq_false_iff_not, Bool.not_eq_true', Bool.not_eq_false', Bool.not_true, Bool.not_false, Bool.not_not, Int.not_lt, Int.not_le, Nat.not_lt, Nat.not_le, gt_iff_lt, ge_iff_le, List.cons.injEq, and_true] at hg); first | (exact absurd trivial hg) | (exfalso; omega) | (have hT : True := hg; clear hT hg) | skip)))
        | (refine aw_drawq ?_ ?_; (kernel_rfl))
        | ((with_reducible apply ds_nil))
        | (((with_reducible apply rd_guard); exact rfl; exact rfl; exact rfl) <;> intro hg <;> (first | (exact absurd hg (by decide)) | ((try rw [hg]); (try simp only [decide_eq_true_eq, decide_eq_false_iff_not, Bool.not_eq_true', Bool.not_eq_false', Bool.not_true, Bool.not_false, Bool.not_not, Int.not_lt, Int.not_le, Nat.not_lt, Nat.not_le, gt_iff_lt, ge_iff_le, List.cons.injEq, and_true] at hg); first | (exact absurd trivial hg) | (exfalso; omega) | (have hT : True := hg; clear hT hg) | skip)))
        )
      all_goals
        refine ⟨k + 1, ?_, ?_, by refine weak_mk rfl ?_ ?_ <;> repeat (first | exact envW_nil | exact heapW_nil | refine envW_cons rfl rfl ?_ | refine heapW_cons rfl rfl rfl ?_)⟩
        · show _ - (k + 1) < _ - k; omega
        · show k + 1 ≤ _; omega
    · skip
      repeat' (first
        | ((with_reducible apply r_call); exact rfl; exact rfl; (first | exact awake16_con); exact rfl; exact rfl)
        | ((with_reducible apply aw_seq))
        | ((with_reducible apply aw_region))
        | ((with_reducible apply thn_normal))
        | ((with_reducible apply thn_ret))
        | ((with_reducible apply thn_exit))
        | ((with_reducible apply inb_exit))
        | ((with_reducible apply aw_exit))
        | ((with_reducible apply aw_ret))
        | ((with_reducible apply ao_nil))
        | ((with_reducible apply r_move); exact rfl; exact rfl)
        | ((with_reducible apply r_assign); exact rfl; exact rfl)
        | ((with_reducible apply r_lss); exact rfl; exact rfl; exact rfl)
        | ((with_reducible apply r_eql); exact rfl; exact rfl; exact rfl)
        | ((with_reducible apply r_pick_t); exact rfl; exact rfl; exact rfl)
        | ((with_reducible apply r_len_f); exact rfl; exact inferInstance; exact rfl)
        | (((with_reducible apply r_guard); exact rfl; exact rfl; exact rfl; exact rfl) <;> intro hg <;> (first | (exact absurd hg (by decide)) | ((try simp only [decide_eq_true_eq, decide_eq_false_iff_not, Bool.not_eq_true', Bool.not_eq_false', Bool.not_true, Bool.not_false, Bool.not_not, Int.not_lt, Int.not_le, Nat.not_lt, Nat.not_le, gt_iff_lt, ge_iff_le, List.cons.injEq, and_true] at hg); first | (exact absurd trivial hg) | (exfalso; omega) | (have hT : True := hg; clear hT hg) | skip)))
        | (((with_reducible apply aw_cond); exact rfl) <;> intro hg <;> (first | (exact absurd hg (by decide)) | ((try simp only [decide_eq_true_eq, decide_eq_false_iff_not, Bool.not_eq_true', Bool.not_eq_false', Bool.not_true, Bool.not_false, Bool.not_not, Int.not_lt, Int.not_le, Nat.not_lt, Nat.not_le, gt_iff_lt, ge_iff_le, List.cons.injEq, and_true] at hg); first | (exact absurd trivial hg) | (exfalso; omega) | (have hT : True := hg; clear hT hg) | skip)))
        )
      all_goals first | exact ret_b rfl rfl | trace_state
end Go.Proofs.Ytokkpocccgdilaa.Ge
