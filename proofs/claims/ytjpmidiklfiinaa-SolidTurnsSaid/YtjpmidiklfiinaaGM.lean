/- Walks of the laws on solids: Small; SolidChecks, SolidWithin. -/
import Derived.Test.YtjpmidiklfiinaaGL
namespace Go.Proofs.Ytjpmidiklfiinaa.Ge
set_option linter.unusedVariables false
set_option linter.unusedSimpArgs false
open Go.RowKit Go.Proofs.Ytjpmidiklfiinaa.Ev
variable {gl : List (Nat × List CV)}

def rowB (x : Slc) : Bool := decide (x.sec.rows.length ≤ 130)
def smallS (l : List Slc) : Bool := decide (l.length ≤ 30) && l.all rowB
theorem small_len {l : List Slc} (h : smallS l = true) : l.length ≤ 30 := by
  unfold smallS at h; simp only [Bool.and_eq_true, decide_eq_true_eq] at h; exact h.1
theorem small_row {l : List Slc} (h : smallS l = true) : ∀ i (h : i < l.length), l[i].sec.rows.length ≤ 130 := by
  unfold smallS at h; simp only [Bool.and_eq_true, decide_eq_true_eq] at h
  intro i hi
  have := List.all_eq_true.1 h.2 _ (List.getElem_mem hi)
  unfold rowB at this; simpa using this
set_option maxRecDepth 100000 in
set_option maxHeartbeats 4000000 in
theorem small_con (l : List Slc) (hn : l.length ≤ maxLen) : Con Try.prog gl 11 [LL l] (.v (.bool (smallS l))) := by
  refine con_of Try.func11 rfl (by kernel_rfl) rfl ?_
  simp only [Try.ntmps11, Try.results11, argEnv, ofC, of1, List.map]
  by_cases h30 : 30 < l.length
  · skip
    repeat' (first
      | ((with_reducible apply aw_seq))
      | ((with_reducible apply aw_region))
      | ((with_reducible apply thn_normal))
      | ((with_reducible apply thn_ret))
      | ((with_reducible apply aw_ret))
      | ((with_reducible apply ao_nil))
      | ((with_reducible apply r_move); exact rfl; exact rfl)
      | ((with_reducible apply r_assign); exact rfl; exact rfl)
      | ((with_reducible apply r_gtr); exact rfl; exact rfl; exact rfl)
      | ((with_reducible apply r_len_f); exact rfl; exact inferInstance; exact rfl)
      | (((with_reducible apply aw_cond); exact rfl) <;> intro hg <;> (first | (exact absurd hg (by decide)) | ((try simp only [decide_eq_true_eq, decide_eq_false_iff_not, Bool.not_eq_true', Bool.not_eq_false', Bool.not_true, Bool.not_false, Bool.not_not, Int.not_lt, Int.not_le, Nat.not_lt, Nat.not_le, gt_iff_lt, ge_iff_le, List.cons.injEq, and_true] at hg); first | (exact absurd trivial hg) | (exfalso; omega) | (have hT : True := hg; clear hT hg) | skip)))
      )
    exact ret_b rfl (by unfold smallS; rw [decide_eq_false (by omega)]; rfl)
  have h30' : decide (l.length ≤ 30) = true := decide_eq_true (by omega)
  repeat' (first
    | ((with_reducible apply aw_seq))
    | ((with_reducible apply aw_region))
    | ((with_reducible apply aw_block))
    | ((with_reducible apply thn_normal))
    | ((with_reducible apply aw_skip))
    | ((with_reducible apply ao_nil))
    | ((with_reducible apply r_move); exact rfl; exact rfl)
    | ((with_reducible apply r_assign); exact rfl; exact rfl)
    | ((with_reducible apply r_gtr); exact rfl; exact rfl; exact rfl)
    | ((with_reducible apply r_len_f); exact rfl; exact inferInstance; exact rfl)
    | (((with_reducible apply aw_cond); exact rfl) <;> intro hg <;> (first | (exact absurd hg (by decide)) | ((try simp only [decide_eq_true_eq, decide_eq_false_iff_not, Bool.not_eq_true', Bool.not_eq_false', Bool.not_true, Bool.not_false, Bool.not_not, Int.not_lt, Int.not_le, Nat.not_lt, Nat.not_le, gt_iff_lt, ge_iff_le, List.cons.injEq, and_true] at hg); first | (exact absurd trivial hg) | (exfalso; omega) | (have hT : True := hg; clear hT hg) | skip)))
    )
  refine aw_loopG (G := Nat) (fun (j : Nat) => j ≤ l.length ∧ ∀ i (h : i < l.length), i < j → rowB l[i] = true) (fun (j : Nat) => l.length - j) (fun (j : Nat) => [(0, .c (LL l)), (3, A j)]) (fun (j : Nat) => []) 0 0 ?_ (by refine weak_mk rfl ?_ ?_ <;> repeat (first | exact envW_nil | exact heapW_nil | refine envW_cons rfl rfl ?_ | refine heapW_cons rfl rfl rfl ?_)) rfl ?_
  · exact ⟨Nat.zero_le _, fun _ _ h => absurd h (Nat.not_lt_zero _)⟩
  rintro j hI
  try dsimp only at hI
  try dsimp only
  obtain ⟨hj, hall⟩ := hI
  by_cases hjl : j < l.length
  · by_cases hr : l[j].sec.rows.length ≤ 130
    · skip
      repeat' (first
        | ((with_reducible apply (r_field_e2 (j := 1))); exact rfl; exact rfl)
        | ((with_reducible apply aw_seq))
        | ((with_reducible apply aw_region))
        | ((with_reducible apply aw_block))
        | ((with_reducible apply thn_normal))
        | ((with_reducible apply inb_normal))
        | ((with_reducible apply aw_skip))
        | ((with_reducible apply ao_nil))
        | ((with_reducible apply r_move); exact rfl; exact rfl)
        | ((with_reducible apply r_assign); exact rfl; exact rfl)
        | ((with_reducible apply r_lss); exact rfl; exact rfl; exact rfl)
        | ((with_reducible apply r_gtr); exact rfl; exact rfl; exact rfl)
        | ((with_reducible apply r_add); exact rfl; exact rfl; exact (by first | assumption | (unfold fits; omega)); exact rfl)
        | ((with_reducible apply r_len_f); exact rfl; exact inferInstance; exact rfl)
        | ((with_reducible apply r_index_f); exact rfl; exact inferInstance; exact rfl; exact rfl; (first | assumption | omega); exact rfl)
        | ((with_reducible apply r_load_f); exact rfl; exact inferInstance; exact List.getElem?_eq_getElem (by first | assumption | omega); exact rfl; exact rfl; exact rfl)
        | ((with_reducible apply r_field_e); exact rfl; exact rfl)
        | (((with_reducible apply aw_cond); exact rfl) <;> intro hg <;> (first | (exact absurd hg (by decide)) | ((try simp only [decide_eq_true_eq, decide_eq_false_iff_not, Bool.not_eq_true', Bool.not_eq_false', Bool.not_true, Bool.not_false, Bool.not_not, Int.not_lt, Int.not_le, Nat.not_lt, Nat.not_le, gt_iff_lt, ge_iff_le, List.cons.injEq, and_true] at hg); first | (exact absurd trivial hg) | (exfalso; omega) | (have hT : True := hg; clear hT hg) | skip)))
        )
      refine ⟨j + 1, ?_, ?_, by refine weak_mk rfl ?_ ?_ <;> repeat (first | exact envW_nil | exact heapW_nil | refine envW_cons rfl rfl ?_ | refine heapW_cons rfl rfl rfl ?_)⟩
      · show _ - (j + 1) < _ - j; omega
      · exact ⟨by show j + 1 ≤ _; omega, step_all hjl hall (by unfold rowB; exact decide_eq_true hr)⟩
    · skip
      repeat' (first
        | ((with_reducible apply (r_field_e2 (j := 1))); exact rfl; exact rfl)
        | ((with_reducible apply aw_seq))
        | ((with_reducible apply aw_region))
        | ((with_reducible apply aw_block))
        | ((with_reducible apply thn_normal))
        | ((with_reducible apply thn_ret))
        | ((with_reducible apply inb_ret))
        | ((with_reducible apply aw_skip))
        | ((with_reducible apply aw_ret))
        | ((with_reducible apply ao_nil))
        | ((with_reducible apply r_move); exact rfl; exact rfl)
        | ((with_reducible apply r_assign); exact rfl; exact rfl)
        | ((with_reducible apply r_lss); exact rfl; exact rfl; exact rfl)
        | ((with_reducible apply r_gtr); exact rfl; exact rfl; exact rfl)
        | ((with_reducible apply r_len_f); exact rfl; exact inferInstance; exact rfl)
        | ((with_reducible apply r_index_f); exact rfl; exact inferInstance; exact rfl; exact rfl; (first | assumption | omega); exact rfl)
        | ((with_reducible apply r_load_f); exact rfl; exact inferInstance; exact List.getElem?_eq_getElem (by first | assumption | omega); exact rfl; exact rfl; exact rfl)
        | ((with_reducible apply r_field_e); exact rfl; exact rfl)
        | (((with_reducible apply aw_cond); exact rfl) <;> intro hg <;> (first | (exact absurd hg (by decide)) | ((try simp only [decide_eq_true_eq, decide_eq_false_iff_not, Bool.not_eq_true', Bool.not_eq_false', Bool.not_true, Bool.not_false, Bool.not_not, Int.not_lt, Int.not_le, Nat.not_lt, Nat.not_le, gt_iff_lt, ge_iff_le, List.cons.injEq, and_true] at hg); first | (exact absurd trivial hg) | (exfalso; omega) | (have hT : True := hg; clear hT hg) | skip)))
        )
      exact ret_b rfl (by unfold smallS; rw [all_not hjl (by unfold rowB; exact decide_eq_false hr), Bool.and_false])
  · skip
    repeat' (first
      | ((with_reducible apply aw_seq))
      | ((with_reducible apply aw_region))
      | ((with_reducible apply thn_normal))
      | ((with_reducible apply thn_exit))
      | ((with_reducible apply inb_exit))
      | ((with_reducible apply aw_exit))
      | ((with_reducible apply aw_ret))
      | ((with_reducible apply ao_nil))
      | ((with_reducible apply r_move); exact rfl; exact rfl)
      | ((with_reducible apply r_assign); exact rfl; exact rfl)
      | ((with_reducible apply r_lss); exact rfl; exact rfl; exact rfl)
      | ((with_reducible apply r_len_f); exact rfl; exact inferInstance; exact rfl)
      | (((with_reducible apply aw_cond); exact rfl) <;> intro hg <;> (first | (exact absurd hg (by decide)) | ((try simp only [decide_eq_true_eq, decide_eq_false_iff_not, Bool.not_eq_true', Bool.not_eq_false', Bool.not_true, Bool.not_false, Bool.not_not, Int.not_lt, Int.not_le, Nat.not_lt, Nat.not_le, gt_iff_lt, ge_iff_le, List.cons.injEq, and_true] at hg); first | (exact absurd trivial hg) | (exfalso; omega) | (have hT : True := hg; clear hT hg) | skip)))
      )
    exact ret_b rfl (by unfold smallS; rw [h30', all_of (fun i hi => hall i hi (by omega))]; rfl)
abbrev SlQ (l : List Slc) : Prop := l.length ≤ maxLen
set_option maxRecDepth 100000 in
set_option maxHeartbeats 4000000 in
theorem checks_law (l : List Slc) (hn : SlQ l) : Con Try.prog gl 3 [LL l] T := by
  have hs := small_con (gl := gl) l hn
  have h1 := scheck_con (gl := gl) l hn
  have h2 := rscheck_con (gl := gl) l hn
  have h3 := slength_con (gl := gl) l hn
  have h4 := rslength_con (gl := gl) l hn
  have h5 := svolume_con (gl := gl) l hn
  have h6 := rsvolume_con (gl := gl) l hn
  refine con_of Try.func3 rfl (by kernel_rfl) rfl ?_
  simp only [Try.ntmps3, Try.results3, argEnv, ofC, of1, List.map]
  cases h : smallS l with
  | false =>
    rw [h] at hs
    repeat' (first
      | ((with_reducible apply r_call); exact rfl; exact rfl; (first | exact hs | exact awake_con); exact rfl; exact rfl)
      | ((with_reducible apply aw_seq))
      | ((with_reducible apply aw_region))
      | ((with_reducible apply thn_normal))
      | ((with_reducible apply thn_ret))
      | ((with_reducible apply aw_ret))
      | ((with_reducible apply ao_nil))
      | ((with_reducible apply r_move); exact rfl; exact rfl)
      | ((with_reducible apply r_assign); exact rfl; exact rfl)
      | ((with_reducible apply r_not); exact rfl; exact rfl)
      | (((with_reducible apply aw_cond); exact rfl) <;> intro hg <;> (first | (exact absurd hg (by decide)) | ((try simp only [decide_eq_true_eq, decide_eq_false_iff_not, Bool.not_eq_true', Bool.not_eq_false', Bool.not_true, Bool.not_false, Bool.not_not, Int.not_lt, Int.not_le, Nat.not_lt, Nat.not_le, gt_iff_lt, ge_iff_le, List.cons.injEq, and_true] at hg); first | (exact absurd trivial hg) | (exfalso; omega) | (have hT : True := hg; clear hT hg) | skip)))
      )
    all_goals first | exact ret_b rfl rfl | trace_state
  | true =>
    rw [h] at hs
    repeat' (first
      | ((with_reducible apply r_call); exact rfl; exact rfl; (first | exact hs | exact h1 | exact h2 | exact h3 | exact h4 | exact h5 | exact h6 | exact awake_con); exact rfl; exact rfl)
      | ((with_reducible apply aw_seq))
      | ((with_reducible apply aw_region))
      | ((with_reducible apply thn_normal))
      | ((with_reducible apply aw_skip))
      | ((with_reducible apply aw_ret))
      | ((with_reducible apply ao_nil))
      | ((with_reducible apply r_move); exact rfl; exact rfl)
      | ((with_reducible apply r_assign); exact rfl; exact rfl)
      | ((with_reducible apply r_eql); exact rfl; exact rfl; exact rfl)
      | ((with_reducible apply r_pick_t); exact rfl; exact rfl; exact rfl)
      | ((with_reducible apply r_not); exact rfl; exact rfl)
      | (((with_reducible apply r_guard); exact rfl; exact rfl; exact rfl; exact rfl) <;> intro hg <;> (first | (exact absurd hg (by decide)) | ((try simp only [decide_eq_true_eq, decide_eq_false_iff_not, Bool.not_eq_true', Bool.not_eq_false', Bool.not_true, Bool.not_false, Bool.not_not, Int.not_lt, Int.not_le, Nat.not_lt, Nat.not_le, gt_iff_lt, ge_iff_le, List.cons.injEq, and_true] at hg); first | (exact absurd trivial hg) | (exfalso; omega) | (have hT : True := hg; clear hT hg) | skip)))
      | (((with_reducible apply aw_cond); exact rfl) <;> intro hg <;> (first | (exact absurd hg (by decide)) | ((try simp only [decide_eq_true_eq, decide_eq_false_iff_not, Bool.not_eq_true', Bool.not_eq_false', Bool.not_true, Bool.not_false, Bool.not_not, Int.not_lt, Int.not_le, Nat.not_lt, Nat.not_le, gt_iff_lt, ge_iff_le, List.cons.injEq, and_true] at hg); first | (exact absurd trivial hg) | (exfalso; omega) | (have hT : True := hg; clear hT hg) | skip)))
      )
    all_goals first | exact ret_b rfl rfl | trace_state
abbrev boxC (b : Span × Span × Span) : CV := .agg [I b.1.1, I b.1.2, I b.2.1.1, I b.2.1.2, I b.2.2.1, I b.2.2.2]
abbrev SpQ (s : Span) : Prop := fits s.1 ∧ fits s.2
abbrev BoxQ (b : Span × Span × Span) : Prop := SpQ b.1 ∧ SpQ b.2.1 ∧ SpQ b.2.2
set_option maxRecDepth 100000 in
set_option maxHeartbeats 4000000 in
theorem within_law (l : List Slc) (hn : SlQ l) (b : Span × Span × Span) (hb : BoxQ b) : Con Try.prog gl 4 [LL l, boxC b] T := by
  have hs := small_con (gl := gl) l hn
  have h1 := swithin_con (gl := gl) l hn b.1 b.2.1 b.2.2
  have h2 := rswithin_con (gl := gl) l hn b.1 b.2.1 b.2.2 hb.2.2
  refine con_of Try.func4 rfl (by kernel_rfl) rfl ?_
  simp only [Try.ntmps4, Try.results4, argEnv, ofC, of1, List.map]
  cases h : smallS l with
  | false =>
    rw [h] at hs
    repeat' (first
      | ((with_reducible apply r_call); exact rfl; exact rfl; (first | exact hs | exact awake_con); exact rfl; exact rfl)
      | ((with_reducible apply aw_seq))
      | ((with_reducible apply aw_region))
      | ((with_reducible apply thn_normal))
      | ((with_reducible apply thn_ret))
      | ((with_reducible apply aw_ret))
      | ((with_reducible apply ao_nil))
      | ((with_reducible apply r_move); exact rfl; exact rfl)
      | ((with_reducible apply r_assign); exact rfl; exact rfl)
      | ((with_reducible apply r_box_a); exact rfl; exact rfl)
      | ((with_reducible apply r_not); exact rfl; exact rfl)
      | (((with_reducible apply aw_cond); exact rfl) <;> intro hg <;> (first | (exact absurd hg (by decide)) | ((try simp only [decide_eq_true_eq, decide_eq_false_iff_not, Bool.not_eq_true', Bool.not_eq_false', Bool.not_true, Bool.not_false, Bool.not_not, Int.not_lt, Int.not_le, Nat.not_lt, Nat.not_le, gt_iff_lt, ge_iff_le, List.cons.injEq, and_true] at hg); first | (exact absurd trivial hg) | (exfalso; omega) | (have hT : True := hg; clear hT hg) | skip)))
      )
    all_goals first | exact ret_b rfl rfl | trace_state
  | true =>
    rw [h] at hs
    repeat' (first
      | ((with_reducible apply r_call); exact rfl; exact rfl; (first | exact hs | exact h1 | exact h2 | exact awake_con); exact rfl; exact rfl)
      | ((with_reducible apply aw_seq))
      | ((with_reducible apply aw_region))
      | ((with_reducible apply thn_normal))
      | ((with_reducible apply aw_skip))
      | ((with_reducible apply aw_ret))
      | ((with_reducible apply ao_nil))
      | ((with_reducible apply r_move); exact rfl; exact rfl)
      | ((with_reducible apply r_assign); exact rfl; exact rfl)
      | ((with_reducible apply r_load_pa); exact rfl; exact rfl; exact rfl; exact rfl; exact rfl)
      | ((with_reducible apply r_eql); exact rfl; exact rfl; exact rfl)
      | ((with_reducible apply r_box_a); exact rfl; exact rfl)
      | ((with_reducible apply r_pick_t); exact rfl; exact rfl; exact rfl)
      | ((with_reducible apply r_not); exact rfl; exact rfl)
      | (((with_reducible apply aw_cond); exact rfl) <;> intro hg <;> (first | (exact absurd hg (by decide)) | ((try simp only [decide_eq_true_eq, decide_eq_false_iff_not, Bool.not_eq_true', Bool.not_eq_false', Bool.not_true, Bool.not_false, Bool.not_not, Int.not_lt, Int.not_le, Nat.not_lt, Nat.not_le, gt_iff_lt, ge_iff_le, List.cons.injEq, and_true] at hg); first | (exact absurd trivial hg) | (exfalso; omega) | (have hT : True := hg; clear hT hg) | skip)))
      | (refine aw_drawq ?_ ?_; (kernel_rfl))
      | ((with_reducible apply ds_nil))
      | (((with_reducible apply rd_guard); exact rfl; exact rfl; exact rfl) <;> intro hg <;> (first | (exact absurd hg (by decide)) | ((try rw [hg]); (try simp only [decide_eq_true_eq, decide_eq_false_iff_not, Bool.not_eq_true', Bool.not_eq_false', Bool.not_true, Bool.not_false, Bool.not_not, Int.not_lt, Int.not_le, Nat.not_lt, Nat.not_le, gt_iff_lt, ge_iff_le, List.cons.injEq, and_true] at hg); first | (exact absurd trivial hg) | (exfalso; omega) | (have hT : True := hg; clear hT hg) | skip)))
      )
    all_goals first | exact ret_b rfl rfl | trace_state
end Go.Proofs.Ytjpmidiklfiinaa.Ge
