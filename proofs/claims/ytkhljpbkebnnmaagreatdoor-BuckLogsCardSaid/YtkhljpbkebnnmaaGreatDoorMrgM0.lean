/- MA MB: texts laid together. -/
import Derived.Test.YtkhljpbkebnnmaaGreatDoorMrgI0
import Derived.Test.YtkhljpbkebnnmaaGreatDoorMrgE5
import Derived.Test.YtkhljpbkebnnmaaGreatDoorMrgG0
set_option maxRecDepth 100000
/- Walks of classes: names. -/
namespace Go.Proofs.YtkhljpbkebnnmaaGreatDoor.Ge
set_option linter.unusedVariables false
set_option linter.unusedSimpArgs false
open Go.RowKit Go.Proofs.YtkhljpbkebnnmaaGreatDoor.Ev
variable {gl : List (Nat × List CV)}
instance : StrTy Tryz.prog 9 := ⟨Tryz.underlying9⟩
abbrev B8 (n : Int) : CV := .v (.int .u8 n)
abbrev STR (s : ByteArray) : CV := .v (.string s)
def smallB (n : Int) : Bool := decide (97 ≤ n ∧ n ≤ 122)
def digB (n : Int) : Bool := decide (48 ≤ n ∧ n ≤ 57)
def restB (n : Int) : Bool := smallB n || digB n || decide (n = 95)
theorem isSmall_con (n : Int) : Con Tryz.prog gl 89 [B8 n] (.v (.bool (smallB n))) := by
  refine con_of Tryz.func89 rfl (by kernel_rfl) rfl ?_
  simp only [Tryz.ntmps89, Tryz.results89, argEnv, ofC, of1, List.map]
  repeat' (first
 | ((with_reducible apply aw_seq))
 | ((with_reducible apply aw_region))
 | ((with_reducible apply thn_normal))
 | ((with_reducible apply aw_ret))
 | ((with_reducible apply ao_nil))
 | ((with_reducible apply r_move); exact rfl; exact rfl)
 | ((with_reducible apply r_assign); exact rfl; exact rfl)
 | ((with_reducible apply r_leq); exact rfl; exact rfl; exact rfl)
 | ((with_reducible apply r_pick_t); exact rfl; exact rfl; exact rfl)
 | ((with_reducible apply r_pick_f); exact rfl; exact rfl; exact rfl)
 | (((with_reducible apply r_guard); exact rfl; exact rfl; exact rfl; exact rfl) <;> intro hg <;> (first | (exact absurd hg (by decide)) | ((try simp only [decide_eq_true_eq, decide_eq_false_iff_not, Bool.not_eq_true', Bool.not_eq_false', Bool.not_true, Bool.not_false, Bool.not_not, Int.not_lt, Int.not_le, Nat.not_lt, Nat.not_le, gt_iff_lt, ge_iff_le, List.cons.injEq, and_true] at hg); first | (exact absurd trivial hg) | (exfalso; omega) | (have hT : True := hg; clear hT hg) | skip)))
 )
  all_goals first
    | exact ret_b rfl (by unfold smallB; rw [eq_comm, decide_eq_false_iff_not]; omega)
    | exact ret_b rfl (decide_eq_decide.2 (by omega))
theorem isDigit_con (n : Int) : Con Tryz.prog gl 90 [B8 n] (.v (.bool (digB n))) := by
  refine con_of Tryz.func90 rfl (by kernel_rfl) rfl ?_
  simp only [Tryz.ntmps90, Tryz.results90, argEnv, ofC, of1, List.map]
  repeat' (first
 | ((with_reducible apply aw_seq))
 | ((with_reducible apply aw_region))
 | ((with_reducible apply thn_normal))
 | ((with_reducible apply aw_ret))
 | ((with_reducible apply ao_nil))
 | ((with_reducible apply r_move); exact rfl; exact rfl)
 | ((with_reducible apply r_assign); exact rfl; exact rfl)
 | ((with_reducible apply r_leq); exact rfl; exact rfl; exact rfl)
 | ((with_reducible apply r_pick_t); exact rfl; exact rfl; exact rfl)
 | ((with_reducible apply r_pick_f); exact rfl; exact rfl; exact rfl)
 | (((with_reducible apply r_guard); exact rfl; exact rfl; exact rfl; exact rfl) <;> intro hg <;> (first | (exact absurd hg (by decide)) | ((try simp only [decide_eq_true_eq, decide_eq_false_iff_not, Bool.not_eq_true', Bool.not_eq_false', Bool.not_true, Bool.not_false, Bool.not_not, Int.not_lt, Int.not_le, Nat.not_lt, Nat.not_le, gt_iff_lt, ge_iff_le, List.cons.injEq, and_true] at hg); first | (exact absurd trivial hg) | (exfalso; omega) | (have hT : True := hg; clear hT hg) | skip)))
 )
  all_goals first
    | exact ret_b rfl (by unfold digB; rw [eq_comm, decide_eq_false_iff_not]; omega)
    | exact ret_b rfl (decide_eq_decide.2 (by omega))
theorem rdigit_con (n : Int) : Con Tryz.prog gl 91 [B8 n] (.v (.bool (digB n))) := by
  refine con_of Tryz.func91 rfl (by kernel_rfl) rfl ?_
  simp only [Tryz.ntmps91, Tryz.results91, argEnv, ofC, of1, List.map]
  repeat' (first
 | ((with_reducible apply aw_seq))
 | ((with_reducible apply aw_region))
 | ((with_reducible apply thn_normal))
 | ((with_reducible apply aw_ret))
 | ((with_reducible apply ao_nil))
 | ((with_reducible apply r_move); exact rfl; exact rfl)
 | ((with_reducible apply r_assign); exact rfl; exact rfl)
 | ((with_reducible apply r_leq); exact rfl; exact rfl; exact rfl)
 | ((with_reducible apply r_geq); exact rfl; exact rfl; exact rfl)
 | ((with_reducible apply r_pick_t); exact rfl; exact rfl; exact rfl)
 | ((with_reducible apply r_pick_f); exact rfl; exact rfl; exact rfl)
 | (((with_reducible apply r_guard); exact rfl; exact rfl; exact rfl; exact rfl) <;> intro hg <;> (first | (exact absurd hg (by decide)) | ((try simp only [decide_eq_true_eq, decide_eq_false_iff_not, Bool.not_eq_true', Bool.not_eq_false', Bool.not_true, Bool.not_false, Bool.not_not, Int.not_lt, Int.not_le, Nat.not_lt, Nat.not_le, gt_iff_lt, ge_iff_le, List.cons.injEq, and_true] at hg); first | (exact absurd trivial hg) | (exfalso; omega) | (have hT : True := hg; clear hT hg) | skip)))
 )
  all_goals first
    | exact ret_b rfl (by unfold digB; rw [eq_comm, decide_eq_false_iff_not]; omega)
    | exact ret_b rfl (decide_eq_decide.2 (by omega))
structure NameOk (s : ByteArray) : Prop where
  lo : 1 ≤ s.size
  hi : s.size ≤ 16
  first : smallB (bt s 0) = true
  rest : ∀ i, 1 ≤ i → i < s.size → restB (bt s i) = true
noncomputable def nameS (s : ByteArray) : Bool := open Classical in decide (NameOk s)
open Classical in
theorem name_yes {s : ByteArray} (h : NameOk s) : nameS s = true := by unfold nameS; exact decide_eq_true h
open Classical in
theorem name_no {s : ByteArray} (h : ¬ NameOk s) : false = nameS s := by unfold nameS; exact (decide_eq_false h).symm
set_option maxHeartbeats 4000000 in
theorem isName_con (s : ByteArray) : Con Tryz.prog gl 55 [STR s] (.v (.bool (nameS s))) := by
  have h0 := isSmall_con (gl := gl) (bt s 0)
  refine con_of Tryz.func55 rfl (by kernel_rfl) rfl ?_
  simp only [Tryz.ntmps55, Tryz.results55, argEnv, ofC, of1, List.map]
  by_cases hl : 1 ≤ s.size ∧ s.size ≤ 16
  rotate_left
  · skip
    repeat' (first
 | ((with_reducible apply r_len_s); exact rfl; exact rfl)
 | ((with_reducible apply aw_seq))
 | ((with_reducible apply aw_region))
 | ((with_reducible apply thn_normal))
 | ((with_reducible apply thn_ret))
 | ((with_reducible apply aw_ret))
 | ((with_reducible apply ao_nil))
 | ((with_reducible apply r_move); exact rfl; exact rfl)
 | ((with_reducible apply r_assign); exact rfl; exact rfl)
 | ((with_reducible apply r_lss); exact rfl; exact rfl; exact rfl)
 | ((with_reducible apply r_gtr); exact rfl; exact rfl; exact rfl)
 | ((with_reducible apply r_pick_t); exact rfl; exact rfl; exact rfl)
 | ((with_reducible apply r_pick_f); exact rfl; exact rfl; exact rfl)
 | (((with_reducible apply r_guard); exact rfl; exact rfl; exact rfl; exact rfl) <;> intro hg <;> (first | (exact absurd hg (by decide)) | ((try simp only [decide_eq_true_eq, decide_eq_false_iff_not, Bool.not_eq_true', Bool.not_eq_false', Bool.not_true, Bool.not_false, Bool.not_not, Int.not_lt, Int.not_le, Nat.not_lt, Nat.not_le, gt_iff_lt, ge_iff_le, List.cons.injEq, and_true] at hg); first | (exact absurd trivial hg) | (exfalso; omega) | (have hT : True := hg; clear hT hg) | skip)))
 | (((with_reducible apply aw_cond); exact rfl) <;> intro hg <;> (first | (exact absurd hg (by decide)) | ((try simp only [decide_eq_true_eq, decide_eq_false_iff_not, Bool.not_eq_true', Bool.not_eq_false', Bool.not_true, Bool.not_false, Bool.not_not, Int.not_lt, Int.not_le, Nat.not_lt, Nat.not_le, gt_iff_lt, ge_iff_le, List.cons.injEq, and_true] at hg); first | (exact absurd trivial hg) | (exfalso; omega) | (have hT : True := hg; clear hT hg) | skip)))
 )
    all_goals exact ret_b rfl (name_no (fun h => hl ⟨h.lo, h.hi⟩))
  obtain ⟨l1, l2⟩ := hl
  cases hs : smallB (bt s 0) with
  | false =>
    rw [hs] at h0
    repeat' (first
 | ((with_reducible apply r_len_s); exact rfl; exact rfl)
 | ((with_reducible apply (r_index_s 0)); exact rfl; exact rfl; exact rfl; exact (by omega); exact rfl)
 | ((with_reducible apply r_call); exact rfl; exact rfl; exact h0; exact rfl; exact rfl)
 | ((with_reducible apply aw_seq))
 | ((with_reducible apply aw_region))
 | ((with_reducible apply thn_normal))
 | ((with_reducible apply thn_ret))
 | ((with_reducible apply aw_ret))
 | ((with_reducible apply ao_nil))
 | ((with_reducible apply r_move); exact rfl; exact rfl)
 | ((with_reducible apply r_assign); exact rfl; exact rfl)
 | ((with_reducible apply r_lss); exact rfl; exact rfl; exact rfl)
 | ((with_reducible apply r_gtr); exact rfl; exact rfl; exact rfl)
 | ((with_reducible apply r_pick_f); exact rfl; exact rfl; exact rfl)
 | ((with_reducible apply r_not); exact rfl; exact rfl)
 | (((with_reducible apply r_guard); exact rfl; exact rfl; exact rfl; exact rfl) <;> intro hg <;> (first | (exact absurd hg (by decide)) | ((try simp only [decide_eq_true_eq, decide_eq_false_iff_not, Bool.not_eq_true', Bool.not_eq_false', Bool.not_true, Bool.not_false, Bool.not_not, Int.not_lt, Int.not_le, Nat.not_lt, Nat.not_le, gt_iff_lt, ge_iff_le, List.cons.injEq, and_true] at hg); first | (exact absurd trivial hg) | (exfalso; omega) | (have hT : True := hg; clear hT hg) | skip)))
 | (((with_reducible apply aw_cond); exact rfl) <;> intro hg <;> (first | (exact absurd hg (by decide)) | ((try simp only [decide_eq_true_eq, decide_eq_false_iff_not, Bool.not_eq_true', Bool.not_eq_false', Bool.not_true, Bool.not_false, Bool.not_not, Int.not_lt, Int.not_le, Nat.not_lt, Nat.not_le, gt_iff_lt, ge_iff_le, List.cons.injEq, and_true] at hg); first | (exact absurd trivial hg) | (exfalso; omega) | (have hT : True := hg; clear hT hg) | skip)))
 )
    all_goals exact ret_b rfl (name_no (fun h => by rw [h.first] at hs; cases hs))
  | true =>
  rw [hs] at h0
  repeat' (first
 | ((with_reducible apply r_len_s); exact rfl; exact rfl)
 | ((with_reducible apply (r_index_s 0)); exact rfl; exact rfl; exact rfl; exact (by omega); exact rfl)
 | ((with_reducible apply r_call); exact rfl; exact rfl; exact h0; exact rfl; exact rfl)
 | ((with_reducible apply aw_seq))
 | ((with_reducible apply aw_region))
 | ((with_reducible apply aw_block))
 | ((with_reducible apply thn_normal))
 | ((with_reducible apply aw_skip))
 | ((with_reducible apply ao_nil))
 | ((with_reducible apply r_move); exact rfl; exact rfl)
 | ((with_reducible apply r_assign); exact rfl; exact rfl)
 | ((with_reducible apply r_lss); exact rfl; exact rfl; exact rfl)
 | ((with_reducible apply r_gtr); exact rfl; exact rfl; exact rfl)
 | ((with_reducible apply r_pick_f); exact rfl; exact rfl; exact rfl)
 | ((with_reducible apply r_not); exact rfl; exact rfl)
 | (((with_reducible apply r_guard); exact rfl; exact rfl; exact rfl; exact rfl) <;> intro hg <;> (first | (exact absurd hg (by decide)) | ((try simp only [decide_eq_true_eq, decide_eq_false_iff_not, Bool.not_eq_true', Bool.not_eq_false', Bool.not_true, Bool.not_false, Bool.not_not, Int.not_lt, Int.not_le, Nat.not_lt, Nat.not_le, gt_iff_lt, ge_iff_le, List.cons.injEq, and_true] at hg); first | (exact absurd trivial hg) | (exfalso; omega) | (have hT : True := hg; clear hT hg) | skip)))
 | (((with_reducible apply aw_cond); exact rfl) <;> intro hg <;> (first | (exact absurd hg (by decide)) | ((try simp only [decide_eq_true_eq, decide_eq_false_iff_not, Bool.not_eq_true', Bool.not_eq_false', Bool.not_true, Bool.not_false, Bool.not_not, Int.not_lt, Int.not_le, Nat.not_lt, Nat.not_le, gt_iff_lt, ge_iff_le, List.cons.injEq, and_true] at hg); first | (exact absurd trivial hg) | (exfalso; omega) | (have hT : True := hg; clear hT hg) | skip)))
 )
  refine aw_loopG (G := Nat) (fun (j : Nat) => 1 ≤ j ∧ j ≤ s.size ∧ ∀ i, 1 ≤ i → i < j → restB (bt s i) = true) (fun (j : Nat) => s.size - j) (fun (j : Nat) => [(0, .c (STR s)), (3, A j)]) (fun (j : Nat) => []) 0 1 ?_ (by refine weak_mk rfl ?_ ?_ <;> repeat (first | exact envW_nil | exact heapW_nil | refine envW_cons rfl rfl ?_ | refine heapW_cons rfl rfl rfl ?_)) rfl ?_
  · exact ⟨Nat.le_refl _, l1, fun i a b => by have : i < 1 := b; omega⟩
  rintro j hI
  try dsimp only at hI
  try dsimp only
  obtain ⟨hj1, hj2, hall⟩ := hI
  by_cases hjl : j < s.size
  · have h1 := isSmall_con (gl := gl) (bt s j)
    have h2 := isDigit_con (gl := gl) (bt s j)
    cases hr : restB (bt s j) with
    | true =>
      have hr2 := hr
      unfold restB at hr2
      cases e1 : smallB (bt s j) <;> cases e2 : digB (bt s j) <;> rw [e1] at h1 <;> rw [e2] at h2 <;> rw [e1, e2] at hr2 <;> simp at hr2
      all_goals
        repeat' (first
 | ((with_reducible apply r_len_s); exact rfl; exact rfl)
 | ((with_reducible apply (r_index_s j)); exact rfl; exact rfl; exact rfl; exact hjl; exact rfl)
 | ((with_reducible apply r_call); exact rfl; exact rfl; (first | exact h1 | exact h2); exact rfl; exact rfl)
 | ((with_reducible apply aw_seq))
 | ((with_reducible apply aw_region))
 | ((with_reducible apply aw_block))
 | ((with_reducible apply thn_normal))
 | ((with_reducible apply inb_normal))
 | ((with_reducible apply aw_skip))
 | ((with_reducible apply ao_nil))
 | ((with_reducible apply r_move); exact rfl; exact rfl)
 | ((with_reducible apply r_assign); exact rfl; exact rfl)
 | ((with_reducible apply r_lss); exact rfl; exact rfl; exact rfl)
 | ((with_reducible apply r_neq); exact rfl; exact rfl; exact rfl)
 | ((with_reducible apply r_add); exact rfl; exact rfl; exact (by first | assumption | (unfold fits; omega)); exact rfl)
 | ((with_reducible apply r_pick_t); exact rfl; exact rfl; exact rfl)
 | ((with_reducible apply r_pick_f); exact rfl; exact rfl; exact rfl)
 | ((with_reducible apply r_not); exact rfl; exact rfl)
 | (((with_reducible apply r_guard); exact rfl; exact rfl; exact rfl; exact rfl) <;> intro hg <;> (first | (exact absurd hg (by decide)) | ((try simp only [decide_eq_true_eq, decide_eq_false_iff_not, Bool.not_eq_true', Bool.not_eq_false', Bool.not_true, Bool.not_false, Bool.not_not, Int.not_lt, Int.not_le, Nat.not_lt, Nat.not_le, gt_iff_lt, ge_iff_le, List.cons.injEq, and_true] at hg); first | (exact absurd trivial hg) | (exfalso; omega) | (have hT : True := hg; clear hT hg) | skip)))
 | (((with_reducible apply aw_cond); exact rfl) <;> intro hg <;> (first | (exact absurd hg (by decide)) | ((try simp only [decide_eq_true_eq, decide_eq_false_iff_not, Bool.not_eq_true', Bool.not_eq_false', Bool.not_true, Bool.not_false, Bool.not_not, Int.not_lt, Int.not_le, Nat.not_lt, Nat.not_le, gt_iff_lt, ge_iff_le, List.cons.injEq, and_true] at hg); first | (exact absurd trivial hg) | (exfalso; omega) | (have hT : True := hg; clear hT hg) | skip)))
 )
        all_goals
          refine ⟨j + 1, ?_, ?_, by refine weak_mk rfl ?_ ?_ <;> repeat (first | exact envW_nil | exact heapW_nil | refine envW_cons rfl rfl ?_ | refine heapW_cons rfl rfl rfl ?_)⟩
          · show s.size - (j + 1) < s.size - j; omega
          · refine ⟨by show 1 ≤ j + 1; omega, by show j + 1 ≤ s.size; omega, fun i a b => ?_⟩
            by_cases he : i = j
            · subst he; exact hr
            · exact hall i a (by have : i < j + 1 := b; omega)
    | false =>
      have hr2 := hr
      unfold restB at hr2
      simp only [Bool.or_eq_false_iff, decide_eq_false_iff_not] at hr2
      obtain ⟨⟨e1, e2⟩, e3⟩ := hr2
      rw [e1] at h1
      rw [e2] at h2
      repeat' (first
 | ((with_reducible apply r_len_s); exact rfl; exact rfl)
 | ((with_reducible apply (r_index_s j)); exact rfl; exact rfl; exact rfl; exact hjl; exact rfl)
 | ((with_reducible apply r_call); exact rfl; exact rfl; (first | exact h1 | exact h2); exact rfl; exact rfl)
 | ((with_reducible apply aw_seq))
 | ((with_reducible apply aw_region))
 | ((with_reducible apply aw_block))
 | ((with_reducible apply thn_normal))
 | ((with_reducible apply thn_ret))
 | ((with_reducible apply inb_ret))
 | ((with_reducible apply aw_skip))
 | ((with_reducible apply aw_ret))
 | ((with_reducible apply ao_nil))
 | ((with_reducible apply r_move); exact rfl; exact rfl)
 | ((with_reducible apply r_assign); exact rfl; exact rfl)
 | ((with_reducible apply r_lss); exact rfl; exact rfl; exact rfl)
 | ((with_reducible apply r_neq); exact rfl; exact rfl; exact rfl)
 | ((with_reducible apply r_pick_t); exact rfl; exact rfl; exact rfl)
 | ((with_reducible apply r_not); exact rfl; exact rfl)
 | (((with_reducible apply r_guard); exact rfl; exact rfl; exact rfl; exact rfl) <;> intro hg <;> (first | (exact absurd hg (by decide)) | ((try simp only [decide_eq_true_eq, decide_eq_false_iff_not, Bool.not_eq_true', Bool.not_eq_false', Bool.not_true, Bool.not_false, Bool.not_not, Int.not_lt, Int.not_le, Nat.not_lt, Nat.not_le, gt_iff_lt, ge_iff_le, List.cons.injEq, and_true] at hg); first | (exact absurd trivial hg) | (exfalso; omega) | (have hT : True := hg; clear hT hg) | skip)))
 | (((with_reducible apply aw_cond); exact rfl) <;> intro hg <;> (first | (exact absurd hg (by decide)) | ((try simp only [decide_eq_true_eq, decide_eq_false_iff_not, Bool.not_eq_true', Bool.not_eq_false', Bool.not_true, Bool.not_false, Bool.not_not, Int.not_lt, Int.not_le, Nat.not_lt, Nat.not_le, gt_iff_lt, ge_iff_le, List.cons.injEq, and_true] at hg); first | (exact absurd trivial hg) | (exfalso; omega) | (have hT : True := hg; clear hT hg) | skip)))
 )
      all_goals exact ret_b rfl (name_no (fun h => by rw [h.rest j hj1 hjl] at hr; cases hr))
  · obtain rfl : j = s.size := by omega
    repeat' (first
 | ((with_reducible apply r_len_s); exact rfl; exact rfl)
 | ((with_reducible apply aw_seq))
 | ((with_reducible apply aw_region))
 | ((with_reducible apply thn_normal))
 | ((with_reducible apply thn_exit))
 | ((with_reducible apply inb_exit))
 | ((with_reducible apply aw_exit))
 | ((with_reducible apply aw_ret))
 | ((with_reducible apply ao_nil))
 | ((with_reducible apply r_move); exact rfl; exact rfl)
 | ((with_reducible apply r_assign); exact rfl; exact rfl)
 | ((with_reducible apply r_lss); exact rfl; exact rfl; exact rfl)
 | (((with_reducible apply aw_cond); exact rfl) <;> intro hg <;> (first | (exact absurd hg (by decide)) | ((try simp only [decide_eq_true_eq, decide_eq_false_iff_not, Bool.not_eq_true', Bool.not_eq_false', Bool.not_true, Bool.not_false, Bool.not_not, Int.not_lt, Int.not_le, Nat.not_lt, Nat.not_le, gt_iff_lt, ge_iff_le, List.cons.injEq, and_true] at hg); first | (exact absurd trivial hg) | (exfalso; omega) | (have hT : True := hg; clear hT hg) | skip)))
 )
    exact ret_b rfl (name_yes ⟨l1, l2, hs, hall⟩).symm
set_option maxHeartbeats 4000000 in
theorem risName_con (s : ByteArray) : Con Tryz.prog gl 59 [STR s] (.v (.bool (nameS s))) := by
  refine con_of Tryz.func59 rfl (by kernel_rfl) rfl ?_
  simp only [Tryz.ntmps59, Tryz.results59, argEnv, ofC, of1, List.map]
  by_cases hl : 1 ≤ s.size ∧ s.size ≤ 16
  rotate_left
  · skip
    repeat' (first
 | ((with_reducible apply r_len_s); exact rfl; exact rfl)
 | ((with_reducible apply aw_seq))
 | ((with_reducible apply aw_region))
 | ((with_reducible apply thn_normal))
 | ((with_reducible apply thn_ret))
 | ((with_reducible apply aw_ret))
 | ((with_reducible apply ao_nil))
 | ((with_reducible apply r_move); exact rfl; exact rfl)
 | ((with_reducible apply r_assign); exact rfl; exact rfl)
 | ((with_reducible apply r_lss); exact rfl; exact rfl; exact rfl)
 | ((with_reducible apply r_gtr); exact rfl; exact rfl; exact rfl)
 | ((with_reducible apply r_pick_t); exact rfl; exact rfl; exact rfl)
 | ((with_reducible apply r_pick_f); exact rfl; exact rfl; exact rfl)
 | (((with_reducible apply r_guard); exact rfl; exact rfl; exact rfl; exact rfl) <;> intro hg <;> (first | (exact absurd hg (by decide)) | ((try simp only [decide_eq_true_eq, decide_eq_false_iff_not, Bool.not_eq_true', Bool.not_eq_false', Bool.not_true, Bool.not_false, Bool.not_not, Int.not_lt, Int.not_le, Nat.not_lt, Nat.not_le, gt_iff_lt, ge_iff_le, List.cons.injEq, and_true] at hg); first | (exact absurd trivial hg) | (exfalso; omega) | (have hT : True := hg; clear hT hg) | skip)))
 | (((with_reducible apply aw_cond); exact rfl) <;> intro hg <;> (first | (exact absurd hg (by decide)) | ((try simp only [decide_eq_true_eq, decide_eq_false_iff_not, Bool.not_eq_true', Bool.not_eq_false', Bool.not_true, Bool.not_false, Bool.not_not, Int.not_lt, Int.not_le, Nat.not_lt, Nat.not_le, gt_iff_lt, ge_iff_le, List.cons.injEq, and_true] at hg); first | (exact absurd trivial hg) | (exfalso; omega) | (have hT : True := hg; clear hT hg) | skip)))
 )
    all_goals exact ret_b rfl (name_no (fun h => hl ⟨h.lo, h.hi⟩))
  obtain ⟨l1, l2⟩ := hl
  repeat' (first
 | ((with_reducible apply r_len_s); exact rfl; exact rfl)
 | ((with_reducible apply aw_seq))
 | ((with_reducible apply aw_region))
 | ((with_reducible apply aw_block))
 | ((with_reducible apply thn_normal))
 | ((with_reducible apply aw_skip))
 | ((with_reducible apply ao_nil))
 | ((with_reducible apply r_move); exact rfl; exact rfl)
 | ((with_reducible apply r_assign); exact rfl; exact rfl)
 | ((with_reducible apply r_lss); exact rfl; exact rfl; exact rfl)
 | ((with_reducible apply r_gtr); exact rfl; exact rfl; exact rfl)
 | ((with_reducible apply r_pick_f); exact rfl; exact rfl; exact rfl)
 | (((with_reducible apply r_guard); exact rfl; exact rfl; exact rfl; exact rfl) <;> intro hg <;> (first | (exact absurd hg (by decide)) | ((try simp only [decide_eq_true_eq, decide_eq_false_iff_not, Bool.not_eq_true', Bool.not_eq_false', Bool.not_true, Bool.not_false, Bool.not_not, Int.not_lt, Int.not_le, Nat.not_lt, Nat.not_le, gt_iff_lt, ge_iff_le, List.cons.injEq, and_true] at hg); first | (exact absurd trivial hg) | (exfalso; omega) | (have hT : True := hg; clear hT hg) | skip)))
 | (((with_reducible apply aw_cond); exact rfl) <;> intro hg <;> (first | (exact absurd hg (by decide)) | ((try simp only [decide_eq_true_eq, decide_eq_false_iff_not, Bool.not_eq_true', Bool.not_eq_false', Bool.not_true, Bool.not_false, Bool.not_not, Int.not_lt, Int.not_le, Nat.not_lt, Nat.not_le, gt_iff_lt, ge_iff_le, List.cons.injEq, and_true] at hg); first | (exact absurd trivial hg) | (exfalso; omega) | (have hT : True := hg; clear hT hg) | skip)))
 )
  refine aw_loopG (G := Nat) (fun (j : Nat) => j ≤ s.size ∧ (0 < j → smallB (bt s 0) = true) ∧ ∀ i, 1 ≤ i → i < j → restB (bt s i) = true) (fun (j : Nat) => s.size - j) (fun (j : Nat) => [(0, .c (STR s)), (3, A j)]) (fun (j : Nat) => []) 0 0 ?_ (by refine weak_mk rfl ?_ ?_ <;> repeat (first | exact envW_nil | exact heapW_nil | refine envW_cons rfl rfl ?_ | refine heapW_cons rfl rfl rfl ?_)) rfl ?_
  · exact ⟨Nat.zero_le _, fun h => absurd h (Nat.lt_irrefl _), fun i a b => absurd b (Nat.not_lt_zero _)⟩
  rintro j hI
  try dsimp only at hI
  try dsimp only
  obtain ⟨hj2, hfst, hall⟩ := hI
  by_cases hjl : j < s.size
  · have h2 := rdigit_con (gl := gl) (bt s j)
    by_cases hgood : (97 ≤ bt s j ∧ bt s j ≤ 122) ∨ (¬ j = 0 ∧ (digB (bt s j) = true ∨ bt s j = 95))
    · have hnext : (0 < j + 1 → smallB (bt s 0) = true) ∧ ∀ i, 1 ≤ i → i < j + 1 → restB (bt s i) = true := by
        refine ⟨fun _ => ?_, fun i a b => ?_⟩
        · by_cases hj0 : j = 0
          · subst hj0
            rcases hgood with h | h
            · exact decide_eq_true h
            · exact absurd rfl h.1
          · exact hfst (by omega)
        · by_cases he : i = j
          · subst he
            unfold restB smallB
            rcases hgood with h | ⟨_, h | h⟩
            · rw [decide_eq_true h]; rfl
            · rw [h]; simp
            · rw [decide_eq_true h]; simp
          · exact hall i a (by omega)
      cases e2 : digB (bt s j) <;> rw [e2] at h2 <;> rw [e2] at hgood <;> simp only [Bool.false_eq_true, false_or, true_or, and_true] at hgood
      all_goals
        repeat' (first
 | ((with_reducible apply r_len_s); exact rfl; exact rfl)
 | ((with_reducible apply (r_index_s j)); exact rfl; exact rfl; exact rfl; exact hjl; exact rfl)
 | ((with_reducible apply r_call); exact rfl; exact rfl; exact h2; exact rfl; exact rfl)
 | ((with_reducible apply aw_seq))
 | ((with_reducible apply aw_region))
 | ((with_reducible apply aw_block))
 | ((with_reducible apply thn_normal))
 | ((with_reducible apply inb_normal))
 | ((with_reducible apply aw_skip))
 | ((with_reducible apply ao_nil))
 | ((with_reducible apply r_move); exact rfl; exact rfl)
 | ((with_reducible apply r_assign); exact rfl; exact rfl)
 | ((with_reducible apply r_lss); exact rfl; exact rfl; exact rfl)
 | ((with_reducible apply r_leq); exact rfl; exact rfl; exact rfl)
 | ((with_reducible apply r_geq); exact rfl; exact rfl; exact rfl)
 | ((with_reducible apply r_eql); exact rfl; exact rfl; exact rfl)
 | ((with_reducible apply r_neq); exact rfl; exact rfl; exact rfl)
 | ((with_reducible apply r_add); exact rfl; exact rfl; exact (by first | assumption | (unfold fits; omega)); exact rfl)
 | ((with_reducible apply r_pick_t); exact rfl; exact rfl; exact rfl)
 | ((with_reducible apply r_pick_f); exact rfl; exact rfl; exact rfl)
 | ((with_reducible apply r_not); exact rfl; exact rfl)
 | (((with_reducible apply r_guard); exact rfl; exact rfl; exact rfl; exact rfl) <;> intro hg <;> (first | (exact absurd hg (by decide)) | ((try simp only [decide_eq_true_eq, decide_eq_false_iff_not, Bool.not_eq_true', Bool.not_eq_false', Bool.not_true, Bool.not_false, Bool.not_not, Int.not_lt, Int.not_le, Nat.not_lt, Nat.not_le, gt_iff_lt, ge_iff_le, List.cons.injEq, and_true] at hg); first | (exact absurd trivial hg) | (exfalso; omega) | (have hT : True := hg; clear hT hg) | skip)))
 | ((with_reducible apply r_guard_none); exact rfl; exact rfl; exact rfl; exact rfl)
 | (((with_reducible apply aw_cond); exact rfl) <;> intro hg <;> (first | (exact absurd hg (by decide)) | ((try simp only [decide_eq_true_eq, decide_eq_false_iff_not, Bool.not_eq_true', Bool.not_eq_false', Bool.not_true, Bool.not_false, Bool.not_not, Int.not_lt, Int.not_le, Nat.not_lt, Nat.not_le, gt_iff_lt, ge_iff_le, List.cons.injEq, and_true] at hg); first | (exact absurd trivial hg) | (exfalso; omega) | (have hT : True := hg; clear hT hg) | skip)))
 )
        all_goals
          refine ⟨j + 1, ?_, ?_, by refine weak_mk rfl ?_ ?_ <;> repeat (first | exact envW_nil | exact heapW_nil | refine envW_cons rfl rfl ?_ | refine heapW_cons rfl rfl rfl ?_)⟩
          · show s.size - (j + 1) < s.size - j; omega
          · exact ⟨by show j + 1 ≤ s.size; omega, hnext⟩
    · have hbad : ¬ NameOk s := fun h => hgood (by
        by_cases hj0 : j = 0
        · subst hj0; exact .inl (of_decide_eq_true h.first)
        · have := h.rest j (by omega) hjl
          unfold restB smallB at this
          simp only [Bool.or_eq_true, decide_eq_true_eq] at this
          rcases this with (h | h) | h
          · exact .inl h
          · exact .inr ⟨hj0, .inl h⟩
          · exact .inr ⟨hj0, .inr h⟩)
      cases e2 : digB (bt s j) <;> rw [e2] at h2 <;> rw [e2] at hgood <;> simp only [Bool.false_eq_true, false_or, true_or, and_true] at hgood
      all_goals
        repeat' (first
 | ((with_reducible apply r_len_s); exact rfl; exact rfl)
 | ((with_reducible apply (r_index_s j)); exact rfl; exact rfl; exact rfl; exact hjl; exact rfl)
 | ((with_reducible apply r_call); exact rfl; exact rfl; exact h2; exact rfl; exact rfl)
 | ((with_reducible apply aw_seq))
 | ((with_reducible apply aw_region))
 | ((with_reducible apply aw_block))
 | ((with_reducible apply thn_normal))
 | ((with_reducible apply thn_ret))
 | ((with_reducible apply inb_ret))
 | ((with_reducible apply aw_skip))
 | ((with_reducible apply aw_ret))
 | ((with_reducible apply ao_nil))
 | ((with_reducible apply r_move); exact rfl; exact rfl)
 | ((with_reducible apply r_assign); exact rfl; exact rfl)
 | ((with_reducible apply r_lss); exact rfl; exact rfl; exact rfl)
 | ((with_reducible apply r_leq); exact rfl; exact rfl; exact rfl)
 | ((with_reducible apply r_geq); exact rfl; exact rfl; exact rfl)
 | ((with_reducible apply r_eql); exact rfl; exact rfl; exact rfl)
 | ((with_reducible apply r_neq); exact rfl; exact rfl; exact rfl)
 | ((with_reducible apply r_pick_t); exact rfl; exact rfl; exact rfl)
 | ((with_reducible apply r_pick_f); exact rfl; exact rfl; exact rfl)
 | ((with_reducible apply r_not); exact rfl; exact rfl)
 | (((with_reducible apply r_guard); exact rfl; exact rfl; exact rfl; exact rfl) <;> intro hg <;> (first | (exact absurd hg (by decide)) | ((try simp only [decide_eq_true_eq, decide_eq_false_iff_not, Bool.not_eq_true', Bool.not_eq_false', Bool.not_true, Bool.not_false, Bool.not_not, Int.not_lt, Int.not_le, Nat.not_lt, Nat.not_le, gt_iff_lt, ge_iff_le, List.cons.injEq, and_true] at hg); first | (exact absurd trivial hg) | (exfalso; omega) | (have hT : True := hg; clear hT hg) | skip)))
 | ((with_reducible apply r_guard_none); exact rfl; exact rfl; exact rfl; exact rfl)
 | (((with_reducible apply aw_cond); exact rfl) <;> intro hg <;> (first | (exact absurd hg (by decide)) | ((try simp only [decide_eq_true_eq, decide_eq_false_iff_not, Bool.not_eq_true', Bool.not_eq_false', Bool.not_true, Bool.not_false, Bool.not_not, Int.not_lt, Int.not_le, Nat.not_lt, Nat.not_le, gt_iff_lt, ge_iff_le, List.cons.injEq, and_true] at hg); first | (exact absurd trivial hg) | (exfalso; omega) | (have hT : True := hg; clear hT hg) | skip)))
 )
        all_goals exact ret_b rfl (name_no hbad)
  · obtain rfl : j = s.size := by omega
    repeat' (first
 | ((with_reducible apply r_len_s); exact rfl; exact rfl)
 | ((with_reducible apply aw_seq))
 | ((with_reducible apply aw_region))
 | ((with_reducible apply thn_normal))
 | ((with_reducible apply thn_exit))
 | ((with_reducible apply inb_exit))
 | ((with_reducible apply aw_exit))
 | ((with_reducible apply aw_ret))
 | ((with_reducible apply ao_nil))
 | ((with_reducible apply r_move); exact rfl; exact rfl)
 | ((with_reducible apply r_assign); exact rfl; exact rfl)
 | ((with_reducible apply r_lss); exact rfl; exact rfl; exact rfl)
 | (((with_reducible apply aw_cond); exact rfl) <;> intro hg <;> (first | (exact absurd hg (by decide)) | ((try simp only [decide_eq_true_eq, decide_eq_false_iff_not, Bool.not_eq_true', Bool.not_eq_false', Bool.not_true, Bool.not_false, Bool.not_not, Int.not_lt, Int.not_le, Nat.not_lt, Nat.not_le, gt_iff_lt, ge_iff_le, List.cons.injEq, and_true] at hg); first | (exact absurd trivial hg) | (exfalso; omega) | (have hT : True := hg; clear hT hg) | skip)))
 )
    exact ret_b rfl (name_yes ⟨l1, l2, hfst (by omega), hall⟩).symm
end Go.Proofs.YtkhljpbkebnnmaaGreatDoor.Ge
/- Walks of classes: the range of the numbers. -/
namespace Go.Proofs.YtkhljpbkebnnmaaGreatDoor.Ge
set_option linter.unusedVariables false
set_option linter.unusedSimpArgs false
open Go.RowKit Go.Proofs.YtkhljpbkebnnmaaGreatDoor.Ev
variable {gl : List (Nat × List CV)}
structure Kl where
  name : ByteArray
  len : Int
  lo : Int
  hi : Int
  taper : Int
  sweep : Int
  knots : Int
  rot : Int
  price : Int
def klC (c : Kl) : List CV := [STR c.name, I c.len, I c.lo, I c.hi, I c.taper, I c.sweep, I c.knots, I c.rot, I c.price]
instance : EncL klC 9 := ⟨fun _ => rfl, by decide, fun _ => rfl⟩
def Kl.nums (c : Kl) : List Int := [c.len, c.lo, c.hi, c.taper, c.sweep, c.knots, c.rot, c.price]
def million (n : Int) : Bool := decide (0 ≤ n ∧ n ≤ 1000000)
def inR (c : Kl) : Bool := c.nums.all million && decide (c.lo ≤ c.hi)
theorem nums_get (c : Kl) (k : Nat) (h : k < 8) : ([A c.len, A c.lo, A c.hi, A c.taper, A c.sweep, A c.knots, A c.rot, A c.price] : List AV)[k]? = some (A (c.nums.getD k 0)) := by
  match k, h with
  | 0, _ => rfl
  | 1, _ => rfl
  | 2, _ => rfl
  | 3, _ => rfl
  | 4, _ => rfl
  | 5, _ => rfl
  | 6, _ => rfl
  | 7, _ => rfl
theorem nums_bad (c : Kl) (k : Nat) (h : k < 8) (hm : million (c.nums.getD k 0) = false) : c.nums.all million = false := by
  have hl : k < c.nums.length := h
  rw [List.getD_eq_getElem?_getD, List.getElem?_eq_getElem hl] at hm
  exact all_not hl hm
theorem nums_all (c : Kl) (h : ∀ i, i < 8 → million (c.nums.getD i 0) = true) : c.nums.all million = true := by
  refine all_of (fun i hi => ?_)
  have := h i hi
  rw [List.getD_eq_getElem?_getD, List.getElem?_eq_getElem hi] at this
  exact this
instance : ArrT Tryz.prog 127 8 := ⟨by decide +kernel⟩
instance : ArrB Tryz.prog 127 [(0, 1), (1, 1), (2, 1), (3, 1), (4, 1), (5, 1), (6, 1), (7, 1)] [.int .i64 0, .int .i64 0, .int .i64 0, .int .i64 0, .int .i64 0, .int .i64 0, .int .i64 0, .int .i64 0] := ⟨by kernel_rfl⟩
set_option maxHeartbeats 4000000 in
theorem kInR_con (c : Kl) : Con Tryz.prog gl 58 [.agg [STR c.name, I c.len, I c.lo, I c.hi, I c.taper, I c.sweep, I c.knots, I c.rot, I c.price]] (.v (.bool (inR c))) := by
  refine con_of Tryz.func58 rfl (by kernel_rfl) rfl ?_
  simp only [Tryz.ntmps58, Tryz.results58, argEnv, ofC, of1, List.map]
  repeat' (first
 | ((with_reducible apply (r_build_arr (out := [A c.len, A c.lo, A c.hi, A c.taper, A c.sweep, A c.knots, A c.rot, A c.price]))); exact rfl; exact rfl; exact rfl)
 | ((with_reducible apply aw_seq))
 | ((with_reducible apply aw_region))
 | ((with_reducible apply aw_block))
 | ((with_reducible apply thn_normal))
 | ((with_reducible apply ao_nil))
 | ((with_reducible apply r_move); exact rfl; exact rfl)
 | ((with_reducible apply r_assign); exact rfl; exact rfl)
 | ((with_reducible apply r_field_p); exact rfl; exact rfl)
 | ((with_reducible apply r_load_p); exact rfl; exact rfl; exact rfl; exact rfl)
 | ((with_reducible apply r_box_a); exact rfl; exact rfl)
 )
  refine aw_loopG (G := Nat) (fun (k : Nat) => k ≤ 8 ∧ ∀ i, i < k → million (c.nums.getD i 0) = true) (fun (k : Nat) => 8 - k) (fun (k : Nat) => [(21, .agg [A c.len, A c.lo, A c.hi, A c.taper, A c.sweep, A c.knots, A c.rot, A c.price]), (22, A k), (1, .ptr 0 0), (2, .c (.v (.bool false)))]) (fun (k : Nat) => [(0, some (.cells 72 [.c (STR c.name), A c.len, A c.lo, A c.hi, A c.taper, A c.sweep, A c.knots, A c.rot, A c.price]))]) 1 0 ?_ (by refine weak_mk rfl ?_ ?_ <;> repeat (first | exact envW_nil | exact heapW_nil | refine envW_cons rfl rfl ?_ | refine heapW_cons rfl rfl rfl ?_)) rfl ?_
  · exact ⟨Nat.zero_le _, fun i h => absurd h (Nat.not_lt_zero _)⟩
  rintro k hI
  try dsimp only at hI
  try dsimp only
  obtain ⟨h8, hall⟩ := hI
  by_cases hk : k < 8
  · have hz : ([A c.len, A c.lo, A c.hi, A c.taper, A c.sweep, A c.knots, A c.rot, A c.price] : List AV)[k]? = some (A (c.nums.getD k 0)) := nums_get c k hk
    have hstep : million (c.nums.getD k 0) = true → ∀ i, i < k + 1 → million (c.nums.getD i 0) = true := fun hm i hi => by
      by_cases he : i = k
      · subst he; exact hm
      · exact hall i (by omega)
    have hstop : million (c.nums.getD k 0) = false → false = inR c := fun hm => by
      unfold inR
      rw [nums_bad c k hk hm]; rfl
    revert hz hstep hstop
    generalize c.nums.getD k 0 = z
    intro hz hstep hstop
    by_cases hm : 0 ≤ z ∧ z ≤ 1000000
    · skip
      repeat' (first
 | ((with_reducible apply (r_index_arr k)); exact rfl; exact rfl; exact rfl; exact hk; exact hz; exact rfl)
 | ((with_reducible apply aw_seq))
 | ((with_reducible apply aw_region))
 | ((with_reducible apply aw_block))
 | ((with_reducible apply thn_normal))
 | ((with_reducible apply inb_normal))
 | ((with_reducible apply aw_skip))
 | ((with_reducible apply ao_nil))
 | ((with_reducible apply r_move); exact rfl; exact rfl)
 | ((with_reducible apply r_assign); exact rfl; exact rfl)
 | ((with_reducible apply r_lss); exact rfl; exact rfl; exact rfl)
 | ((with_reducible apply r_gtr); exact rfl; exact rfl; exact rfl)
 | ((with_reducible apply r_add); exact rfl; exact rfl; exact (by first | assumption | (unfold fits; omega)); exact rfl)
 | ((with_reducible apply r_pick_f); exact rfl; exact rfl; exact rfl)
 | (((with_reducible apply r_guard); exact rfl; exact rfl; exact rfl; exact rfl) <;> intro hg <;> (first | (exact absurd hg (by decide)) | ((try simp only [decide_eq_true_eq, decide_eq_false_iff_not, Bool.not_eq_true', Bool.not_eq_false', Bool.not_true, Bool.not_false, Bool.not_not, Int.not_lt, Int.not_le, Nat.not_lt, Nat.not_le, gt_iff_lt, ge_iff_le, List.cons.injEq, and_true] at hg); first | (exact absurd trivial hg) | (exfalso; omega) | (have hT : True := hg; clear hT hg) | skip)))
 | (((with_reducible apply aw_cond); exact rfl) <;> intro hg <;> (first | (exact absurd hg (by decide)) | ((try simp only [decide_eq_true_eq, decide_eq_false_iff_not, Bool.not_eq_true', Bool.not_eq_false', Bool.not_true, Bool.not_false, Bool.not_not, Int.not_lt, Int.not_le, Nat.not_lt, Nat.not_le, gt_iff_lt, ge_iff_le, List.cons.injEq, and_true] at hg); first | (exact absurd trivial hg) | (exfalso; omega) | (have hT : True := hg; clear hT hg) | skip)))
 )
      all_goals
        refine ⟨k + 1, ?_, ?_, by refine weak_mk rfl ?_ ?_ <;> repeat (first | exact envW_nil | exact heapW_nil | refine envW_cons rfl rfl ?_ | refine heapW_cons rfl rfl rfl ?_)⟩
        · show 8 - (k + 1) < 8 - k; omega
        · exact ⟨by show k + 1 ≤ 8; omega, hstep (decide_eq_true hm)⟩
    · skip
      repeat' (first
 | ((with_reducible apply (r_index_arr k)); exact rfl; exact rfl; exact rfl; exact hk; exact hz; exact rfl)
 | ((with_reducible apply aw_seq))
 | ((with_reducible apply aw_region))
 | ((with_reducible apply aw_block))
 | ((with_reducible apply thn_normal))
 | ((with_reducible apply thn_ret))
 | ((with_reducible apply inb_ret))
 | ((with_reducible apply aw_skip))
 | ((with_reducible apply aw_ret))
 | ((with_reducible apply ao_nil))
 | ((with_reducible apply r_move); exact rfl; exact rfl)
 | ((with_reducible apply r_assign); exact rfl; exact rfl)
 | ((with_reducible apply r_lss); exact rfl; exact rfl; exact rfl)
 | ((with_reducible apply r_gtr); exact rfl; exact rfl; exact rfl)
 | ((with_reducible apply r_pick_t); exact rfl; exact rfl; exact rfl)
 | ((with_reducible apply r_pick_f); exact rfl; exact rfl; exact rfl)
 | (((with_reducible apply r_guard); exact rfl; exact rfl; exact rfl; exact rfl) <;> intro hg <;> (first | (exact absurd hg (by decide)) | ((try simp only [decide_eq_true_eq, decide_eq_false_iff_not, Bool.not_eq_true', Bool.not_eq_false', Bool.not_true, Bool.not_false, Bool.not_not, Int.not_lt, Int.not_le, Nat.not_lt, Nat.not_le, gt_iff_lt, ge_iff_le, List.cons.injEq, and_true] at hg); first | (exact absurd trivial hg) | (exfalso; omega) | (have hT : True := hg; clear hT hg) | skip)))
 | (((with_reducible apply aw_cond); exact rfl) <;> intro hg <;> (first | (exact absurd hg (by decide)) | ((try simp only [decide_eq_true_eq, decide_eq_false_iff_not, Bool.not_eq_true', Bool.not_eq_false', Bool.not_true, Bool.not_false, Bool.not_not, Int.not_lt, Int.not_le, Nat.not_lt, Nat.not_le, gt_iff_lt, ge_iff_le, List.cons.injEq, and_true] at hg); first | (exact absurd trivial hg) | (exfalso; omega) | (have hT : True := hg; clear hT hg) | skip)))
 )
      all_goals exact ret_b rfl (hstop (decide_eq_false hm))
  · obtain rfl : k = 8 := by omega
    have hall8 := nums_all c hall
    by_cases hlh : c.lo ≤ c.hi
    all_goals
      repeat' (first
 | ((with_reducible apply aw_seq))
 | ((with_reducible apply aw_region))
 | ((with_reducible apply thn_normal))
 | ((with_reducible apply thn_exit))
 | ((with_reducible apply inb_exit))
 | ((with_reducible apply aw_exit))
 | ((with_reducible apply aw_ret))
 | ((with_reducible apply ao_nil))
 | ((with_reducible apply r_assign); exact rfl; exact rfl)
 | ((with_reducible apply r_field_p); exact rfl; exact rfl)
 | ((with_reducible apply r_load_p); exact rfl; exact rfl; exact rfl; exact rfl)
 | ((with_reducible apply r_lss); exact rfl; exact rfl; exact rfl)
 | ((with_reducible apply r_leq); exact rfl; exact rfl; exact rfl)
 | (((with_reducible apply aw_cond); exact rfl) <;> intro hg <;> (first | (exact absurd hg (by decide)) | ((try simp only [decide_eq_true_eq, decide_eq_false_iff_not, Bool.not_eq_true', Bool.not_eq_false', Bool.not_true, Bool.not_false, Bool.not_not, Int.not_lt, Int.not_le, Nat.not_lt, Nat.not_le, gt_iff_lt, ge_iff_le, List.cons.injEq, and_true] at hg); first | (exact absurd trivial hg) | (exfalso; omega) | (have hT : True := hg; clear hT hg) | skip)))
 )
      exact ret_b rfl (by unfold inR; rw [hall8]; simp [hlh])
end Go.Proofs.YtkhljpbkebnnmaaGreatDoor.Ge
