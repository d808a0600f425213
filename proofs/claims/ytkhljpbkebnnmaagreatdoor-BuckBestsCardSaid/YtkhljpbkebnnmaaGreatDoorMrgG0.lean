/- GA GB GC GD GE GF GS HA HB: texts laid together. -/
import Derived.Test.YtkhljpbkebnnmaaGreatDoorMrgI0
import Derived.Laws.Bits64b
import Derived.Test.YtkhljpbkebnnmaaGreatDoorMrgE1
set_option maxRecDepth 100000
set_option maxHeartbeats 64000000
/- Walks of geometry: spans, sections: Len, Meet, Check in both. -/
namespace Go.Proofs.YtkhljpbkebnnmaaGreatDoor.Ge
set_option linter.unusedVariables false
set_option linter.unusedSimpArgs false
open Go.RowKit Go.Proofs.YtkhljpbkebnnmaaGreatDoor.Ev
abbrev I (n : Int) : CV := .v (.int .i64 n)
abbrev A (n : Int) : AV := .c (.v (.int .i64 n))
abbrev T : CV := .v (.bool true)
def inC (n : Int) : List CV := [I n]
instance : EncL inC 1 := ⟨fun _ => rfl, by decide, fun _ => rfl⟩
abbrev LI (l : List Int) : CV := .lst 1 (l.flatMap inC)
abbrev Span := Int × Int
def spC (s : Span) : List CV := [I s.1, I s.2]
instance : EncL spC 2 := ⟨fun _ => rfl, by decide, fun _ => rfl⟩
abbrev LS (l : List Span) : CV := .lst 2 (l.flatMap spC)
abbrev spV (s : Span) : CV := .agg [I s.1, I s.2]
structure Sec where
  low : Int
  rows : List Span
abbrev secC (s : Sec) : CV := .agg [I s.low, LS s.rows]
abbrev secB (s : Sec) : AB := .cells 66 [A s.low, .c (LS s.rows)]
def sec0 : Sec := ⟨0, []⟩
theorem all_of {α : Type} {p : α → Bool} {l : List α} (h : ∀ i (h : i < l.length), p l[i] = true) : l.all p = true := by
  rw [List.all_eq_true]; intro x hx; obtain ⟨i, hi, rfl⟩ := List.mem_iff_getElem.1 hx; exact h i hi
theorem all_not {α : Type} {p : α → Bool} {l : List α} {i : Nat} (hi : i < l.length) (h : p l[i] = false) : l.all p = false := by
  rw [List.all_eq_false]; exact ⟨l[i], List.getElem_mem _, by simp [h]⟩
theorem step_all {α : Type} {p : α → Bool} {l : List α} {j : Nat} (hj : j < l.length) (h : ∀ i (h : i < l.length), i < j → p l[i] = true) (hp : p l[j] = true) : ∀ i (h : i < l.length), i < j + 1 → p l[i] = true := by
  intro i hi hij
  by_cases he : i = j
  · subst he; exact hp
  · exact h i hi (by omega)
theorem drop_cons {α : Type} (l : List α) (j : Nat) (h : j < l.length) : l.drop j = l[j] :: l.drop (j + 1) := List.drop_eq_getElem_cons h
variable {gl : List (Nat × List CV)}
def emptyS (s : Span) : Bool := decide (s.2 ≤ s.1)
def rangeS (s : Span) : Bool := decide (-600 ≤ s.1 ∧ -600 ≤ s.2 ∧ s.1 ≤ 600 ∧ s.2 ≤ 600)
theorem isEmpty_con (a b : Int) : Con Tryz.prog gl 73 [.agg [I a, I b]] (.v (.bool (emptyS (a, b)))) := by
  refine con_of Tryz.func73 rfl (by kernel_rfl) rfl ?_
  simp only [Tryz.ntmps73, Tryz.results73, argEnv, ofC, of1, List.map]
  repeat' (first
 | ((with_reducible apply aw_seq))
 | ((with_reducible apply aw_region))
 | ((with_reducible apply thn_normal))
 | ((with_reducible apply aw_ret))
 | ((with_reducible apply ao_nil))
 | ((with_reducible apply r_assign); exact rfl; exact rfl)
 | ((with_reducible apply r_field_p); exact rfl; exact rfl)
 | ((with_reducible apply r_load_p); exact rfl; exact rfl; exact rfl; exact rfl)
 | ((with_reducible apply r_geq); exact rfl; exact rfl; exact rfl)
 | ((with_reducible apply r_box_a); exact rfl; exact rfl)
 )
  exact ret_b rfl rfl
theorem empty_con (a b : Int) : Con Tryz.prog gl 71 [.agg [I a, I b]] (.v (.bool (emptyS (a, b)))) := by
  refine con_of Tryz.func71 rfl (by kernel_rfl) rfl ?_
  simp only [Tryz.ntmps71, Tryz.results71, argEnv, ofC, of1, List.map]
  repeat' (first
 | ((with_reducible apply aw_seq))
 | ((with_reducible apply aw_region))
 | ((with_reducible apply thn_normal))
 | ((with_reducible apply aw_ret))
 | ((with_reducible apply ao_nil))
 | ((with_reducible apply r_assign); exact rfl; exact rfl)
 | ((with_reducible apply r_field_p); exact rfl; exact rfl)
 | ((with_reducible apply r_load_p); exact rfl; exact rfl; exact rfl; exact rfl)
 | ((with_reducible apply r_geq); exact rfl; exact rfl; exact rfl)
 | ((with_reducible apply r_box_a); exact rfl; exact rfl)
 )
  exact ret_b rfl rfl
theorem inRange_con (a b : Int) : Con Tryz.prog gl 72 [.agg [I a, I b]] (.v (.bool (rangeS (a, b)))) := by
  refine con_of Tryz.func72 rfl (by kernel_rfl) rfl ?_
  simp only [Tryz.ntmps72, Tryz.results72, argEnv, ofC, of1, List.map]
  repeat' (first
 | ((with_reducible apply aw_seq))
 | ((with_reducible apply aw_region))
 | ((with_reducible apply thn_normal))
 | ((with_reducible apply aw_ret))
 | ((with_reducible apply ao_nil))
 | ((with_reducible apply r_move); exact rfl; exact rfl)
 | ((with_reducible apply r_assign); exact rfl; exact rfl)
 | ((with_reducible apply r_field_p); exact rfl; exact rfl)
 | ((with_reducible apply r_load_p); exact rfl; exact rfl; exact rfl; exact rfl)
 | ((with_reducible apply r_leq); exact rfl; exact rfl; exact rfl)
 | ((with_reducible apply r_geq); exact rfl; exact rfl; exact rfl)
 | ((with_reducible apply r_max); exact rfl; exact rfl; exact rfl)
 | ((with_reducible apply r_min); exact rfl; exact rfl; exact rfl)
 | ((with_reducible apply r_box_a); exact rfl; exact rfl)
 | ((with_reducible apply r_pick_t); exact rfl; exact rfl; exact rfl)
 | ((with_reducible apply r_pick_f); exact rfl; exact rfl; exact rfl)
 | (((with_reducible apply r_guard); exact rfl; exact rfl; exact rfl; exact rfl) <;> intro hg <;> (first | (exact absurd hg (by decide)) | ((try simp only [decide_eq_true_eq, decide_eq_false_iff_not, Bool.not_eq_true', Bool.not_eq_false', Bool.not_true, Bool.not_false, Bool.not_not, Int.not_lt, Int.not_le, Nat.not_lt, Nat.not_le, gt_iff_lt, ge_iff_le, List.cons.injEq, and_true] at hg); first | (exact absurd trivial hg) | (exfalso; omega) | (have hT : True := hg; clear hT hg) | skip)))
 )
  all_goals first
    | exact ret_b rfl (by unfold rangeS; rw [eq_comm, decide_eq_false_iff_not]; dsimp only; omega)
    | exact ret_b rfl (decide_eq_decide.2 (by dsimp only; omega))
theorem beyond_con (a : Int) : Con Tryz.prog gl 70 [I a] (.v (.bool (decide (a < -600 ∨ 600 < a)))) := by
  refine con_of Tryz.func70 rfl (by kernel_rfl) rfl ?_
  simp only [Tryz.ntmps70, Tryz.results70, argEnv, ofC, of1, List.map]
  repeat' (first
 | ((with_reducible apply aw_seq))
 | ((with_reducible apply aw_region))
 | ((with_reducible apply thn_normal))
 | ((with_reducible apply aw_ret))
 | ((with_reducible apply ao_nil))
 | ((with_reducible apply r_move); exact rfl; exact rfl)
 | ((with_reducible apply r_assign); exact rfl; exact rfl)
 | ((with_reducible apply r_lss); exact rfl; exact rfl; exact rfl)
 | ((with_reducible apply r_gtr); exact rfl; exact rfl; exact rfl)
 | ((with_reducible apply r_pick_t); exact rfl; exact rfl; exact rfl)
 | ((with_reducible apply r_pick_f); exact rfl; exact rfl; exact rfl)
 | (((with_reducible apply r_guard); exact rfl; exact rfl; exact rfl; exact rfl) <;> intro hg <;> (first | (exact absurd hg (by decide)) | ((try simp only [decide_eq_true_eq, decide_eq_false_iff_not, Bool.not_eq_true', Bool.not_eq_false', Bool.not_true, Bool.not_false, Bool.not_not, Int.not_lt, Int.not_le, Nat.not_lt, Nat.not_le, gt_iff_lt, ge_iff_le, List.cons.injEq, and_true] at hg); first | (exact absurd trivial hg) | (exfalso; omega) | (have hT : True := hg; clear hT hg) | skip)))
 )
  all_goals first
    | exact ret_b rfl (by rw [eq_comm, decide_eq_true_eq]; omega)
    | exact ret_b rfl (decide_eq_decide.2 (by omega))
def okRow (s : Span) : Bool := !emptyS s || decide (s.1 = 0 ∧ s.2 = 0)
def endsBad (l : List Span) : Prop := ∃ h : 0 < l.length, emptyS (l[0]'h) = true ∨ emptyS (l[l.length - 1]'(by omega)) = true
def headOk (s : Sec) : Prop := -60 ≤ s.low ∧ s.low + s.rows.length ≤ 60
noncomputable def secChk (s : Sec) : Int :=
  open Classical in
  if 120 < s.rows.length then 4 else if ¬ headOk s then 9 else if s.rows.all rangeS = false then 9
  else if s.rows.length = 0 then (if s.low = 0 then 0 else 19) else if endsBad s.rows then 19 else if s.rows.all okRow = true then 0 else 19
theorem sc_long {s : Sec} (h : 120 < s.rows.length) : 4 = secChk s := by unfold secChk; rw [if_pos h]
theorem sc_head {s : Sec} (h : ¬ 120 < s.rows.length) (h2 : ¬ headOk s) : 9 = secChk s := by unfold secChk; rw [if_neg h, if_pos h2]
theorem sc_range {s : Sec} (h : ¬ 120 < s.rows.length) (h2 : headOk s) {j : Nat} (hj : j < s.rows.length) (h3 : rangeS s.rows[j] = false) : 9 = secChk s := by unfold secChk; rw [if_neg h, if_neg (fun hh => hh h2), if_pos (all_not hj h3)]
structure SecR (s : Sec) : Prop where
  len : ¬ 120 < s.rows.length
  head : headOk s
  range : ∀ i (h : i < s.rows.length), rangeS s.rows[i] = true
theorem sc_none {s : Sec} (r : SecR s) (h : s.rows.length = 0) : secChk s = if s.low = 0 then 0 else 19 := by
  unfold secChk; rw [if_neg r.len, if_neg (fun hh => hh r.head), if_neg (by rw [all_of r.range]; simp), if_pos h]
theorem sc_ends {s : Sec} (r : SecR s) (h : ¬ s.rows.length = 0) (h2 : endsBad s.rows) : 19 = secChk s := by
  unfold secChk; rw [if_neg r.len, if_neg (fun hh => hh r.head), if_neg (by rw [all_of r.range]; simp), if_neg h, if_pos h2]
theorem sc_row {s : Sec} (r : SecR s) (h : ¬ s.rows.length = 0) (h2 : ¬ endsBad s.rows) {j : Nat} (hj : j < s.rows.length) (h3 : okRow s.rows[j] = false) : 19 = secChk s := by
  unfold secChk; rw [if_neg r.len, if_neg (fun hh => hh r.head), if_neg (by rw [all_of r.range]; simp), if_neg h, if_neg h2, if_neg (by rw [all_not hj h3]; simp)]
theorem sc_ok {s : Sec} (r : SecR s) (h : ¬ s.rows.length = 0) (h2 : ¬ endsBad s.rows) (h3 : ∀ i (h : i < s.rows.length), okRow s.rows[i] = true) : 0 = secChk s := by
  unfold secChk; rw [if_neg r.len, if_neg (fun hh => hh r.head), if_neg (by rw [all_of r.range]; simp), if_neg h, if_neg h2, if_pos (all_of h3)]
theorem range_get {a : Span} (h : rangeS a = true) : -600 ≤ a.1 ∧ -600 ≤ a.2 ∧ a.1 ≤ 600 ∧ a.2 ≤ 600 := by unfold rangeS at h; simpa using h
theorem range_not {a : Span} (h : ¬ (-600 ≤ a.1 ∧ -600 ≤ a.2 ∧ a.1 ≤ 600 ∧ a.2 ≤ 600)) : rangeS a = false := by unfold rangeS; exact decide_eq_false h
theorem range_is {a : Span} (h : -600 ≤ a.1 ∧ -600 ≤ a.2 ∧ a.1 ≤ 600 ∧ a.2 ≤ 600) : rangeS a = true := by unfold rangeS; exact decide_eq_true h
theorem check_con (s : Sec) : Con Tryz.prog gl 43 [secC s] (I (secChk s)) := by
  refine con_of Tryz.func43 rfl (by kernel_rfl) rfl ?_
  simp only [Tryz.ntmps43, Tryz.results43, argEnv, ofC, of1, List.map]
  by_cases hl : 120 < s.rows.length
  · skip
    repeat' (first
 | ((with_reducible apply aw_seq))
 | ((with_reducible apply aw_region))
 | ((with_reducible apply thn_normal))
 | ((with_reducible apply thn_ret))
 | ((with_reducible apply aw_ret))
 | ((with_reducible apply ao_nil))
 | ((with_reducible apply r_move); exact rfl; exact rfl)
 | ((with_reducible apply r_assign); exact rfl; exact rfl)
 | ((with_reducible apply r_field_p); exact rfl; exact rfl)
 | ((with_reducible apply r_load_p); exact rfl; exact rfl; exact rfl; exact rfl)
 | ((with_reducible apply r_gtr); exact rfl; exact rfl; exact rfl)
 | ((with_reducible apply r_box_a); exact rfl; exact rfl)
 | ((with_reducible apply r_len_f); exact rfl; exact inferInstance; exact rfl)
 | (((with_reducible apply aw_cond); exact rfl) <;> intro hg <;> (first | (exact absurd hg (by decide)) | ((try simp only [decide_eq_true_eq, decide_eq_false_iff_not, Bool.not_eq_true', Bool.not_eq_false', Bool.not_true, Bool.not_false, Bool.not_not, Int.not_lt, Int.not_le, Nat.not_lt, Nat.not_le, gt_iff_lt, ge_iff_le, List.cons.injEq, and_true] at hg); first | (exact absurd trivial hg) | (exfalso; omega) | (have hT : True := hg; clear hT hg) | skip)))
 )
    exact ret_i rfl (sc_long hl)
  by_cases hh : headOk s
  rotate_left
  · have hh' := hh
    unfold headOk at hh'
    repeat' (first
 | ((with_reducible apply aw_seq))
 | ((with_reducible apply aw_region))
 | ((with_reducible apply thn_normal))
 | ((with_reducible apply thn_ret))
 | ((with_reducible apply aw_skip))
 | ((with_reducible apply aw_ret))
 | ((with_reducible apply ao_nil))
 | ((with_reducible apply r_move); exact rfl; exact rfl)
 | ((with_reducible apply r_assign); exact rfl; exact rfl)
 | ((with_reducible apply r_field_p); exact rfl; exact rfl)
 | ((with_reducible apply r_load_p); exact rfl; exact rfl; exact rfl; exact rfl)
 | ((with_reducible apply r_lss); exact rfl; exact rfl; exact rfl)
 | ((with_reducible apply r_gtr); exact rfl; exact rfl; exact rfl)
 | ((with_reducible apply r_sub); exact rfl; exact rfl; exact (by first | assumption | (unfold fits; omega)); exact rfl)
 | ((with_reducible apply r_box_a); exact rfl; exact rfl)
 | ((with_reducible apply r_pick_t); exact rfl; exact rfl; exact rfl)
 | ((with_reducible apply r_pick_f); exact rfl; exact rfl; exact rfl)
 | ((with_reducible apply r_len_f); exact rfl; exact inferInstance; exact rfl)
 | (((with_reducible apply r_guard); exact rfl; exact rfl; exact rfl; exact rfl) <;> intro hg <;> (first | (exact absurd hg (by decide)) | ((try simp only [decide_eq_true_eq, decide_eq_false_iff_not, Bool.not_eq_true', Bool.not_eq_false', Bool.not_true, Bool.not_false, Bool.not_not, Int.not_lt, Int.not_le, Nat.not_lt, Nat.not_le, gt_iff_lt, ge_iff_le, List.cons.injEq, and_true] at hg); first | (exact absurd trivial hg) | (exfalso; omega) | (have hT : True := hg; clear hT hg) | skip)))
 | (((with_reducible apply aw_cond); exact rfl) <;> intro hg <;> (first | (exact absurd hg (by decide)) | ((try simp only [decide_eq_true_eq, decide_eq_false_iff_not, Bool.not_eq_true', Bool.not_eq_false', Bool.not_true, Bool.not_false, Bool.not_not, Int.not_lt, Int.not_le, Nat.not_lt, Nat.not_le, gt_iff_lt, ge_iff_le, List.cons.injEq, and_true] at hg); first | (exact absurd trivial hg) | (exfalso; omega) | (have hT : True := hg; clear hT hg) | skip)))
 )
    all_goals exact ret_i rfl (sc_head hl hh)
  have hh' := hh
  unfold headOk at hh'
  repeat' (first
 | ((with_reducible apply aw_seq))
 | ((with_reducible apply aw_region))
 | ((with_reducible apply aw_block))
 | ((with_reducible apply thn_normal))
 | ((with_reducible apply aw_skip))
 | ((with_reducible apply ao_nil))
 | ((with_reducible apply r_move); exact rfl; exact rfl)
 | ((with_reducible apply r_assign); exact rfl; exact rfl)
 | ((with_reducible apply r_field_p); exact rfl; exact rfl)
 | ((with_reducible apply r_load_p); exact rfl; exact rfl; exact rfl; exact rfl)
 | ((with_reducible apply r_lss); exact rfl; exact rfl; exact rfl)
 | ((with_reducible apply r_gtr); exact rfl; exact rfl; exact rfl)
 | ((with_reducible apply r_sub); exact rfl; exact rfl; exact (by first | assumption | (unfold fits; omega)); exact rfl)
 | ((with_reducible apply r_box_a); exact rfl; exact rfl)
 | ((with_reducible apply r_pick_f); exact rfl; exact rfl; exact rfl)
 | ((with_reducible apply r_len_f); exact rfl; exact inferInstance; exact rfl)
 | (((with_reducible apply r_guard); exact rfl; exact rfl; exact rfl; exact rfl) <;> intro hg <;> (first | (exact absurd hg (by decide)) | ((try simp only [decide_eq_true_eq, decide_eq_false_iff_not, Bool.not_eq_true', Bool.not_eq_false', Bool.not_true, Bool.not_false, Bool.not_not, Int.not_lt, Int.not_le, Nat.not_lt, Nat.not_le, gt_iff_lt, ge_iff_le, List.cons.injEq, and_true] at hg); first | (exact absurd trivial hg) | (exfalso; omega) | (have hT : True := hg; clear hT hg) | skip)))
 | (((with_reducible apply aw_cond); exact rfl) <;> intro hg <;> (first | (exact absurd hg (by decide)) | ((try simp only [decide_eq_true_eq, decide_eq_false_iff_not, Bool.not_eq_true', Bool.not_eq_false', Bool.not_true, Bool.not_false, Bool.not_not, Int.not_lt, Int.not_le, Nat.not_lt, Nat.not_le, gt_iff_lt, ge_iff_le, List.cons.injEq, and_true] at hg); first | (exact absurd trivial hg) | (exfalso; omega) | (have hT : True := hg; clear hT hg) | skip)))
 )
  refine aw_loopG (G := Nat) (fun (j : Nat) => j ≤ s.rows.length ∧ ∀ i (h : i < s.rows.length), i < j → rangeS s.rows[i] = true) (fun (j : Nat) => s.rows.length - j) (fun (j : Nat) => [(1, .ptr 0 0), (3, A s.rows.length), (24, .c (LS s.rows)), (25, A s.rows.length), (26, A j)]) (fun (j : Nat) => [(0, some (secB s))]) 1 0 ?_ (by refine weak_mk rfl ?_ ?_ <;> repeat (first | exact envW_nil | exact heapW_nil | refine envW_cons rfl rfl ?_ | refine heapW_cons rfl rfl rfl ?_)) rfl ?_
  · exact ⟨Nat.zero_le _, fun _ _ h => absurd h (Nat.not_lt_zero _)⟩
  rintro j hI
  try dsimp only at hI
  try dsimp only
  obtain ⟨hj, hall⟩ := hI
  by_cases hjl : j < s.rows.length
  · cases hr : rangeS s.rows[j] with
    | false =>
      have hc := inRange_con (gl := gl) s.rows[j].1 s.rows[j].2
      rw [show rangeS (s.rows[j].1, s.rows[j].2) = false from hr] at hc
      repeat' (first
 | ((with_reducible apply r_call); exact rfl; exact rfl; exact hc; exact rfl; exact rfl)
 | ((with_reducible apply aw_seq))
 | ((with_reducible apply aw_region))
 | ((with_reducible apply aw_block))
 | ((with_reducible apply thn_normal))
 | ((with_reducible apply thn_ret))
 | ((with_reducible apply inb_ret))
 | ((with_reducible apply aw_skip))
 | ((with_reducible apply aw_ret))
 | ((with_reducible apply ao_nil))
 | ((with_reducible apply r_assign); exact rfl; exact rfl)
 | ((with_reducible apply r_load_pa); exact rfl; exact rfl; exact rfl; exact rfl; exact rfl)
 | ((with_reducible apply r_lss); exact rfl; exact rfl; exact rfl)
 | ((with_reducible apply r_not); exact rfl; exact rfl)
 | ((with_reducible apply r_index_f); exact rfl; exact inferInstance; exact rfl; exact rfl; (first | assumption | omega); exact rfl)
 | ((with_reducible apply r_load_fa0); exact rfl; exact inferInstance; exact List.getElem?_eq_getElem (by first | assumption | omega); exact rfl; exact rfl; exact rfl)
 | ((with_reducible apply r_store_pa); exact rfl; exact rfl; exact rfl; exact rfl; exact rfl; exact rfl)
 | ((with_reducible apply r_alloc); exact rfl)
 | (((with_reducible apply aw_cond); exact rfl) <;> intro hg <;> (first | (exact absurd hg (by decide)) | ((try simp only [decide_eq_true_eq, decide_eq_false_iff_not, Bool.not_eq_true', Bool.not_eq_false', Bool.not_true, Bool.not_false, Bool.not_not, Int.not_lt, Int.not_le, Nat.not_lt, Nat.not_le, gt_iff_lt, ge_iff_le, List.cons.injEq, and_true] at hg); first | (exact absurd trivial hg) | (exfalso; omega) | (have hT : True := hg; clear hT hg) | skip)))
 )
      exact ret_i rfl (sc_range hl hh hjl hr)
    | true =>
      have hc := inRange_con (gl := gl) s.rows[j].1 s.rows[j].2
      rw [show rangeS (s.rows[j].1, s.rows[j].2) = true from hr] at hc
      repeat' (first
 | ((with_reducible apply r_call); exact rfl; exact rfl; exact hc; exact rfl; exact rfl)
 | ((with_reducible apply aw_seq))
 | ((with_reducible apply aw_region))
 | ((with_reducible apply aw_block))
 | ((with_reducible apply thn_normal))
 | ((with_reducible apply inb_normal))
 | ((with_reducible apply aw_skip))
 | ((with_reducible apply ao_nil))
 | ((with_reducible apply r_move); exact rfl; exact rfl)
 | ((with_reducible apply r_load_pa); exact rfl; exact rfl; exact rfl; exact rfl; exact rfl)
 | ((with_reducible apply r_lss); exact rfl; exact rfl; exact rfl)
 | ((with_reducible apply r_add); exact rfl; exact rfl; exact (by first | assumption | (unfold fits; omega)); exact rfl)
 | ((with_reducible apply r_not); exact rfl; exact rfl)
 | ((with_reducible apply r_index_f); exact rfl; exact inferInstance; exact rfl; exact rfl; (first | assumption | omega); exact rfl)
 | ((with_reducible apply r_load_fa0); exact rfl; exact inferInstance; exact List.getElem?_eq_getElem (by first | assumption | omega); exact rfl; exact rfl; exact rfl)
 | ((with_reducible apply r_store_pa); exact rfl; exact rfl; exact rfl; exact rfl; exact rfl; exact rfl)
 | ((with_reducible apply r_alloc); exact rfl)
 | (((with_reducible apply aw_cond); exact rfl) <;> intro hg <;> (first | (exact absurd hg (by decide)) | ((try simp only [decide_eq_true_eq, decide_eq_false_iff_not, Bool.not_eq_true', Bool.not_eq_false', Bool.not_true, Bool.not_false, Bool.not_not, Int.not_lt, Int.not_le, Nat.not_lt, Nat.not_le, gt_iff_lt, ge_iff_le, List.cons.injEq, and_true] at hg); first | (exact absurd trivial hg) | (exfalso; omega) | (have hT : True := hg; clear hT hg) | skip)))
 )
      refine ⟨j + 1, ?_, ?_, by refine weak_mk rfl ?_ ?_ <;> repeat (first | exact envW_nil | exact heapW_nil | refine envW_cons rfl rfl ?_ | refine heapW_cons rfl rfl rfl ?_)⟩
      · show _ - (j + 1) < _ - j; omega
      · exact ⟨by show j + 1 ≤ _; omega, step_all hjl hall hr⟩
  have r : SecR s := ⟨hl, hh, fun i hi => hall i hi (by omega)⟩
  by_cases h0 : s.rows.length = 0
  · have hn := (sc_none r h0).symm
    by_cases hlow : s.low = 0
    · rw [if_pos hlow] at hn
      repeat' (first
 | ((with_reducible apply aw_seq))
 | ((with_reducible apply aw_region))
 | ((with_reducible apply thn_normal))
 | ((with_reducible apply thn_ret))
 | ((with_reducible apply thn_exit))
 | ((with_reducible apply inb_exit))
 | ((with_reducible apply aw_skip))
 | ((with_reducible apply aw_exit))
 | ((with_reducible apply aw_ret))
 | ((with_reducible apply ao_nil))
 | ((with_reducible apply r_move); exact rfl; exact rfl)
 | ((with_reducible apply r_assign); exact rfl; exact rfl)
 | ((with_reducible apply r_field_p); exact rfl; exact rfl)
 | ((with_reducible apply r_load_p); exact rfl; exact rfl; exact rfl; exact rfl)
 | ((with_reducible apply r_lss); exact rfl; exact rfl; exact rfl)
 | ((with_reducible apply r_eql); exact rfl; exact rfl; exact rfl)
 | ((with_reducible apply r_neq); exact rfl; exact rfl; exact rfl)
 | (((with_reducible apply aw_cond); exact rfl) <;> intro hg <;> (first | (exact absurd hg (by decide)) | ((try simp only [decide_eq_true_eq, decide_eq_false_iff_not, Bool.not_eq_true', Bool.not_eq_false', Bool.not_true, Bool.not_false, Bool.not_not, Int.not_lt, Int.not_le, Nat.not_lt, Nat.not_le, gt_iff_lt, ge_iff_le, List.cons.injEq, and_true] at hg); first | (exact absurd trivial hg) | (exfalso; omega) | (have hT : True := hg; clear hT hg) | skip)))
 )
      exact ret_i rfl hn
    · rw [if_neg hlow] at hn
      repeat' (first
 | ((with_reducible apply aw_seq))
 | ((with_reducible apply aw_region))
 | ((with_reducible apply thn_normal))
 | ((with_reducible apply thn_ret))
 | ((with_reducible apply thn_exit))
 | ((with_reducible apply inb_exit))
 | ((with_reducible apply aw_exit))
 | ((with_reducible apply aw_ret))
 | ((with_reducible apply ao_nil))
 | ((with_reducible apply r_move); exact rfl; exact rfl)
 | ((with_reducible apply r_assign); exact rfl; exact rfl)
 | ((with_reducible apply r_field_p); exact rfl; exact rfl)
 | ((with_reducible apply r_load_p); exact rfl; exact rfl; exact rfl; exact rfl)
 | ((with_reducible apply r_lss); exact rfl; exact rfl; exact rfl)
 | ((with_reducible apply r_eql); exact rfl; exact rfl; exact rfl)
 | ((with_reducible apply r_neq); exact rfl; exact rfl; exact rfl)
 | (((with_reducible apply aw_cond); exact rfl) <;> intro hg <;> (first | (exact absurd hg (by decide)) | ((try simp only [decide_eq_true_eq, decide_eq_false_iff_not, Bool.not_eq_true', Bool.not_eq_false', Bool.not_true, Bool.not_false, Bool.not_not, Int.not_lt, Int.not_le, Nat.not_lt, Nat.not_le, gt_iff_lt, ge_iff_le, List.cons.injEq, and_true] at hg); first | (exact absurd trivial hg) | (exfalso; omega) | (have hT : True := hg; clear hT hg) | skip)))
 )
      exact ret_i rfl hn
  have hc0 := isEmpty_con (gl := gl) (s.rows[0]'(by omega)).1 (s.rows[0]'(by omega)).2
  have hc1 := isEmpty_con (gl := gl) (s.rows[((s.rows.length : Int) - 1).toNat]'(by omega)).1 (s.rows[((s.rows.length : Int) - 1).toNat]'(by omega)).2
  have hbad : endsBad s.rows ↔ (emptyS (s.rows[0]'(by omega)) = true ∨ emptyS (s.rows[((s.rows.length : Int) - 1).toNat]'(by omega)) = true) := by
    have e : ((s.rows.length : Int) - 1).toNat = s.rows.length - 1 := by omega
    unfold endsBad
    simp only [e]
    exact ⟨fun ⟨_, h⟩ => h, fun h => ⟨by omega, h⟩⟩
  cases he0 : emptyS (s.rows[0]'(by omega)) with
  | true =>
    rw [show emptyS ((s.rows[0]'(by omega)).1, (s.rows[0]'(by omega)).2) = true from he0] at hc0
    repeat' (first
 | ((with_reducible apply (r_index_f (k := 0))); exact rfl; exact inferInstance; exact rfl; exact rfl; (omega); exact rfl)
 | ((with_reducible apply r_call); exact rfl; exact rfl; exact hc0; exact rfl; exact rfl)
 | ((with_reducible apply aw_seq))
 | ((with_reducible apply aw_region))
 | ((with_reducible apply thn_normal))
 | ((with_reducible apply thn_ret))
 | ((with_reducible apply thn_exit))
 | ((with_reducible apply inb_exit))
 | ((with_reducible apply aw_skip))
 | ((with_reducible apply aw_exit))
 | ((with_reducible apply aw_ret))
 | ((with_reducible apply ao_nil))
 | ((with_reducible apply r_move); exact rfl; exact rfl)
 | ((with_reducible apply r_assign); exact rfl; exact rfl)
 | ((with_reducible apply r_field_p); exact rfl; exact rfl)
 | ((with_reducible apply r_load_p); exact rfl; exact rfl; exact rfl; exact rfl)
 | ((with_reducible apply r_lss); exact rfl; exact rfl; exact rfl)
 | ((with_reducible apply r_eql); exact rfl; exact rfl; exact rfl)
 | ((with_reducible apply r_pick_t); exact rfl; exact rfl; exact rfl)
 | ((with_reducible apply r_load_fa0); exact rfl; exact inferInstance; exact List.getElem?_eq_getElem (by first | assumption | omega); exact rfl; exact rfl; exact rfl)
 | (((with_reducible apply r_guard); exact rfl; exact rfl; exact rfl; exact rfl) <;> intro hg <;> (first | (exact absurd hg (by decide)) | ((try simp only [decide_eq_true_eq, decide_eq_false_iff_not, Bool.not_eq_true', Bool.not_eq_false', Bool.not_true, Bool.not_false, Bool.not_not, Int.not_lt, Int.not_le, Nat.not_lt, Nat.not_le, gt_iff_lt, ge_iff_le, List.cons.injEq, and_true] at hg); first | (exact absurd trivial hg) | (exfalso; omega) | (have hT : True := hg; clear hT hg) | skip)))
 | (((with_reducible apply aw_cond); exact rfl) <;> intro hg <;> (first | (exact absurd hg (by decide)) | ((try simp only [decide_eq_true_eq, decide_eq_false_iff_not, Bool.not_eq_true', Bool.not_eq_false', Bool.not_true, Bool.not_false, Bool.not_not, Int.not_lt, Int.not_le, Nat.not_lt, Nat.not_le, gt_iff_lt, ge_iff_le, List.cons.injEq, and_true] at hg); first | (exact absurd trivial hg) | (exfalso; omega) | (have hT : True := hg; clear hT hg) | skip)))
 )
    exact ret_i rfl (sc_ends r h0 (hbad.2 (.inl he0)))
  | false =>
  rw [show emptyS ((s.rows[0]'(by omega)).1, (s.rows[0]'(by omega)).2) = false from he0] at hc0
  cases he1 : emptyS (s.rows[((s.rows.length : Int) - 1).toNat]'(by omega)) with
  | true =>
    rw [show emptyS ((s.rows[((s.rows.length : Int) - 1).toNat]'(by omega)).1, (s.rows[((s.rows.length : Int) - 1).toNat]'(by omega)).2) = true from he1] at hc1
    repeat' (first
 | ((with_reducible apply (r_index_f (k := 0))); exact rfl; exact inferInstance; exact rfl; exact rfl; (omega); exact rfl)
 | ((with_reducible apply r_call); exact rfl; exact rfl; (first | exact hc0 | exact hc1); exact rfl; exact rfl)
 | ((with_reducible apply aw_seq))
 | ((with_reducible apply aw_region))
 | ((with_reducible apply thn_normal))
 | ((with_reducible apply thn_ret))
 | ((with_reducible apply thn_exit))
 | ((with_reducible apply inb_exit))
 | ((with_reducible apply aw_skip))
 | ((with_reducible apply aw_exit))
 | ((with_reducible apply aw_ret))
 | ((with_reducible apply ao_nil))
 | ((with_reducible apply r_move); exact rfl; exact rfl)
 | ((with_reducible apply r_assign); exact rfl; exact rfl)
 | ((with_reducible apply r_field_p); exact rfl; exact rfl)
 | ((with_reducible apply r_load_p); exact rfl; exact rfl; exact rfl; exact rfl)
 | ((with_reducible apply r_lss); exact rfl; exact rfl; exact rfl)
 | ((with_reducible apply r_eql); exact rfl; exact rfl; exact rfl)
 | ((with_reducible apply r_sub); exact rfl; exact rfl; exact (by first | assumption | (unfold fits; omega)); exact rfl)
 | ((with_reducible apply r_pick_f); exact rfl; exact rfl; exact rfl)
 | ((with_reducible apply r_index_f); exact rfl; exact inferInstance; exact rfl; exact (Int.toNat_of_nonneg (by omega)).symm; (first | assumption | omega); exact rfl)
 | ((with_reducible apply r_load_fa0); exact rfl; exact inferInstance; exact List.getElem?_eq_getElem (by first | assumption | omega); exact rfl; exact rfl; exact rfl)
 | (((with_reducible apply r_guard); exact rfl; exact rfl; exact rfl; exact rfl) <;> intro hg <;> (first | (exact absurd hg (by decide)) | ((try simp only [decide_eq_true_eq, decide_eq_false_iff_not, Bool.not_eq_true', Bool.not_eq_false', Bool.not_true, Bool.not_false, Bool.not_not, Int.not_lt, Int.not_le, Nat.not_lt, Nat.not_le, gt_iff_lt, ge_iff_le, List.cons.injEq, and_true] at hg); first | (exact absurd trivial hg) | (exfalso; omega) | (have hT : True := hg; clear hT hg) | skip)))
 | (((with_reducible apply aw_cond); exact rfl) <;> intro hg <;> (first | (exact absurd hg (by decide)) | ((try simp only [decide_eq_true_eq, decide_eq_false_iff_not, Bool.not_eq_true', Bool.not_eq_false', Bool.not_true, Bool.not_false, Bool.not_not, Int.not_lt, Int.not_le, Nat.not_lt, Nat.not_le, gt_iff_lt, ge_iff_le, List.cons.injEq, and_true] at hg); first | (exact absurd trivial hg) | (exfalso; omega) | (have hT : True := hg; clear hT hg) | skip)))
 )
    exact ret_i rfl (sc_ends r h0 (hbad.2 (.inr he1)))
  | false =>
  rw [show emptyS ((s.rows[((s.rows.length : Int) - 1).toNat]'(by omega)).1, (s.rows[((s.rows.length : Int) - 1).toNat]'(by omega)).2) = false from he1] at hc1
  have hnb : ¬ endsBad s.rows := fun hh => by rcases hbad.1 hh with h | h <;> simp_all
  repeat' (first
 | ((with_reducible apply (r_index_f (k := 0))); exact rfl; exact inferInstance; exact rfl; exact rfl; (omega); exact rfl)
 | ((with_reducible apply r_call); exact rfl; exact rfl; (first | exact hc0 | exact hc1); exact rfl; exact rfl)
 | ((with_reducible apply aw_seq))
 | ((with_reducible apply aw_region))
 | ((with_reducible apply aw_block))
 | ((with_reducible apply thn_normal))
 | ((with_reducible apply thn_exit))
 | ((with_reducible apply inb_exit))
 | ((with_reducible apply aw_skip))
 | ((with_reducible apply aw_exit))
 | ((with_reducible apply ao_nil))
 | ((with_reducible apply r_move); exact rfl; exact rfl)
 | ((with_reducible apply r_field_p); exact rfl; exact rfl)
 | ((with_reducible apply r_load_p); exact rfl; exact rfl; exact rfl; exact rfl)
 | ((with_reducible apply r_lss); exact rfl; exact rfl; exact rfl)
 | ((with_reducible apply r_eql); exact rfl; exact rfl; exact rfl)
 | ((with_reducible apply r_sub); exact rfl; exact rfl; exact (by first | assumption | (unfold fits; omega)); exact rfl)
 | ((with_reducible apply r_pick_f); exact rfl; exact rfl; exact rfl)
 | ((with_reducible apply r_len_f); exact rfl; exact inferInstance; exact rfl)
 | ((with_reducible apply r_index_f); exact rfl; exact inferInstance; exact rfl; exact (Int.toNat_of_nonneg (by omega)).symm; (first | assumption | omega); exact rfl)
 | ((with_reducible apply r_load_fa0); exact rfl; exact inferInstance; exact List.getElem?_eq_getElem (by first | assumption | omega); exact rfl; exact rfl; exact rfl)
 | (((with_reducible apply r_guard); exact rfl; exact rfl; exact rfl; exact rfl) <;> intro hg <;> (first | (exact absurd hg (by decide)) | ((try simp only [decide_eq_true_eq, decide_eq_false_iff_not, Bool.not_eq_true', Bool.not_eq_false', Bool.not_true, Bool.not_false, Bool.not_not, Int.not_lt, Int.not_le, Nat.not_lt, Nat.not_le, gt_iff_lt, ge_iff_le, List.cons.injEq, and_true] at hg); first | (exact absurd trivial hg) | (exfalso; omega) | (have hT : True := hg; clear hT hg) | skip)))
 | (((with_reducible apply aw_cond); exact rfl) <;> intro hg <;> (first | (exact absurd hg (by decide)) | ((try simp only [decide_eq_true_eq, decide_eq_false_iff_not, Bool.not_eq_true', Bool.not_eq_false', Bool.not_true, Bool.not_false, Bool.not_not, Int.not_lt, Int.not_le, Nat.not_lt, Nat.not_le, gt_iff_lt, ge_iff_le, List.cons.injEq, and_true] at hg); first | (exact absurd trivial hg) | (exfalso; omega) | (have hT : True := hg; clear hT hg) | skip)))
 )
  clear hall
  refine aw_loopG (G := Nat) (fun (q : Nat) => q ≤ s.rows.length ∧ ∀ i (h : i < s.rows.length), i < q → okRow s.rows[i] = true) (fun (q : Nat) => s.rows.length - q) (fun (q : Nat) => [(54, .c (LS s.rows)), (55, A s.rows.length), (56, A q)]) (fun (q : Nat) => [(0, some (secB s))]) 1 0 ?_ (by refine weak_mk rfl ?_ ?_ <;> repeat (first | exact envW_nil | exact heapW_nil | refine envW_cons rfl rfl ?_ | refine heapW_cons rfl rfl rfl ?_)) rfl ?_
  · exact ⟨Nat.zero_le _, fun _ _ h => absurd h (Nat.not_lt_zero _)⟩
  rintro q hI
  try dsimp only at hI
  try dsimp only
  obtain ⟨hq, hall⟩ := hI
  by_cases hql : q < s.rows.length
  · have hc := isEmpty_con (gl := gl) s.rows[q].1 s.rows[q].2
    cases he : emptyS s.rows[q] with
    | false =>
      rw [show emptyS (s.rows[q].1, s.rows[q].2) = false from he] at hc
      repeat' (first
 | ((with_reducible apply r_call); exact rfl; exact rfl; exact hc; exact rfl; exact rfl)
 | ((with_reducible apply aw_seq))
 | ((with_reducible apply aw_region))
 | ((with_reducible apply aw_block))
 | ((with_reducible apply thn_normal))
 | ((with_reducible apply inb_normal))
 | ((with_reducible apply aw_skip))
 | ((with_reducible apply ao_nil))
 | ((with_reducible apply r_move); exact rfl; exact rfl)
 | ((with_reducible apply r_load_pa); exact rfl; exact rfl; exact rfl; exact rfl; exact rfl)
 | ((with_reducible apply r_lss); exact rfl; exact rfl; exact rfl)
 | ((with_reducible apply r_add); exact rfl; exact rfl; exact (by first | assumption | (unfold fits; omega)); exact rfl)
 | ((with_reducible apply r_pick_f); exact rfl; exact rfl; exact rfl)
 | ((with_reducible apply r_index_f); exact rfl; exact inferInstance; exact rfl; exact rfl; (first | assumption | omega); exact rfl)
 | ((with_reducible apply r_load_fa0); exact rfl; exact inferInstance; exact List.getElem?_eq_getElem (by first | assumption | omega); exact rfl; exact rfl; exact rfl)
 | ((with_reducible apply r_store_pa); exact rfl; exact rfl; exact rfl; exact rfl; exact rfl; exact rfl)
 | ((with_reducible apply r_alloc); exact rfl)
 | (((with_reducible apply r_guard); exact rfl; exact rfl; exact rfl; exact rfl) <;> intro hg <;> (first | (exact absurd hg (by decide)) | ((try simp only [decide_eq_true_eq, decide_eq_false_iff_not, Bool.not_eq_true', Bool.not_eq_false', Bool.not_true, Bool.not_false, Bool.not_not, Int.not_lt, Int.not_le, Nat.not_lt, Nat.not_le, gt_iff_lt, ge_iff_le, List.cons.injEq, and_true] at hg); first | (exact absurd trivial hg) | (exfalso; omega) | (have hT : True := hg; clear hT hg) | skip)))
 | (((with_reducible apply aw_cond); exact rfl) <;> intro hg <;> (first | (exact absurd hg (by decide)) | ((try simp only [decide_eq_true_eq, decide_eq_false_iff_not, Bool.not_eq_true', Bool.not_eq_false', Bool.not_true, Bool.not_false, Bool.not_not, Int.not_lt, Int.not_le, Nat.not_lt, Nat.not_le, gt_iff_lt, ge_iff_le, List.cons.injEq, and_true] at hg); first | (exact absurd trivial hg) | (exfalso; omega) | (have hT : True := hg; clear hT hg) | skip)))
 )
      refine ⟨q + 1, ?_, ?_, by refine weak_mk rfl ?_ ?_ <;> repeat (first | exact envW_nil | exact heapW_nil | refine envW_cons rfl rfl ?_ | refine heapW_cons rfl rfl rfl ?_)⟩
      · show _ - (q + 1) < _ - q; omega
      · exact ⟨by show q + 1 ≤ _; omega, step_all hql hall (by unfold okRow; rw [he]; rfl)⟩
    | true =>
      rw [show emptyS (s.rows[q].1, s.rows[q].2) = true from he] at hc
      by_cases hz : s.rows[q].1 = 0 ∧ s.rows[q].2 = 0
      · obtain ⟨z1, z2⟩ := hz
        repeat' (first
 | ((with_reducible apply r_call); exact rfl; exact rfl; exact hc; exact rfl; exact rfl)
 | ((with_reducible apply aw_seq))
 | ((with_reducible apply aw_region))
 | ((with_reducible apply aw_block))
 | ((with_reducible apply thn_normal))
 | ((with_reducible apply inb_normal))
 | ((with_reducible apply aw_skip))
 | ((with_reducible apply ao_nil))
 | ((with_reducible apply r_move); exact rfl; exact rfl)
 | ((with_reducible apply r_load_pa); exact rfl; exact rfl; exact rfl; exact rfl; exact rfl)
 | ((with_reducible apply r_lss); exact rfl; exact rfl; exact rfl)
 | ((with_reducible apply r_add); exact rfl; exact rfl; exact (by first | assumption | (unfold fits; omega)); exact rfl)
 | ((with_reducible apply r_pick_t); exact rfl; exact rfl; exact rfl)
 | ((with_reducible apply r_index_f); exact rfl; exact inferInstance; exact rfl; exact rfl; (first | assumption | omega); exact rfl)
 | ((with_reducible apply r_load_fa0); exact rfl; exact inferInstance; exact List.getElem?_eq_getElem (by first | assumption | omega); exact rfl; exact rfl; exact rfl)
 | ((with_reducible apply r_store_pa); exact rfl; exact rfl; exact rfl; exact rfl; exact rfl; exact rfl)
 | ((with_reducible apply r_build); exact rfl; exact rfl; exact rfl)
 | ((with_reducible apply r_alloc); exact rfl)
 | (((with_reducible apply r_guard); exact rfl; exact rfl; exact rfl; exact rfl) <;> intro hg <;> (first | (exact absurd hg (by decide)) | ((try simp only [decide_eq_true_eq, decide_eq_false_iff_not, Bool.not_eq_true', Bool.not_eq_false', Bool.not_true, Bool.not_false, Bool.not_not, Int.not_lt, Int.not_le, Nat.not_lt, Nat.not_le, gt_iff_lt, ge_iff_le, List.cons.injEq, and_true] at hg); first | (exact absurd trivial hg) | (exfalso; omega) | (have hT : True := hg; clear hT hg) | skip)))
 | (((with_reducible apply aw_cond); exact rfl) <;> intro hg <;> (first | (exact absurd hg (by decide)) | ((try simp only [decide_eq_true_eq, decide_eq_false_iff_not, Bool.not_eq_true', Bool.not_eq_false', Bool.not_true, Bool.not_false, Bool.not_not, Int.not_lt, Int.not_le, Nat.not_lt, Nat.not_le, gt_iff_lt, ge_iff_le, List.cons.injEq, and_true] at hg); first | (exact absurd trivial hg) | (exfalso; omega) | (have hT : True := hg; clear hT hg) | skip)))
 | ((with_reducible apply r_neqs); exact rfl; exact rfl; exact rfl; exact rfl; exact rfl; exact rfl; exact rfl)
 )
        refine ⟨q + 1, ?_, ?_, by refine weak_mk rfl ?_ ?_ <;> repeat (first | exact envW_nil | exact heapW_nil | refine envW_cons rfl rfl ?_ | refine heapW_cons rfl rfl rfl ?_)⟩
        · show _ - (q + 1) < _ - q; omega
        · exact ⟨by show q + 1 ≤ _; omega, step_all hql hall (by unfold okRow; rw [he, decide_eq_true ⟨z1, z2⟩]; rfl)⟩
      · skip
        repeat' (first
 | ((with_reducible apply r_call); exact rfl; exact rfl; exact hc; exact rfl; exact rfl)
 | ((with_reducible apply aw_seq))
 | ((with_reducible apply aw_region))
 | ((with_reducible apply aw_block))
 | ((with_reducible apply thn_normal))
 | ((with_reducible apply thn_ret))
 | ((with_reducible apply inb_ret))
 | ((with_reducible apply aw_skip))
 | ((with_reducible apply aw_ret))
 | ((with_reducible apply ao_nil))
 | ((with_reducible apply r_move); exact rfl; exact rfl)
 | ((with_reducible apply r_assign); exact rfl; exact rfl)
 | ((with_reducible apply r_load_pa); exact rfl; exact rfl; exact rfl; exact rfl; exact rfl)
 | ((with_reducible apply r_lss); exact rfl; exact rfl; exact rfl)
 | ((with_reducible apply r_pick_t); exact rfl; exact rfl; exact rfl)
 | ((with_reducible apply r_index_f); exact rfl; exact inferInstance; exact rfl; exact rfl; (first | assumption | omega); exact rfl)
 | ((with_reducible apply r_load_fa0); exact rfl; exact inferInstance; exact List.getElem?_eq_getElem (by first | assumption | omega); exact rfl; exact rfl; exact rfl)
 | ((with_reducible apply r_store_pa); exact rfl; exact rfl; exact rfl; exact rfl; exact rfl; exact rfl)
 | ((with_reducible apply r_build); exact rfl; exact rfl; exact rfl)
 | ((with_reducible apply r_alloc); exact rfl)
 | (((with_reducible apply r_guard); exact rfl; exact rfl; exact rfl; exact rfl) <;> intro hg <;> (first | (exact absurd hg (by decide)) | ((try simp only [decide_eq_true_eq, decide_eq_false_iff_not, Bool.not_eq_true', Bool.not_eq_false', Bool.not_true, Bool.not_false, Bool.not_not, Int.not_lt, Int.not_le, Nat.not_lt, Nat.not_le, gt_iff_lt, ge_iff_le, List.cons.injEq, and_true] at hg); first | (exact absurd trivial hg) | (exfalso; omega) | (have hT : True := hg; clear hT hg) | skip)))
 | (((with_reducible apply aw_cond); exact rfl) <;> intro hg <;> (first | (exact absurd hg (by decide)) | ((try simp only [decide_eq_true_eq, decide_eq_false_iff_not, Bool.not_eq_true', Bool.not_eq_false', Bool.not_true, Bool.not_false, Bool.not_not, Int.not_lt, Int.not_le, Nat.not_lt, Nat.not_le, gt_iff_lt, ge_iff_le, List.cons.injEq, and_true] at hg); first | (exact absurd trivial hg) | (exfalso; omega) | (have hT : True := hg; clear hT hg) | skip)))
 | ((with_reducible apply r_neqs); exact rfl; exact rfl; exact rfl; exact rfl; exact rfl; exact rfl; exact rfl)
 )
        exact ret_i rfl (sc_row r h0 hnb hql (by unfold okRow; rw [he, decide_eq_false hz]; rfl))
  · skip
    repeat' (first
 | ((with_reducible apply aw_seq))
 | ((with_reducible apply aw_region))
 | ((with_reducible apply thn_normal))
 | ((with_reducible apply thn_exit))
 | ((with_reducible apply inb_exit))
 | ((with_reducible apply aw_exit))
 | ((with_reducible apply aw_ret))
 | ((with_reducible apply ao_nil))
 | ((with_reducible apply r_assign); exact rfl; exact rfl)
 | ((with_reducible apply r_lss); exact rfl; exact rfl; exact rfl)
 | (((with_reducible apply aw_cond); exact rfl) <;> intro hg <;> (first | (exact absurd hg (by decide)) | ((try simp only [decide_eq_true_eq, decide_eq_false_iff_not, Bool.not_eq_true', Bool.not_eq_false', Bool.not_true, Bool.not_false, Bool.not_not, Int.not_lt, Int.not_le, Nat.not_lt, Nat.not_le, gt_iff_lt, ge_iff_le, List.cons.injEq, and_true] at hg); first | (exact absurd trivial hg) | (exfalso; omega) | (have hT : True := hg; clear hT hg) | skip)))
 )
    exact ret_i rfl (sc_ok r h0 hnb (fun i hi => hall i hi (by omega)))
theorem rcheck_con (s : Sec) : Con Tryz.prog gl 42 [secC s] (I (secChk s)) := by
  refine con_of Tryz.func42 rfl (by kernel_rfl) rfl ?_
  simp only [Tryz.ntmps42, Tryz.results42, argEnv, ofC, of1, List.map]
  by_cases hl : 120 < s.rows.length
  · skip
    repeat' (first
 | ((with_reducible apply aw_seq))
 | ((with_reducible apply aw_region))
 | ((with_reducible apply thn_normal))
 | ((with_reducible apply thn_ret))
 | ((with_reducible apply aw_ret))
 | ((with_reducible apply ao_nil))
 | ((with_reducible apply r_move); exact rfl; exact rfl)
 | ((with_reducible apply r_assign); exact rfl; exact rfl)
 | ((with_reducible apply r_field_p); exact rfl; exact rfl)
 | ((with_reducible apply r_load_p); exact rfl; exact rfl; exact rfl; exact rfl)
 | ((with_reducible apply r_gtr); exact rfl; exact rfl; exact rfl)
 | ((with_reducible apply r_box_a); exact rfl; exact rfl)
 | ((with_reducible apply r_len_f); exact rfl; exact inferInstance; exact rfl)
 | (((with_reducible apply aw_cond); exact rfl) <;> intro hg <;> (first | (exact absurd hg (by decide)) | ((try simp only [decide_eq_true_eq, decide_eq_false_iff_not, Bool.not_eq_true', Bool.not_eq_false', Bool.not_true, Bool.not_false, Bool.not_not, Int.not_lt, Int.not_le, Nat.not_lt, Nat.not_le, gt_iff_lt, ge_iff_le, List.cons.injEq, and_true] at hg); first | (exact absurd trivial hg) | (exfalso; omega) | (have hT : True := hg; clear hT hg) | skip)))
 )
    exact ret_i rfl (sc_long hl)
  by_cases hh : headOk s
  rotate_left
  · have hh' := hh
    unfold headOk at hh'
    repeat' (first
 | ((with_reducible apply aw_seq))
 | ((with_reducible apply aw_region))
 | ((with_reducible apply thn_normal))
 | ((with_reducible apply thn_ret))
 | ((with_reducible apply aw_skip))
 | ((with_reducible apply aw_ret))
 | ((with_reducible apply ao_nil))
 | ((with_reducible apply r_move); exact rfl; exact rfl)
 | ((with_reducible apply r_assign); exact rfl; exact rfl)
 | ((with_reducible apply r_field_p); exact rfl; exact rfl)
 | ((with_reducible apply r_load_p); exact rfl; exact rfl; exact rfl; exact rfl)
 | ((with_reducible apply r_lss); exact rfl; exact rfl; exact rfl)
 | ((with_reducible apply r_gtr); exact rfl; exact rfl; exact rfl)
 | ((with_reducible apply r_sub); exact rfl; exact rfl; exact (by first | assumption | (unfold fits; omega)); exact rfl)
 | ((with_reducible apply r_box_a); exact rfl; exact rfl)
 | ((with_reducible apply r_pick_t); exact rfl; exact rfl; exact rfl)
 | ((with_reducible apply r_pick_f); exact rfl; exact rfl; exact rfl)
 | ((with_reducible apply r_len_f); exact rfl; exact inferInstance; exact rfl)
 | (((with_reducible apply r_guard); exact rfl; exact rfl; exact rfl; exact rfl) <;> intro hg <;> (first | (exact absurd hg (by decide)) | ((try simp only [decide_eq_true_eq, decide_eq_false_iff_not, Bool.not_eq_true', Bool.not_eq_false', Bool.not_true, Bool.not_false, Bool.not_not, Int.not_lt, Int.not_le, Nat.not_lt, Nat.not_le, gt_iff_lt, ge_iff_le, List.cons.injEq, and_true] at hg); first | (exact absurd trivial hg) | (exfalso; omega) | (have hT : True := hg; clear hT hg) | skip)))
 | (((with_reducible apply aw_cond); exact rfl) <;> intro hg <;> (first | (exact absurd hg (by decide)) | ((try simp only [decide_eq_true_eq, decide_eq_false_iff_not, Bool.not_eq_true', Bool.not_eq_false', Bool.not_true, Bool.not_false, Bool.not_not, Int.not_lt, Int.not_le, Nat.not_lt, Nat.not_le, gt_iff_lt, ge_iff_le, List.cons.injEq, and_true] at hg); first | (exact absurd trivial hg) | (exfalso; omega) | (have hT : True := hg; clear hT hg) | skip)))
 )
    all_goals exact ret_i rfl (sc_head hl hh)
  have hh' := hh
  unfold headOk at hh'
  repeat' (first
 | ((with_reducible apply aw_seq))
 | ((with_reducible apply aw_region))
 | ((with_reducible apply aw_block))
 | ((with_reducible apply thn_normal))
 | ((with_reducible apply aw_skip))
 | ((with_reducible apply ao_nil))
 | ((with_reducible apply r_move); exact rfl; exact rfl)
 | ((with_reducible apply r_assign); exact rfl; exact rfl)
 | ((with_reducible apply r_field_p); exact rfl; exact rfl)
 | ((with_reducible apply r_load_p); exact rfl; exact rfl; exact rfl; exact rfl)
 | ((with_reducible apply r_lss); exact rfl; exact rfl; exact rfl)
 | ((with_reducible apply r_gtr); exact rfl; exact rfl; exact rfl)
 | ((with_reducible apply r_sub); exact rfl; exact rfl; exact (by first | assumption | (unfold fits; omega)); exact rfl)
 | ((with_reducible apply r_box_a); exact rfl; exact rfl)
 | ((with_reducible apply r_pick_f); exact rfl; exact rfl; exact rfl)
 | ((with_reducible apply r_len_f); exact rfl; exact inferInstance; exact rfl)
 | (((with_reducible apply r_guard); exact rfl; exact rfl; exact rfl; exact rfl) <;> intro hg <;> (first | (exact absurd hg (by decide)) | ((try simp only [decide_eq_true_eq, decide_eq_false_iff_not, Bool.not_eq_true', Bool.not_eq_false', Bool.not_true, Bool.not_false, Bool.not_not, Int.not_lt, Int.not_le, Nat.not_lt, Nat.not_le, gt_iff_lt, ge_iff_le, List.cons.injEq, and_true] at hg); first | (exact absurd trivial hg) | (exfalso; omega) | (have hT : True := hg; clear hT hg) | skip)))
 | (((with_reducible apply aw_cond); exact rfl) <;> intro hg <;> (first | (exact absurd hg (by decide)) | ((try simp only [decide_eq_true_eq, decide_eq_false_iff_not, Bool.not_eq_true', Bool.not_eq_false', Bool.not_true, Bool.not_false, Bool.not_not, Int.not_lt, Int.not_le, Nat.not_lt, Nat.not_le, gt_iff_lt, ge_iff_le, List.cons.injEq, and_true] at hg); first | (exact absurd trivial hg) | (exfalso; omega) | (have hT : True := hg; clear hT hg) | skip)))
 )
  refine aw_loopG (G := Nat) (fun (j : Nat) => j ≤ s.rows.length ∧ ∀ i (h : i < s.rows.length), i < j → rangeS s.rows[i] = true) (fun (j : Nat) => s.rows.length - j) (fun (j : Nat) => [(1, .ptr 0 0), (3, A s.rows.length), (4, A j)]) (fun (j : Nat) => [(0, some (secB s))]) 1 0 ?_ (by refine weak_mk rfl ?_ ?_ <;> repeat (first | exact envW_nil | exact heapW_nil | refine envW_cons rfl rfl ?_ | refine heapW_cons rfl rfl rfl ?_)) rfl ?_
  · exact ⟨Nat.zero_le _, fun _ _ h => absurd h (Nat.not_lt_zero _)⟩
  rintro j hI
  try dsimp only at hI
  try dsimp only
  obtain ⟨hj, hall⟩ := hI
  by_cases hjl : j < s.rows.length
  · have hc := beyond_con (gl := gl) s.rows[j].1
    have hd := beyond_con (gl := gl) s.rows[j].2
    repeat' (first
 | ((with_reducible apply r_call); exact rfl; exact rfl; (first | exact hc | exact hd); exact rfl; exact rfl)
 | ((with_reducible apply aw_seq))
 | ((with_reducible apply aw_region))
 | ((with_reducible apply aw_block))
 | ((with_reducible apply thn_normal))
 | ((with_reducible apply thn_ret))
 | ((with_reducible apply inb_normal))
 | ((with_reducible apply inb_ret))
 | ((with_reducible apply aw_skip))
 | ((with_reducible apply aw_ret))
 | ((with_reducible apply ao_nil))
 | ((with_reducible apply r_move); exact rfl; exact rfl)
 | ((with_reducible apply r_assign); exact rfl; exact rfl)
 | ((with_reducible apply r_field_p); exact rfl; exact rfl)
 | ((with_reducible apply r_load_p); exact rfl; exact rfl; exact rfl; exact rfl)
 | ((with_reducible apply r_lss); exact rfl; exact rfl; exact rfl)
 | ((with_reducible apply r_add); exact rfl; exact rfl; exact (by first | assumption | (unfold fits; omega)); exact rfl)
 | ((with_reducible apply r_pick_t); exact rfl; exact rfl; exact rfl)
 | ((with_reducible apply r_pick_f); exact rfl; exact rfl; exact rfl)
 | ((with_reducible apply r_index_f); exact rfl; exact inferInstance; exact rfl; exact rfl; (first | assumption | omega); exact rfl)
 | ((with_reducible apply r_load_f0); exact rfl; exact inferInstance; exact List.getElem?_eq_getElem (by first | assumption | omega); exact rfl; exact rfl)
 | ((with_reducible apply r_load_f); exact rfl; exact inferInstance; exact List.getElem?_eq_getElem (by first | assumption | omega); exact rfl; exact rfl; exact rfl)
 | ((with_reducible apply r_field_e); exact rfl; exact rfl)
 | (((with_reducible apply r_guard); exact rfl; exact rfl; exact rfl; exact rfl) <;> intro hg <;> (first | (exact absurd hg (by decide)) | ((try simp only [decide_eq_true_eq, decide_eq_false_iff_not, Bool.not_eq_true', Bool.not_eq_false', Bool.not_true, Bool.not_false, Bool.not_not, Int.not_lt, Int.not_le, Nat.not_lt, Nat.not_le, gt_iff_lt, ge_iff_le, List.cons.injEq, and_true] at hg); first | (exact absurd trivial hg) | (exfalso; omega) | (have hT : True := hg; clear hT hg) | skip)))
 | (((with_reducible apply aw_cond); exact rfl) <;> intro hg <;> (first | (exact absurd hg (by decide)) | ((try simp only [decide_eq_true_eq, decide_eq_false_iff_not, Bool.not_eq_true', Bool.not_eq_false', Bool.not_true, Bool.not_false, Bool.not_not, Int.not_lt, Int.not_le, Nat.not_lt, Nat.not_le, gt_iff_lt, ge_iff_le, List.cons.injEq, and_true] at hg); first | (exact absurd trivial hg) | (exfalso; omega) | (have hT : True := hg; clear hT hg) | skip)))
 )
    all_goals first | exact ret_i rfl (sc_range hl hh hjl (range_not (by omega))) | skip
    refine ⟨j + 1, ?_, ?_, by refine weak_mk rfl ?_ ?_ <;> repeat (first | exact envW_nil | exact heapW_nil | refine envW_cons rfl rfl ?_ | refine heapW_cons rfl rfl rfl ?_)⟩
    · show _ - (j + 1) < _ - j; omega
    · exact ⟨by show j + 1 ≤ _; omega, step_all hjl hall (range_is (by omega))⟩
  have r : SecR s := ⟨hl, hh, fun i hi => hall i hi (by omega)⟩
  by_cases h0 : s.rows.length = 0
  · have hn := (sc_none r h0).symm
    by_cases hlow : s.low = 0
    · rw [if_pos hlow] at hn
      repeat' (first
 | ((with_reducible apply aw_seq))
 | ((with_reducible apply aw_region))
 | ((with_reducible apply thn_normal))
 | ((with_reducible apply thn_ret))
 | ((with_reducible apply thn_exit))
 | ((with_reducible apply inb_exit))
 | ((with_reducible apply aw_skip))
 | ((with_reducible apply aw_exit))
 | ((with_reducible apply aw_ret))
 | ((with_reducible apply ao_nil))
 | ((with_reducible apply r_move); exact rfl; exact rfl)
 | ((with_reducible apply r_assign); exact rfl; exact rfl)
 | ((with_reducible apply r_field_p); exact rfl; exact rfl)
 | ((with_reducible apply r_load_p); exact rfl; exact rfl; exact rfl; exact rfl)
 | ((with_reducible apply r_lss); exact rfl; exact rfl; exact rfl)
 | ((with_reducible apply r_eql); exact rfl; exact rfl; exact rfl)
 | ((with_reducible apply r_neq); exact rfl; exact rfl; exact rfl)
 | (((with_reducible apply aw_cond); exact rfl) <;> intro hg <;> (first | (exact absurd hg (by decide)) | ((try simp only [decide_eq_true_eq, decide_eq_false_iff_not, Bool.not_eq_true', Bool.not_eq_false', Bool.not_true, Bool.not_false, Bool.not_not, Int.not_lt, Int.not_le, Nat.not_lt, Nat.not_le, gt_iff_lt, ge_iff_le, List.cons.injEq, and_true] at hg); first | (exact absurd trivial hg) | (exfalso; omega) | (have hT : True := hg; clear hT hg) | skip)))
 )
      exact ret_i rfl hn
    · rw [if_neg hlow] at hn
      repeat' (first
 | ((with_reducible apply aw_seq))
 | ((with_reducible apply aw_region))
 | ((with_reducible apply thn_normal))
 | ((with_reducible apply thn_ret))
 | ((with_reducible apply thn_exit))
 | ((with_reducible apply inb_exit))
 | ((with_reducible apply aw_exit))
 | ((with_reducible apply aw_ret))
 | ((with_reducible apply ao_nil))
 | ((with_reducible apply r_move); exact rfl; exact rfl)
 | ((with_reducible apply r_assign); exact rfl; exact rfl)
 | ((with_reducible apply r_field_p); exact rfl; exact rfl)
 | ((with_reducible apply r_load_p); exact rfl; exact rfl; exact rfl; exact rfl)
 | ((with_reducible apply r_lss); exact rfl; exact rfl; exact rfl)
 | ((with_reducible apply r_eql); exact rfl; exact rfl; exact rfl)
 | ((with_reducible apply r_neq); exact rfl; exact rfl; exact rfl)
 | (((with_reducible apply aw_cond); exact rfl) <;> intro hg <;> (first | (exact absurd hg (by decide)) | ((try simp only [decide_eq_true_eq, decide_eq_false_iff_not, Bool.not_eq_true', Bool.not_eq_false', Bool.not_true, Bool.not_false, Bool.not_not, Int.not_lt, Int.not_le, Nat.not_lt, Nat.not_le, gt_iff_lt, ge_iff_le, List.cons.injEq, and_true] at hg); first | (exact absurd trivial hg) | (exfalso; omega) | (have hT : True := hg; clear hT hg) | skip)))
 )
      exact ret_i rfl hn
  have hc0 := empty_con (gl := gl) (s.rows[0]'(by omega)).1 (s.rows[0]'(by omega)).2
  have hc1 := empty_con (gl := gl) (s.rows[((s.rows.length : Int) - 1).toNat]'(by omega)).1 (s.rows[((s.rows.length : Int) - 1).toNat]'(by omega)).2
  have hbad : endsBad s.rows ↔ (emptyS (s.rows[0]'(by omega)) = true ∨ emptyS (s.rows[((s.rows.length : Int) - 1).toNat]'(by omega)) = true) := by
    have e : ((s.rows.length : Int) - 1).toNat = s.rows.length - 1 := by omega
    unfold endsBad
    simp only [e]
    exact ⟨fun ⟨_, h⟩ => h, fun h => ⟨by omega, h⟩⟩
  cases he0 : emptyS (s.rows[0]'(by omega)) with
  | true =>
    rw [show emptyS ((s.rows[0]'(by omega)).1, (s.rows[0]'(by omega)).2) = true from he0] at hc0
    repeat' (first
 | ((with_reducible apply (r_index_f (k := 0))); exact rfl; exact inferInstance; exact rfl; exact rfl; (omega); exact rfl)
 | ((with_reducible apply r_call); exact rfl; exact rfl; exact hc0; exact rfl; exact rfl)
 | ((with_reducible apply aw_seq))
 | ((with_reducible apply aw_region))
 | ((with_reducible apply thn_normal))
 | ((with_reducible apply thn_ret))
 | ((with_reducible apply thn_exit))
 | ((with_reducible apply inb_exit))
 | ((with_reducible apply aw_skip))
 | ((with_reducible apply aw_exit))
 | ((with_reducible apply aw_ret))
 | ((with_reducible apply ao_nil))
 | ((with_reducible apply r_move); exact rfl; exact rfl)
 | ((with_reducible apply r_assign); exact rfl; exact rfl)
 | ((with_reducible apply r_field_p); exact rfl; exact rfl)
 | ((with_reducible apply r_load_p); exact rfl; exact rfl; exact rfl; exact rfl)
 | ((with_reducible apply r_lss); exact rfl; exact rfl; exact rfl)
 | ((with_reducible apply r_eql); exact rfl; exact rfl; exact rfl)
 | ((with_reducible apply r_pick_t); exact rfl; exact rfl; exact rfl)
 | ((with_reducible apply r_load_fa0); exact rfl; exact inferInstance; exact List.getElem?_eq_getElem (by first | assumption | omega); exact rfl; exact rfl; exact rfl)
 | (((with_reducible apply r_guard); exact rfl; exact rfl; exact rfl; exact rfl) <;> intro hg <;> (first | (exact absurd hg (by decide)) | ((try simp only [decide_eq_true_eq, decide_eq_false_iff_not, Bool.not_eq_true', Bool.not_eq_false', Bool.not_true, Bool.not_false, Bool.not_not, Int.not_lt, Int.not_le, Nat.not_lt, Nat.not_le, gt_iff_lt, ge_iff_le, List.cons.injEq, and_true] at hg); first | (exact absurd trivial hg) | (exfalso; omega) | (have hT : True := hg; clear hT hg) | skip)))
 | (((with_reducible apply aw_cond); exact rfl) <;> intro hg <;> (first | (exact absurd hg (by decide)) | ((try simp only [decide_eq_true_eq, decide_eq_false_iff_not, Bool.not_eq_true', Bool.not_eq_false', Bool.not_true, Bool.not_false, Bool.not_not, Int.not_lt, Int.not_le, Nat.not_lt, Nat.not_le, gt_iff_lt, ge_iff_le, List.cons.injEq, and_true] at hg); first | (exact absurd trivial hg) | (exfalso; omega) | (have hT : True := hg; clear hT hg) | skip)))
 )
    exact ret_i rfl (sc_ends r h0 (hbad.2 (.inl he0)))
  | false =>
  rw [show emptyS ((s.rows[0]'(by omega)).1, (s.rows[0]'(by omega)).2) = false from he0] at hc0
  cases he1 : emptyS (s.rows[((s.rows.length : Int) - 1).toNat]'(by omega)) with
  | true =>
    rw [show emptyS ((s.rows[((s.rows.length : Int) - 1).toNat]'(by omega)).1, (s.rows[((s.rows.length : Int) - 1).toNat]'(by omega)).2) = true from he1] at hc1
    repeat' (first
 | ((with_reducible apply (r_index_f (k := 0))); exact rfl; exact inferInstance; exact rfl; exact rfl; (omega); exact rfl)
 | ((with_reducible apply r_call); exact rfl; exact rfl; (first | exact hc0 | exact hc1); exact rfl; exact rfl)
 | ((with_reducible apply aw_seq))
 | ((with_reducible apply aw_region))
 | ((with_reducible apply thn_normal))
 | ((with_reducible apply thn_ret))
 | ((with_reducible apply thn_exit))
 | ((with_reducible apply inb_exit))
 | ((with_reducible apply aw_skip))
 | ((with_reducible apply aw_exit))
 | ((with_reducible apply aw_ret))
 | ((with_reducible apply ao_nil))
 | ((with_reducible apply r_move); exact rfl; exact rfl)
 | ((with_reducible apply r_assign); exact rfl; exact rfl)
 | ((with_reducible apply r_field_p); exact rfl; exact rfl)
 | ((with_reducible apply r_load_p); exact rfl; exact rfl; exact rfl; exact rfl)
 | ((with_reducible apply r_lss); exact rfl; exact rfl; exact rfl)
 | ((with_reducible apply r_eql); exact rfl; exact rfl; exact rfl)
 | ((with_reducible apply r_sub); exact rfl; exact rfl; exact (by first | assumption | (unfold fits; omega)); exact rfl)
 | ((with_reducible apply r_pick_f); exact rfl; exact rfl; exact rfl)
 | ((with_reducible apply r_index_f); exact rfl; exact inferInstance; exact rfl; exact (Int.toNat_of_nonneg (by omega)).symm; (first | assumption | omega); exact rfl)
 | ((with_reducible apply r_load_fa0); exact rfl; exact inferInstance; exact List.getElem?_eq_getElem (by first | assumption | omega); exact rfl; exact rfl; exact rfl)
 | (((with_reducible apply r_guard); exact rfl; exact rfl; exact rfl; exact rfl) <;> intro hg <;> (first | (exact absurd hg (by decide)) | ((try simp only [decide_eq_true_eq, decide_eq_false_iff_not, Bool.not_eq_true', Bool.not_eq_false', Bool.not_true, Bool.not_false, Bool.not_not, Int.not_lt, Int.not_le, Nat.not_lt, Nat.not_le, gt_iff_lt, ge_iff_le, List.cons.injEq, and_true] at hg); first | (exact absurd trivial hg) | (exfalso; omega) | (have hT : True := hg; clear hT hg) | skip)))
 | (((with_reducible apply aw_cond); exact rfl) <;> intro hg <;> (first | (exact absurd hg (by decide)) | ((try simp only [decide_eq_true_eq, decide_eq_false_iff_not, Bool.not_eq_true', Bool.not_eq_false', Bool.not_true, Bool.not_false, Bool.not_not, Int.not_lt, Int.not_le, Nat.not_lt, Nat.not_le, gt_iff_lt, ge_iff_le, List.cons.injEq, and_true] at hg); first | (exact absurd trivial hg) | (exfalso; omega) | (have hT : True := hg; clear hT hg) | skip)))
 )
    exact ret_i rfl (sc_ends r h0 (hbad.2 (.inr he1)))
  | false =>
  rw [show emptyS ((s.rows[((s.rows.length : Int) - 1).toNat]'(by omega)).1, (s.rows[((s.rows.length : Int) - 1).toNat]'(by omega)).2) = false from he1] at hc1
  have hnb : ¬ endsBad s.rows := fun hh => by rcases hbad.1 hh with h | h <;> simp_all
  repeat' (first
 | ((with_reducible apply (r_index_f (k := 0))); exact rfl; exact inferInstance; exact rfl; exact rfl; (omega); exact rfl)
 | ((with_reducible apply r_call); exact rfl; exact rfl; (first | exact hc0 | exact hc1); exact rfl; exact rfl)
 | ((with_reducible apply aw_seq))
 | ((with_reducible apply aw_region))
 | ((with_reducible apply aw_block))
 | ((with_reducible apply thn_normal))
 | ((with_reducible apply thn_exit))
 | ((with_reducible apply inb_exit))
 | ((with_reducible apply aw_skip))
 | ((with_reducible apply aw_exit))
 | ((with_reducible apply ao_nil))
 | ((with_reducible apply r_move); exact rfl; exact rfl)
 | ((with_reducible apply r_assign); exact rfl; exact rfl)
 | ((with_reducible apply r_field_p); exact rfl; exact rfl)
 | ((with_reducible apply r_load_p); exact rfl; exact rfl; exact rfl; exact rfl)
 | ((with_reducible apply r_lss); exact rfl; exact rfl; exact rfl)
 | ((with_reducible apply r_eql); exact rfl; exact rfl; exact rfl)
 | ((with_reducible apply r_sub); exact rfl; exact rfl; exact (by first | assumption | (unfold fits; omega)); exact rfl)
 | ((with_reducible apply r_pick_f); exact rfl; exact rfl; exact rfl)
 | ((with_reducible apply r_index_f); exact rfl; exact inferInstance; exact rfl; exact (Int.toNat_of_nonneg (by omega)).symm; (first | assumption | omega); exact rfl)
 | ((with_reducible apply r_load_fa0); exact rfl; exact inferInstance; exact List.getElem?_eq_getElem (by first | assumption | omega); exact rfl; exact rfl; exact rfl)
 | (((with_reducible apply r_guard); exact rfl; exact rfl; exact rfl; exact rfl) <;> intro hg <;> (first | (exact absurd hg (by decide)) | ((try simp only [decide_eq_true_eq, decide_eq_false_iff_not, Bool.not_eq_true', Bool.not_eq_false', Bool.not_true, Bool.not_false, Bool.not_not, Int.not_lt, Int.not_le, Nat.not_lt, Nat.not_le, gt_iff_lt, ge_iff_le, List.cons.injEq, and_true] at hg); first | (exact absurd trivial hg) | (exfalso; omega) | (have hT : True := hg; clear hT hg) | skip)))
 | (((with_reducible apply aw_cond); exact rfl) <;> intro hg <;> (first | (exact absurd hg (by decide)) | ((try simp only [decide_eq_true_eq, decide_eq_false_iff_not, Bool.not_eq_true', Bool.not_eq_false', Bool.not_true, Bool.not_false, Bool.not_not, Int.not_lt, Int.not_le, Nat.not_lt, Nat.not_le, gt_iff_lt, ge_iff_le, List.cons.injEq, and_true] at hg); first | (exact absurd trivial hg) | (exfalso; omega) | (have hT : True := hg; clear hT hg) | skip)))
 )
  clear hall
  refine aw_loopG (G := Nat) (fun (q : Nat) => q ≤ s.rows.length ∧ ∀ i (h : i < s.rows.length), i < q → okRow s.rows[i] = true) (fun (q : Nat) => s.rows.length - q) (fun (q : Nat) => [(1, .ptr 0 0), (3, A s.rows.length), (5, A q)]) (fun (q : Nat) => [(0, some (secB s))]) 1 0 ?_ (by refine weak_mk rfl ?_ ?_ <;> repeat (first | exact envW_nil | exact heapW_nil | refine envW_cons rfl rfl ?_ | refine heapW_cons rfl rfl rfl ?_)) rfl ?_
  · exact ⟨Nat.zero_le _, fun _ _ h => absurd h (Nat.not_lt_zero _)⟩
  rintro q hI
  try dsimp only at hI
  try dsimp only
  obtain ⟨hq, hall⟩ := hI
  by_cases hql : q < s.rows.length
  · have hc := empty_con (gl := gl) s.rows[q].1 s.rows[q].2
    cases he : emptyS s.rows[q] with
    | false =>
      rw [show emptyS (s.rows[q].1, s.rows[q].2) = false from he] at hc
      repeat' (first
 | ((with_reducible apply r_call); exact rfl; exact rfl; exact hc; exact rfl; exact rfl)
 | ((with_reducible apply aw_seq))
 | ((with_reducible apply aw_region))
 | ((with_reducible apply aw_block))
 | ((with_reducible apply thn_normal))
 | ((with_reducible apply inb_normal))
 | ((with_reducible apply aw_skip))
 | ((with_reducible apply ao_nil))
 | ((with_reducible apply r_move); exact rfl; exact rfl)
 | ((with_reducible apply r_assign); exact rfl; exact rfl)
 | ((with_reducible apply r_field_p); exact rfl; exact rfl)
 | ((with_reducible apply r_load_p); exact rfl; exact rfl; exact rfl; exact rfl)
 | ((with_reducible apply r_lss); exact rfl; exact rfl; exact rfl)
 | ((with_reducible apply r_add); exact rfl; exact rfl; exact (by first | assumption | (unfold fits; omega)); exact rfl)
 | ((with_reducible apply r_pick_f); exact rfl; exact rfl; exact rfl)
 | ((with_reducible apply r_index_f); exact rfl; exact inferInstance; exact rfl; exact rfl; (first | assumption | omega); exact rfl)
 | ((with_reducible apply r_load_fa0); exact rfl; exact inferInstance; exact List.getElem?_eq_getElem (by first | assumption | omega); exact rfl; exact rfl; exact rfl)
 | (((with_reducible apply r_guard); exact rfl; exact rfl; exact rfl; exact rfl) <;> intro hg <;> (first | (exact absurd hg (by decide)) | ((try simp only [decide_eq_true_eq, decide_eq_false_iff_not, Bool.not_eq_true', Bool.not_eq_false', Bool.not_true, Bool.not_false, Bool.not_not, Int.not_lt, Int.not_le, Nat.not_lt, Nat.not_le, gt_iff_lt, ge_iff_le, List.cons.injEq, and_true] at hg); first | (exact absurd trivial hg) | (exfalso; omega) | (have hT : True := hg; clear hT hg) | skip)))
 | (((with_reducible apply aw_cond); exact rfl) <;> intro hg <;> (first | (exact absurd hg (by decide)) | ((try simp only [decide_eq_true_eq, decide_eq_false_iff_not, Bool.not_eq_true', Bool.not_eq_false', Bool.not_true, Bool.not_false, Bool.not_not, Int.not_lt, Int.not_le, Nat.not_lt, Nat.not_le, gt_iff_lt, ge_iff_le, List.cons.injEq, and_true] at hg); first | (exact absurd trivial hg) | (exfalso; omega) | (have hT : True := hg; clear hT hg) | skip)))
 )
      refine ⟨q + 1, ?_, ?_, by refine weak_mk rfl ?_ ?_ <;> repeat (first | exact envW_nil | exact heapW_nil | refine envW_cons rfl rfl ?_ | refine heapW_cons rfl rfl rfl ?_)⟩
      · show _ - (q + 1) < _ - q; omega
      · exact ⟨by show q + 1 ≤ _; omega, step_all hql hall (by unfold okRow; rw [he]; rfl)⟩
    | true =>
      rw [show emptyS (s.rows[q].1, s.rows[q].2) = true from he] at hc
      by_cases hz : s.rows[q].1 = 0 ∧ s.rows[q].2 = 0
      · obtain ⟨z1, z2⟩ := hz
        repeat' (first
 | ((with_reducible apply r_call); exact rfl; exact rfl; exact hc; exact rfl; exact rfl)
 | ((with_reducible apply aw_seq))
 | ((with_reducible apply aw_region))
 | ((with_reducible apply aw_block))
 | ((with_reducible apply thn_normal))
 | ((with_reducible apply inb_normal))
 | ((with_reducible apply aw_skip))
 | ((with_reducible apply ao_nil))
 | ((with_reducible apply r_move); exact rfl; exact rfl)
 | ((with_reducible apply r_assign); exact rfl; exact rfl)
 | ((with_reducible apply r_field_p); exact rfl; exact rfl)
 | ((with_reducible apply r_load_p); exact rfl; exact rfl; exact rfl; exact rfl)
 | ((with_reducible apply r_lss); exact rfl; exact rfl; exact rfl)
 | ((with_reducible apply r_add); exact rfl; exact rfl; exact (by first | assumption | (unfold fits; omega)); exact rfl)
 | ((with_reducible apply r_pick_t); exact rfl; exact rfl; exact rfl)
 | ((with_reducible apply r_index_f); exact rfl; exact inferInstance; exact rfl; exact rfl; (first | assumption | omega); exact rfl)
 | ((with_reducible apply r_load_fa0); exact rfl; exact inferInstance; exact List.getElem?_eq_getElem (by first | assumption | omega); exact rfl; exact rfl; exact rfl)
 | ((with_reducible apply r_build); exact rfl; exact rfl; exact rfl)
 | (((with_reducible apply r_guard); exact rfl; exact rfl; exact rfl; exact rfl) <;> intro hg <;> (first | (exact absurd hg (by decide)) | ((try simp only [decide_eq_true_eq, decide_eq_false_iff_not, Bool.not_eq_true', Bool.not_eq_false', Bool.not_true, Bool.not_false, Bool.not_not, Int.not_lt, Int.not_le, Nat.not_lt, Nat.not_le, gt_iff_lt, ge_iff_le, List.cons.injEq, and_true] at hg); first | (exact absurd trivial hg) | (exfalso; omega) | (have hT : True := hg; clear hT hg) | skip)))
 | (((with_reducible apply aw_cond); exact rfl) <;> intro hg <;> (first | (exact absurd hg (by decide)) | ((try simp only [decide_eq_true_eq, decide_eq_false_iff_not, Bool.not_eq_true', Bool.not_eq_false', Bool.not_true, Bool.not_false, Bool.not_not, Int.not_lt, Int.not_le, Nat.not_lt, Nat.not_le, gt_iff_lt, ge_iff_le, List.cons.injEq, and_true] at hg); first | (exact absurd trivial hg) | (exfalso; omega) | (have hT : True := hg; clear hT hg) | skip)))
 | ((with_reducible apply r_neqs); exact rfl; exact rfl; exact rfl; exact rfl; exact rfl; exact rfl; exact rfl)
 )
        refine ⟨q + 1, ?_, ?_, by refine weak_mk rfl ?_ ?_ <;> repeat (first | exact envW_nil | exact heapW_nil | refine envW_cons rfl rfl ?_ | refine heapW_cons rfl rfl rfl ?_)⟩
        · show _ - (q + 1) < _ - q; omega
        · exact ⟨by show q + 1 ≤ _; omega, step_all hql hall (by unfold okRow; rw [he, decide_eq_true ⟨z1, z2⟩]; rfl)⟩
      · skip
        repeat' (first
 | ((with_reducible apply r_call); exact rfl; exact rfl; exact hc; exact rfl; exact rfl)
 | ((with_reducible apply aw_seq))
 | ((with_reducible apply aw_region))
 | ((with_reducible apply aw_block))
 | ((with_reducible apply thn_normal))
 | ((with_reducible apply thn_ret))
 | ((with_reducible apply inb_ret))
 | ((with_reducible apply aw_skip))
 | ((with_reducible apply aw_ret))
 | ((with_reducible apply ao_nil))
 | ((with_reducible apply r_move); exact rfl; exact rfl)
 | ((with_reducible apply r_assign); exact rfl; exact rfl)
 | ((with_reducible apply r_field_p); exact rfl; exact rfl)
 | ((with_reducible apply r_load_p); exact rfl; exact rfl; exact rfl; exact rfl)
 | ((with_reducible apply r_lss); exact rfl; exact rfl; exact rfl)
 | ((with_reducible apply r_pick_t); exact rfl; exact rfl; exact rfl)
 | ((with_reducible apply r_index_f); exact rfl; exact inferInstance; exact rfl; exact rfl; (first | assumption | omega); exact rfl)
 | ((with_reducible apply r_load_fa0); exact rfl; exact inferInstance; exact List.getElem?_eq_getElem (by first | assumption | omega); exact rfl; exact rfl; exact rfl)
 | ((with_reducible apply r_build); exact rfl; exact rfl; exact rfl)
 | (((with_reducible apply r_guard); exact rfl; exact rfl; exact rfl; exact rfl) <;> intro hg <;> (first | (exact absurd hg (by decide)) | ((try simp only [decide_eq_true_eq, decide_eq_false_iff_not, Bool.not_eq_true', Bool.not_eq_false', Bool.not_true, Bool.not_false, Bool.not_not, Int.not_lt, Int.not_le, Nat.not_lt, Nat.not_le, gt_iff_lt, ge_iff_le, List.cons.injEq, and_true] at hg); first | (exact absurd trivial hg) | (exfalso; omega) | (have hT : True := hg; clear hT hg) | skip)))
 | (((with_reducible apply aw_cond); exact rfl) <;> intro hg <;> (first | (exact absurd hg (by decide)) | ((try simp only [decide_eq_true_eq, decide_eq_false_iff_not, Bool.not_eq_true', Bool.not_eq_false', Bool.not_true, Bool.not_false, Bool.not_not, Int.not_lt, Int.not_le, Nat.not_lt, Nat.not_le, gt_iff_lt, ge_iff_le, List.cons.injEq, and_true] at hg); first | (exact absurd trivial hg) | (exfalso; omega) | (have hT : True := hg; clear hT hg) | skip)))
 | ((with_reducible apply r_neqs); exact rfl; exact rfl; exact rfl; exact rfl; exact rfl; exact rfl; exact rfl)
 )
        exact ret_i rfl (sc_row r h0 hnb hql (by unfold okRow; rw [he, decide_eq_false hz]; rfl))
  · skip
    repeat' (first
 | ((with_reducible apply aw_seq))
 | ((with_reducible apply aw_region))
 | ((with_reducible apply thn_normal))
 | ((with_reducible apply thn_exit))
 | ((with_reducible apply inb_exit))
 | ((with_reducible apply aw_exit))
 | ((with_reducible apply aw_ret))
 | ((with_reducible apply ao_nil))
 | ((with_reducible apply r_move); exact rfl; exact rfl)
 | ((with_reducible apply r_assign); exact rfl; exact rfl)
 | ((with_reducible apply r_lss); exact rfl; exact rfl; exact rfl)
 | (((with_reducible apply aw_cond); exact rfl) <;> intro hg <;> (first | (exact absurd hg (by decide)) | ((try simp only [decide_eq_true_eq, decide_eq_false_iff_not, Bool.not_eq_true', Bool.not_eq_false', Bool.not_true, Bool.not_false, Bool.not_not, Int.not_lt, Int.not_le, Nat.not_lt, Nat.not_le, gt_iff_lt, ge_iff_le, List.cons.injEq, and_true] at hg); first | (exact absurd trivial hg) | (exfalso; omega) | (have hT : True := hg; clear hT hg) | skip)))
 )
    exact ret_i rfl (sc_ok r h0 hnb (fun i hi => hall i hi (by omega)))
end Go.Proofs.YtkhljpbkebnnmaaGreatDoor.Ge
/- Walks of geometry: Len, Meet of spans; valid, Area, Within of sections in both. -/
namespace Go.Proofs.YtkhljpbkebnnmaaGreatDoor.Ge
set_option linter.unusedVariables false
set_option linter.unusedSimpArgs false
open Go.RowKit Go.Proofs.YtkhljpbkebnnmaaGreatDoor.Ev
variable {gl : List (Nat × List CV)}
def wid (s : Span) : Int := max 0 (s.2 - s.1)
def meetS (a b : Span) : Span := if min a.2 b.2 ≤ max a.1 b.1 then (0, 0) else (max a.1 b.1, min a.2 b.2)
def ov (a b : Span) : Int := max 0 (min a.2 b.2 - max a.1 b.1)
theorem wid_meet (a b : Span) : wid (meetS a b) = ov a b := by
  unfold wid meetS ov
  split
  · show max 0 (0 - 0 : Int) = _; omega
  · rfl
theorem u64_wrap (n : Int) : IntKind.u64.wrap n = n % 18446744073709551616 := by simp [IntKind.wrap, IntKind.bits, IntKind.signed]
theorem size_con (a b : Int) (h : fits a ∧ fits b) : Con Tryz.prog gl 100 [.agg [I a, I b]] (.v (.int .u64 (wid (a, b)))) := by
  have h' := h
  unfold fits at h'
  refine con_of Tryz.func100 rfl (by kernel_rfl) rfl ?_
  simp only [Tryz.ntmps100, Tryz.results100, argEnv, ofC, of1, List.map]
  repeat' (first
 | ((with_reducible apply r_conv); exact rfl; exact rfl; exact rfl)
 | ((with_reducible apply r_sub_w); exact rfl; exact rfl; exact rfl)
 | ((with_reducible apply aw_seq))
 | ((with_reducible apply aw_region))
 | ((with_reducible apply thn_normal))
 | ((with_reducible apply thn_ret))
 | ((with_reducible apply aw_skip))
 | ((with_reducible apply aw_ret))
 | ((with_reducible apply ao_nil))
 | ((with_reducible apply r_assign); exact rfl; exact rfl)
 | ((with_reducible apply r_field_p); exact rfl; exact rfl)
 | ((with_reducible apply r_load_p); exact rfl; exact rfl; exact rfl; exact rfl)
 | ((with_reducible apply r_geq); exact rfl; exact rfl; exact rfl)
 | ((with_reducible apply r_box_a); exact rfl; exact rfl)
 | (((with_reducible apply aw_cond); exact rfl) <;> intro hg <;> (first | (exact absurd hg (by decide)) | ((try simp only [decide_eq_true_eq, decide_eq_false_iff_not, Bool.not_eq_true', Bool.not_eq_false', Bool.not_true, Bool.not_false, Bool.not_not, Int.not_lt, Int.not_le, Nat.not_lt, Nat.not_le, gt_iff_lt, ge_iff_le, List.cons.injEq, and_true] at hg); first | (exact absurd trivial hg) | (exfalso; omega) | (have hT : True := hg; clear hT hg) | skip)))
 )
  · exact ret_i rfl (by unfold wid; dsimp only; omega)
  · exact ret_i rfl (by rw [u64_wrap, u64_wrap, u64_wrap]; unfold wid; dsimp only; omega)
theorem limited_con (n : Int) (h : 0 ≤ n ∧ n ≤ 9223372036854775807) : Con Tryz.prog gl 99 [.v (.int .u64 n)] (I n) := by
  refine con_of Tryz.func99 rfl (by kernel_rfl) rfl ?_
  simp only [Tryz.ntmps99, Tryz.results99, argEnv, ofC, of1, List.map]
  repeat' (first
 | ((with_reducible apply r_conv); exact rfl; exact rfl; exact rfl)
 | ((with_reducible apply aw_seq))
 | ((with_reducible apply aw_region))
 | ((with_reducible apply thn_normal))
 | ((with_reducible apply aw_ret))
 | ((with_reducible apply ao_nil))
 | ((with_reducible apply r_move); exact rfl; exact rfl)
 | ((with_reducible apply r_assign); exact rfl; exact rfl)
 | ((with_reducible apply r_min); exact rfl; exact rfl; exact rfl)
 )
  exact ret_i rfl (by rw [show min n 9223372036854775807 = n by omega]; simp [IntKind.wrap, IntKind.bits, IntKind.signed]; omega)
theorem len_con (a b : Int) (h : fits a ∧ fits b) (h2 : b - a ≤ 9223372036854775807) : Con Tryz.prog gl 77 [.agg [I a, I b]] (I (wid (a, b))) := by
  refine con_of Tryz.func77 rfl (by kernel_rfl) rfl ?_
  simp only [Tryz.ntmps77, Tryz.results77, argEnv, ofC, of1, List.map]
  repeat' (first
 | ((with_reducible apply r_call); exact rfl; exact rfl; (first | exact size_con a b h | exact limited_con _ (by unfold wid; dsimp only; omega)); exact rfl; exact rfl)
 | ((with_reducible apply aw_seq))
 | ((with_reducible apply aw_region))
 | ((with_reducible apply thn_normal))
 | ((with_reducible apply aw_ret))
 | ((with_reducible apply ao_nil))
 | ((with_reducible apply r_assign); exact rfl; exact rfl)
 | ((with_reducible apply r_load_pa); exact rfl; exact rfl; exact rfl; exact rfl; exact rfl)
 | ((with_reducible apply r_box_a); exact rfl; exact rfl)
 )
  exact ret_i rfl rfl
theorem meet_con (a b c d : Int) : Con Tryz.prog gl 78 [.agg [I a, I b], .agg [I c, I d]] (spV (meetS (a, b) (c, d))) := by
  by_cases h : min b d ≤ max a c
  · have e : meetS (a, b) (c, d) = (0, 0) := if_pos h
    rw [e]
    refine con_of Tryz.func78 rfl (by kernel_rfl) rfl ?_
    simp only [Tryz.ntmps78, Tryz.results78, argEnv, ofC, of1, List.map]
    repeat' (first
 | ((with_reducible apply aw_seq))
 | ((with_reducible apply aw_region))
 | ((with_reducible apply thn_normal))
 | ((with_reducible apply thn_ret))
 | ((with_reducible apply aw_ret))
 | ((with_reducible apply ao_nil))
 | ((with_reducible apply r_field_p); exact rfl; exact rfl)
 | ((with_reducible apply r_load_p); exact rfl; exact rfl; exact rfl; exact rfl)
 | ((with_reducible apply r_geq); exact rfl; exact rfl; exact rfl)
 | ((with_reducible apply r_max); exact rfl; exact rfl; exact rfl)
 | ((with_reducible apply r_min); exact rfl; exact rfl; exact rfl)
 | ((with_reducible apply r_box_a); exact rfl; exact rfl)
 | ((with_reducible apply r_store_pa); exact rfl; exact rfl; exact rfl; exact rfl; exact rfl; exact rfl)
 | ((with_reducible apply r_build); exact rfl; exact rfl; exact rfl)
 | ((with_reducible apply r_alloc); exact rfl)
 | (((with_reducible apply aw_cond); exact rfl) <;> intro hg <;> (first | (exact absurd hg (by decide)) | ((try simp only [decide_eq_true_eq, decide_eq_false_iff_not, Bool.not_eq_true', Bool.not_eq_false', Bool.not_true, Bool.not_false, Bool.not_not, Int.not_lt, Int.not_le, Nat.not_lt, Nat.not_le, gt_iff_lt, ge_iff_le, List.cons.injEq, and_true] at hg); first | (exact absurd trivial hg) | (exfalso; omega) | (have hT : True := hg; clear hT hg) | skip)))
 )
    exact ret1 (.cell_a inferInstance rfl rfl rfl rfl (cl_cons cl_c (cl_cons cl_c cl_nil)))
  · have e : meetS (a, b) (c, d) = (max a c, min b d) := if_neg h
    rw [e]
    refine con_of Tryz.func78 rfl (by kernel_rfl) rfl ?_
    simp only [Tryz.ntmps78, Tryz.results78, argEnv, ofC, of1, List.map]
    repeat' (first
 | ((with_reducible apply aw_seq))
 | ((with_reducible apply aw_region))
 | ((with_reducible apply thn_normal))
 | ((with_reducible apply aw_skip))
 | ((with_reducible apply aw_ret))
 | ((with_reducible apply ao_nil))
 | ((with_reducible apply r_field_p); exact rfl; exact rfl)
 | ((with_reducible apply r_load_p); exact rfl; exact rfl; exact rfl; exact rfl)
 | ((with_reducible apply r_load_pa); exact rfl; exact rfl; exact rfl; exact rfl; exact rfl)
 | ((with_reducible apply r_geq); exact rfl; exact rfl; exact rfl)
 | ((with_reducible apply r_max); exact rfl; exact rfl; exact rfl)
 | ((with_reducible apply r_min); exact rfl; exact rfl; exact rfl)
 | ((with_reducible apply r_box_a); exact rfl; exact rfl)
 | ((with_reducible apply r_store_pa); exact rfl; exact rfl; exact rfl; exact rfl; exact rfl; exact rfl)
 | ((with_reducible apply r_build); exact rfl; exact rfl; exact rfl)
 | ((with_reducible apply r_alloc); exact rfl)
 | (((with_reducible apply aw_cond); exact rfl) <;> intro hg <;> (first | (exact absurd hg (by decide)) | ((try simp only [decide_eq_true_eq, decide_eq_false_iff_not, Bool.not_eq_true', Bool.not_eq_false', Bool.not_true, Bool.not_false, Bool.not_not, Int.not_lt, Int.not_le, Nat.not_lt, Nat.not_le, gt_iff_lt, ge_iff_le, List.cons.injEq, and_true] at hg); first | (exact absurd trivial hg) | (exfalso; omega) | (have hT : True := hg; clear hT hg) | skip)))
 )
    exact ret1 (.cell_a inferInstance rfl rfl rfl rfl (cl_cons cl_c (cl_cons cl_c cl_nil)))
theorem heights_con (a b : Int) (h : -100000 ≤ a ∧ a ≤ 100000 ∧ -100000 ≤ b ∧ b ≤ 100000) : Con Tryz.prog gl 130 [I a, I b] (spV (10 * a, 10 * b)) := by
  refine con_of Tryz.func130 rfl (by kernel_rfl) rfl ?_
  simp only [Tryz.ntmps130, Tryz.results130, argEnv, ofC, of1, List.map]
  repeat' (first
 | ((with_reducible apply aw_seq))
 | ((with_reducible apply aw_region))
 | ((with_reducible apply thn_normal))
 | ((with_reducible apply aw_ret))
 | ((with_reducible apply ao_nil))
 | ((with_reducible apply r_move); exact rfl; exact rfl)
 | ((with_reducible apply r_mul); exact rfl; exact rfl; exact (by first | assumption | (unfold fits; omega)); exact rfl)
 | ((with_reducible apply r_store_pa); exact rfl; exact rfl; exact rfl; exact rfl; exact rfl; exact rfl)
 | ((with_reducible apply r_build); exact rfl; exact rfl; exact rfl)
 | ((with_reducible apply r_alloc); exact rfl)
 )
  exact ret1 (.cell_a inferInstance rfl rfl rfl rfl (cl_cons cl_c (cl_cons cl_c cl_nil)))
noncomputable def valS (s : Sec) : Sec := open Classical in if secChk s = 0 then s else sec0
theorem valS_ok {s : Sec} (h : secChk s = 0) : valS s = s := by unfold valS; rw [if_pos h]
theorem valS_no {s : Sec} (h : ¬ secChk s = 0) : valS s = sec0 := by unfold valS; rw [if_neg h]
theorem valid_con (s : Sec) : Con Tryz.prog gl 108 [secC s] (secC (valS s)) := by
  by_cases h : secChk s = 0
  · rw [valS_ok h]
    refine con_of Tryz.func108 rfl (by kernel_rfl) rfl ?_
    simp only [Tryz.ntmps108, Tryz.results108, argEnv, ofC, of1, List.map]
    repeat' (first
 | ((with_reducible apply r_call); exact rfl; exact rfl; exact check_con s; exact rfl; exact rfl)
 | ((with_reducible apply aw_seq))
 | ((with_reducible apply aw_region))
 | ((with_reducible apply thn_normal))
 | ((with_reducible apply aw_skip))
 | ((with_reducible apply aw_ret))
 | ((with_reducible apply ao_nil))
 | ((with_reducible apply r_load_pa); exact rfl; exact rfl; exact rfl; exact rfl; exact rfl)
 | ((with_reducible apply r_neq); exact rfl; exact rfl; exact rfl)
 | ((with_reducible apply r_box_a); exact rfl; exact rfl)
 | ((with_reducible apply r_store_pa); exact rfl; exact rfl; exact rfl; exact rfl; exact rfl; exact rfl)
 | ((with_reducible apply r_alloc); exact rfl)
 | (((with_reducible apply aw_cond); exact rfl) <;> intro hg <;> (first | (exact absurd hg (by decide)) | ((try simp only [decide_eq_true_eq, decide_eq_false_iff_not, Bool.not_eq_true', Bool.not_eq_false', Bool.not_true, Bool.not_false, Bool.not_not, Int.not_lt, Int.not_le, Nat.not_lt, Nat.not_le, gt_iff_lt, ge_iff_le, List.cons.injEq, and_true] at hg); first | (exact absurd trivial hg) | (exfalso; omega) | (have hT : True := hg; clear hT hg) | skip)))
 )
    exact ret1 (.cell_a inferInstance rfl rfl rfl rfl (cl_cons cl_c (cl_cons cl_c cl_nil)))
  · rw [valS_no h]
    refine con_of Tryz.func108 rfl (by kernel_rfl) rfl ?_
    simp only [Tryz.ntmps108, Tryz.results108, argEnv, ofC, of1, List.map]
    repeat' (first
 | ((with_reducible apply r_call); exact rfl; exact rfl; exact check_con s; exact rfl; exact rfl)
 | ((with_reducible apply aw_seq))
 | ((with_reducible apply aw_region))
 | ((with_reducible apply thn_normal))
 | ((with_reducible apply thn_ret))
 | ((with_reducible apply aw_ret))
 | ((with_reducible apply ao_nil))
 | ((with_reducible apply r_load_pa); exact rfl; exact rfl; exact rfl; exact rfl; exact rfl)
 | ((with_reducible apply r_neq); exact rfl; exact rfl; exact rfl)
 | ((with_reducible apply r_box_a); exact rfl; exact rfl)
 | ((with_reducible apply r_store_pa); exact rfl; exact rfl; exact rfl; exact rfl; exact rfl; exact rfl)
 | ((with_reducible apply r_build); exact rfl; exact rfl; exact rfl)
 | ((with_reducible apply r_alloc); exact rfl)
 | (((with_reducible apply aw_cond); exact rfl) <;> intro hg <;> (first | (exact absurd hg (by decide)) | ((try simp only [decide_eq_true_eq, decide_eq_false_iff_not, Bool.not_eq_true', Bool.not_eq_false', Bool.not_true, Bool.not_false, Bool.not_not, Int.not_lt, Int.not_le, Nat.not_lt, Nat.not_le, gt_iff_lt, ge_iff_le, List.cons.injEq, and_true] at hg); first | (exact absurd trivial hg) | (exfalso; omega) | (have hT : True := hg; clear hT hg) | skip)))
 )
    exact ret1 (.cell_a inferInstance rfl rfl rfl rfl (cl_cons cl_c (cl_cons cl_none cl_nil)))
theorem rvalid_con (s : Sec) : Con Tryz.prog gl 115 [secC s] (secC (valS s)) := by
  by_cases h : secChk s = 0
  · rw [valS_ok h]
    refine con_of Tryz.func115 rfl (by kernel_rfl) rfl ?_
    simp only [Tryz.ntmps115, Tryz.results115, argEnv, ofC, of1, List.map]
    repeat' (first
 | ((with_reducible apply r_call); exact rfl; exact rfl; exact rcheck_con s; exact rfl; exact rfl)
 | ((with_reducible apply aw_seq))
 | ((with_reducible apply aw_region))
 | ((with_reducible apply thn_normal))
 | ((with_reducible apply aw_skip))
 | ((with_reducible apply aw_ret))
 | ((with_reducible apply ao_nil))
 | ((with_reducible apply r_load_pa); exact rfl; exact rfl; exact rfl; exact rfl; exact rfl)
 | ((with_reducible apply r_neq); exact rfl; exact rfl; exact rfl)
 | ((with_reducible apply r_box_a); exact rfl; exact rfl)
 | ((with_reducible apply r_store_pa); exact rfl; exact rfl; exact rfl; exact rfl; exact rfl; exact rfl)
 | ((with_reducible apply r_alloc); exact rfl)
 | (((with_reducible apply aw_cond); exact rfl) <;> intro hg <;> (first | (exact absurd hg (by decide)) | ((try simp only [decide_eq_true_eq, decide_eq_false_iff_not, Bool.not_eq_true', Bool.not_eq_false', Bool.not_true, Bool.not_false, Bool.not_not, Int.not_lt, Int.not_le, Nat.not_lt, Nat.not_le, gt_iff_lt, ge_iff_le, List.cons.injEq, and_true] at hg); first | (exact absurd trivial hg) | (exfalso; omega) | (have hT : True := hg; clear hT hg) | skip)))
 )
    exact ret1 (.cell_a inferInstance rfl rfl rfl rfl (cl_cons cl_c (cl_cons cl_c cl_nil)))
  · rw [valS_no h]
    refine con_of Tryz.func115 rfl (by kernel_rfl) rfl ?_
    simp only [Tryz.ntmps115, Tryz.results115, argEnv, ofC, of1, List.map]
    repeat' (first
 | ((with_reducible apply r_call); exact rfl; exact rfl; exact rcheck_con s; exact rfl; exact rfl)
 | ((with_reducible apply aw_seq))
 | ((with_reducible apply aw_region))
 | ((with_reducible apply thn_normal))
 | ((with_reducible apply thn_ret))
 | ((with_reducible apply aw_ret))
 | ((with_reducible apply ao_nil))
 | ((with_reducible apply r_load_pa); exact rfl; exact rfl; exact rfl; exact rfl; exact rfl)
 | ((with_reducible apply r_neq); exact rfl; exact rfl; exact rfl)
 | ((with_reducible apply r_box_a); exact rfl; exact rfl)
 | ((with_reducible apply r_store_pa); exact rfl; exact rfl; exact rfl; exact rfl; exact rfl; exact rfl)
 | ((with_reducible apply r_build); exact rfl; exact rfl; exact rfl)
 | ((with_reducible apply r_alloc); exact rfl)
 | (((with_reducible apply aw_cond); exact rfl) <;> intro hg <;> (first | (exact absurd hg (by decide)) | ((try simp only [decide_eq_true_eq, decide_eq_false_iff_not, Bool.not_eq_true', Bool.not_eq_false', Bool.not_true, Bool.not_false, Bool.not_not, Int.not_lt, Int.not_le, Nat.not_lt, Nat.not_le, gt_iff_lt, ge_iff_le, List.cons.injEq, and_true] at hg); first | (exact absurd trivial hg) | (exfalso; omega) | (have hT : True := hg; clear hT hg) | skip)))
 )
    exact ret1 (.cell_a inferInstance rfl rfl rfl rfl (cl_cons cl_c (cl_cons cl_none cl_nil)))
structure SecV (s : Sec) : Prop where
  len : s.rows.length ≤ 120
  low : -60 ≤ s.low
  high : s.low + s.rows.length ≤ 60
  row : ∀ i (h : i < s.rows.length), -600 ≤ s.rows[i].1 ∧ s.rows[i].1 ≤ s.rows[i].2 ∧ s.rows[i].2 ≤ 600
  zero : ∀ i (h : i < s.rows.length), s.rows[i].1 < s.rows[i].2 ∨ s.rows[i] = (0, 0)
  ends : ∀ h : 0 < s.rows.length, (s.rows[0]'h).1 < (s.rows[0]'h).2 ∧ (s.rows[s.rows.length - 1]'(by omega)).1 < (s.rows[s.rows.length - 1]'(by omega)).2
  none : s.rows.length = 0 → s.low = 0
theorem chk_is {s : Sec} (h : secChk s = 0) : SecV s := by
  have h1 : ¬ 120 < s.rows.length := fun hh => by rw [← sc_long hh] at h; cases h
  have h2 : headOk s := Classical.byContradiction fun hh => by rw [← sc_head h1 hh] at h; cases h
  have h3 : ∀ i (h : i < s.rows.length), rangeS s.rows[i] = true := fun i hi => by
    cases hr : rangeS s.rows[i] with
    | true => rfl
    | false => rw [← sc_range h1 h2 hi hr] at h; cases h
  have r : SecR s := ⟨h1, h2, h3⟩
  unfold headOk at h2
  by_cases h0 : s.rows.length = 0
  · refine ⟨by omega, by omega, by omega, fun i hi => by omega, fun i hi => by omega, fun hh => by omega, fun _ => ?_⟩
    rw [sc_none r h0] at h
    split at h
    · assumption
    · cases h
  have h4 : ¬ endsBad s.rows := fun hh => by rw [← sc_ends r h0 hh] at h; cases h
  have h5 : ∀ i (h : i < s.rows.length), okRow s.rows[i] = true := fun i hi => by
    cases hr : okRow s.rows[i] with
    | true => rfl
    | false => rw [← sc_row r h0 h4 hi hr] at h; cases h
  have h6 : ∀ i (h : i < s.rows.length), s.rows[i].1 < s.rows[i].2 ∨ s.rows[i] = (0, 0) := fun i hi => by
    have := h5 i hi
    unfold okRow emptyS at this
    simp at this
    rcases this with h | h
    · exact .inl h
    · exact .inr (Prod.ext h.1 h.2)
  refine ⟨by omega, by omega, by omega, fun i hi => ?_, h6, fun hh => ?_, fun hh => absurd hh h0⟩
  · have := range_get (h3 i hi)
    rcases h6 i hi with h | h
    · omega
    · rw [h]; decide
  · unfold endsBad at h4
    have a1 : ¬ emptyS (s.rows[0]'hh) = true := fun e => h4 ⟨hh, .inl e⟩
    have a2 : ¬ emptyS (s.rows[s.rows.length - 1]'(by omega)) = true := fun e => h4 ⟨hh, .inr e⟩
    unfold emptyS at a1 a2
    simp at a1 a2
    exact ⟨a1, a2⟩
theorem sec0_V : SecV sec0 := ⟨by decide, by decide, by decide, fun i hi => (by cases hi), fun i hi => (by cases hi), fun h => (by cases h), fun _ => rfl⟩
theorem valS_V (s : Sec) : SecV (valS s) := by
  by_cases h : secChk s = 0
  · rw [valS_ok h]; exact chk_is h
  · rw [valS_no h]; exact sec0_V
def sumN (f : Nat → Int) : Nat → Int
  | 0 => 0
  | n + 1 => sumN f n + f n
theorem sumN_bd {f : Nat → Int} {c : Int} {n : Nat} (h : ∀ i, i < n → 0 ≤ f i ∧ f i ≤ c) : ∀ j, j ≤ n → 0 ≤ sumN f j ∧ sumN f j ≤ c * j
  | 0, _ => by simp [sumN]
  | j + 1, hj => by
    have ih := sumN_bd h j (by omega)
    have h1 := h j (by omega)
    unfold sumN
    rw [show ((j + 1 : Nat) : Int) = (j : Int) + 1 by omega, Int.mul_add]; omega
def rowD (s : Sec) (i : Nat) : Span := s.rows.getD i (0, 0)
theorem rowD_eq {s : Sec} {i : Nat} (h : i < s.rows.length) : rowD s i = s.rows[i] := by unfold rowD; rw [List.getD_eq_getElem?_getD, List.getElem?_eq_getElem h]; rfl
def areaV (s : Sec) : Int := 10 * sumN (fun i => wid (rowD s i)) s.rows.length
noncomputable def areaS (s : Sec) : Int := areaV (valS s)
theorem wid_row {s : Sec} (v : SecV s) {i : Nat} (hi : i < s.rows.length) : wid (rowD s i) = s.rows[i].2 - s.rows[i].1 ∧ 0 ≤ wid (rowD s i) ∧ wid (rowD s i) ≤ 1200 := by
  have := v.row i hi
  rw [rowD_eq hi]; unfold wid; omega
theorem area_con (s : Sec) : Con Tryz.prog gl 82 [secC s] (I (areaS s)) := by
  have hv := valid_con (gl := gl) s
  have v := valS_V s
  unfold areaS areaV
  generalize valS s = u at *
  have hl := v.len
  have hb := sumN_bd (f := fun i => wid (rowD u i)) (c := 1200) (n := u.rows.length) (fun i hi => (wid_row v hi).2)
  refine con_of Tryz.func82 rfl (by kernel_rfl) rfl ?_
  simp only [Tryz.ntmps82, Tryz.results82, argEnv, ofC, of1, List.map]
  repeat' (first
 | ((with_reducible apply r_call); exact rfl; exact rfl; exact hv; exact rfl; exact rfl)
 | ((with_reducible apply aw_seq))
 | ((with_reducible apply aw_region))
 | ((with_reducible apply aw_block))
 | ((with_reducible apply thn_normal))
 | ((with_reducible apply ao_nil))
 | ((with_reducible apply r_move); exact rfl; exact rfl)
 | ((with_reducible apply r_assign); exact rfl; exact rfl)
 | ((with_reducible apply r_load_pa); exact rfl; exact rfl; exact rfl; exact rfl; exact rfl)
 | ((with_reducible apply r_box_a); exact rfl; exact rfl)
 | ((with_reducible apply r_len_f); exact rfl; exact inferInstance; exact rfl)
 | ((with_reducible apply r_fieldv_s); exact rfl; exact rfl; exact rfl)
 )
  refine aw_loopG (G := Nat × Int) (fun ((j, t) : Nat × Int) => j ≤ u.rows.length ∧ t = sumN (fun i => wid (rowD u i)) j) (fun ((j, t) : Nat × Int) => u.rows.length - j) (fun ((j, t) : Nat × Int) => [(3, A t), (8, .c (LS u.rows)), (9, A u.rows.length), (10, A j)]) (fun ((j, t) : Nat × Int) => [(0, some (secB s))]) 1 (0, 0) ?_ (by refine weak_mk rfl ?_ ?_ <;> repeat (first | exact envW_nil | exact heapW_nil | refine envW_cons rfl rfl ?_ | refine heapW_cons rfl rfl rfl ?_)) rfl ?_
  · exact ⟨Nat.zero_le _, rfl⟩
  rintro ⟨j, t⟩ hI
  try dsimp only at hI
  try dsimp only
  obtain ⟨hj, ht⟩ := hI
  have hbj := hb j hj
  rw [← ht] at hbj
  by_cases hjl : j < u.rows.length
  · have hr := v.row j hjl
    have hw : wid (u.rows[j].1, u.rows[j].2) = wid (rowD u j) := by rw [rowD_eq hjl]
    have hw2 := (wid_row v hjl).2
    have hc := len_con (gl := gl) u.rows[j].1 u.rows[j].2 (by unfold fits; omega) (by omega)
    rw [hw] at hc
    repeat' (first
 | ((with_reducible apply r_call); exact rfl; exact rfl; exact hc; exact rfl; exact rfl)
 | ((with_reducible apply aw_seq))
 | ((with_reducible apply aw_region))
 | ((with_reducible apply aw_block))
 | ((with_reducible apply thn_normal))
 | ((with_reducible apply inb_normal))
 | ((with_reducible apply aw_skip))
 | ((with_reducible apply ao_nil))
 | ((with_reducible apply r_move); exact rfl; exact rfl)
 | ((with_reducible apply r_assign); exact rfl; exact rfl)
 | ((with_reducible apply r_load_pa); exact rfl; exact rfl; exact rfl; exact rfl; exact rfl)
 | ((with_reducible apply r_lss); exact rfl; exact rfl; exact rfl)
 | ((with_reducible apply r_add); exact rfl; exact rfl; exact (by first | assumption | (unfold fits; omega)); exact rfl)
 | ((with_reducible apply r_index_f); exact rfl; exact inferInstance; exact rfl; exact rfl; (first | assumption | omega); exact rfl)
 | ((with_reducible apply r_load_fa0); exact rfl; exact inferInstance; exact List.getElem?_eq_getElem (by first | assumption | omega); exact rfl; exact rfl; exact rfl)
 | ((with_reducible apply r_store_pa); exact rfl; exact rfl; exact rfl; exact rfl; exact rfl; exact rfl)
 | ((with_reducible apply r_alloc); exact rfl)
 | (((with_reducible apply aw_cond); exact rfl) <;> intro hg <;> (first | (exact absurd hg (by decide)) | ((try simp only [decide_eq_true_eq, decide_eq_false_iff_not, Bool.not_eq_true', Bool.not_eq_false', Bool.not_true, Bool.not_false, Bool.not_not, Int.not_lt, Int.not_le, Nat.not_lt, Nat.not_le, gt_iff_lt, ge_iff_le, List.cons.injEq, and_true] at hg); first | (exact absurd trivial hg) | (exfalso; omega) | (have hT : True := hg; clear hT hg) | skip)))
 )
    refine ⟨(j + 1, t + wid (rowD u j)), ?_, ?_, by refine weak_mk rfl ?_ ?_ <;> repeat (first | exact envW_nil | exact heapW_nil | refine envW_cons rfl rfl ?_ | refine heapW_cons rfl rfl rfl ?_)⟩
    · show _ - (j + 1) < _ - j; omega
    · exact ⟨by show j + 1 ≤ _; omega, by show t + _ = sumN _ j + _; rw [ht]⟩
  · obtain rfl : j = u.rows.length := by omega
    repeat' (first
 | ((with_reducible apply aw_seq))
 | ((with_reducible apply aw_region))
 | ((with_reducible apply thn_normal))
 | ((with_reducible apply thn_exit))
 | ((with_reducible apply inb_exit))
 | ((with_reducible apply aw_exit))
 | ((with_reducible apply aw_ret))
 | ((with_reducible apply ao_nil))
 | ((with_reducible apply r_move); exact rfl; exact rfl)
 | ((with_reducible apply r_assign); exact rfl; exact rfl)
 | ((with_reducible apply r_lss); exact rfl; exact rfl; exact rfl)
 | ((with_reducible apply r_mul); exact rfl; exact rfl; exact (by first | assumption | (unfold fits; omega)); exact rfl)
 | (((with_reducible apply aw_cond); exact rfl) <;> intro hg <;> (first | (exact absurd hg (by decide)) | ((try simp only [decide_eq_true_eq, decide_eq_false_iff_not, Bool.not_eq_true', Bool.not_eq_false', Bool.not_true, Bool.not_false, Bool.not_not, Int.not_lt, Int.not_le, Nat.not_lt, Nat.not_le, gt_iff_lt, ge_iff_le, List.cons.injEq, and_true] at hg); first | (exact absurd trivial hg) | (exfalso; omega) | (have hT : True := hg; clear hT hg) | skip)))
 )
    exact ret_i rfl (by rw [ht])
theorem rarea_con (s : Sec) : Con Tryz.prog gl 88 [secC s] (I (areaS s)) := by
  have hv := rvalid_con (gl := gl) s
  have v := valS_V s
  unfold areaS areaV
  generalize valS s = u at *
  have hl := v.len
  have hb := sumN_bd (f := fun i => wid (rowD u i)) (c := 1200) (n := u.rows.length) (fun i hi => (wid_row v hi).2)
  refine con_of Tryz.func88 rfl (by kernel_rfl) rfl ?_
  simp only [Tryz.ntmps88, Tryz.results88, argEnv, ofC, of1, List.map]
  repeat' (first
 | ((with_reducible apply r_call); exact rfl; exact rfl; exact hv; exact rfl; exact rfl)
 | ((with_reducible apply aw_seq))
 | ((with_reducible apply aw_region))
 | ((with_reducible apply aw_block))
 | ((with_reducible apply thn_normal))
 | ((with_reducible apply ao_nil))
 | ((with_reducible apply r_assign); exact rfl; exact rfl)
 | ((with_reducible apply r_load_pa); exact rfl; exact rfl; exact rfl; exact rfl; exact rfl)
 | ((with_reducible apply r_box_a); exact rfl; exact rfl)
 | ((with_reducible apply r_store_pa); exact rfl; exact rfl; exact rfl; exact rfl; exact rfl; exact rfl)
 )
  refine aw_loopG (G := Nat × Int) (fun ((j, t) : Nat × Int) => j ≤ u.rows.length ∧ t = 10 * sumN (fun i => wid (rowD u i)) j) (fun ((j, t) : Nat × Int) => u.rows.length - j) (fun ((j, t) : Nat × Int) => [(1, .ptr 0 0), (3, A t), (4, A j)]) (fun ((j, t) : Nat × Int) => [(0, some (secB u))]) 1 (0, 0) ?_ (by refine weak_mk rfl ?_ ?_ <;> repeat (first | exact envW_nil | exact heapW_nil | refine envW_cons rfl rfl ?_ | refine heapW_cons rfl rfl rfl ?_)) rfl ?_
  · exact ⟨Nat.zero_le _, rfl⟩
  rintro ⟨j, t⟩ hI
  try dsimp only at hI
  try dsimp only
  obtain ⟨hj, ht⟩ := hI
  have hbj := hb j hj
  by_cases hjl : j < u.rows.length
  · have hr := v.row j hjl
    have hw2 := wid_row v hjl
    repeat' (first
 | ((with_reducible apply aw_seq))
 | ((with_reducible apply aw_region))
 | ((with_reducible apply aw_block))
 | ((with_reducible apply thn_normal))
 | ((with_reducible apply inb_normal))
 | ((with_reducible apply aw_skip))
 | ((with_reducible apply ao_nil))
 | ((with_reducible apply r_move); exact rfl; exact rfl)
 | ((with_reducible apply r_assign); exact rfl; exact rfl)
 | ((with_reducible apply r_field_p); exact rfl; exact rfl)
 | ((with_reducible apply r_load_p); exact rfl; exact rfl; exact rfl; exact rfl)
 | ((with_reducible apply r_lss); exact rfl; exact rfl; exact rfl)
 | ((with_reducible apply r_add); exact rfl; exact rfl; exact (by first | assumption | (unfold fits; omega)); exact rfl)
 | ((with_reducible apply r_sub); exact rfl; exact rfl; exact (by first | assumption | (unfold fits; omega)); exact rfl)
 | ((with_reducible apply r_mul); exact rfl; exact rfl; exact (by first | assumption | (unfold fits; omega)); exact rfl)
 | ((with_reducible apply r_len_f); exact rfl; exact inferInstance; exact rfl)
 | ((with_reducible apply r_index_f); exact rfl; exact inferInstance; exact rfl; exact rfl; (first | assumption | omega); exact rfl)
 | ((with_reducible apply r_load_f0); exact rfl; exact inferInstance; exact List.getElem?_eq_getElem (by first | assumption | omega); exact rfl; exact rfl)
 | ((with_reducible apply r_load_f); exact rfl; exact inferInstance; exact List.getElem?_eq_getElem (by first | assumption | omega); exact rfl; exact rfl; exact rfl)
 | ((with_reducible apply r_field_e); exact rfl; exact rfl)
 | (((with_reducible apply aw_cond); exact rfl) <;> intro hg <;> (first | (exact absurd hg (by decide)) | ((try simp only [decide_eq_true_eq, decide_eq_false_iff_not, Bool.not_eq_true', Bool.not_eq_false', Bool.not_true, Bool.not_false, Bool.not_not, Int.not_lt, Int.not_le, Nat.not_lt, Nat.not_le, gt_iff_lt, ge_iff_le, List.cons.injEq, and_true] at hg); first | (exact absurd trivial hg) | (exfalso; omega) | (have hT : True := hg; clear hT hg) | skip)))
 | (refine aw_drawq ?_ ?_; (kernel_rfl))
 | ((with_reducible apply ds_nil))
 )
    refine ⟨(j + 1, t + 10 * (u.rows[j].2 - u.rows[j].1)), ?_, ?_, by refine weak_mk rfl ?_ ?_ <;> repeat (first | exact envW_nil | exact heapW_nil | refine envW_cons rfl rfl ?_ | refine heapW_cons rfl rfl rfl ?_)⟩
    · show _ - (j + 1) < _ - j; omega
    · exact ⟨by show j + 1 ≤ _; omega, by show t + 10 * (u.rows[j].2 - u.rows[j].1) = 10 * (sumN _ j + wid (rowD u j)); rw [ht, hw2.1]; omega⟩
  · obtain rfl : j = u.rows.length := by omega
    repeat' (first
 | ((with_reducible apply aw_seq))
 | ((with_reducible apply aw_region))
 | ((with_reducible apply thn_normal))
 | ((with_reducible apply thn_exit))
 | ((with_reducible apply inb_exit))
 | ((with_reducible apply aw_exit))
 | ((with_reducible apply aw_ret))
 | ((with_reducible apply ao_nil))
 | ((with_reducible apply r_move); exact rfl; exact rfl)
 | ((with_reducible apply r_assign); exact rfl; exact rfl)
 | ((with_reducible apply r_field_p); exact rfl; exact rfl)
 | ((with_reducible apply r_load_p); exact rfl; exact rfl; exact rfl; exact rfl)
 | ((with_reducible apply r_lss); exact rfl; exact rfl; exact rfl)
 | ((with_reducible apply r_len_f); exact rfl; exact inferInstance; exact rfl)
 | (((with_reducible apply aw_cond); exact rfl) <;> intro hg <;> (first | (exact absurd hg (by decide)) | ((try simp only [decide_eq_true_eq, decide_eq_false_iff_not, Bool.not_eq_true', Bool.not_eq_false', Bool.not_true, Bool.not_false, Bool.not_not, Int.not_lt, Int.not_le, Nat.not_lt, Nat.not_le, gt_iff_lt, ge_iff_le, List.cons.injEq, and_true] at hg); first | (exact absurd trivial hg) | (exfalso; omega) | (have hT : True := hg; clear hT hg) | skip)))
 )
    exact ret_i rfl (by rw [ht])
theorem mul_bd2 {a b m k : Int} (h1 : 0 ≤ a ∧ a ≤ m) (h2 : 0 ≤ b ∧ b ≤ k) : 0 ≤ a * b ∧ a * b ≤ m * k := by
  refine ⟨Int.mul_nonneg h1.1 h2.1, ?_⟩
  exact Int.le_trans (Int.mul_le_mul_of_nonneg_right h1.2 h2.1) (Int.mul_le_mul_of_nonneg_left h2.2 (by omega))
theorem meet_bd {a X : Span} (h : -600000 ≤ a.1 ∧ a.2 ≤ 600000 ∧ a.1 ≤ a.2) : -600000 ≤ (meetS a X).1 ∧ (meetS a X).1 ≤ 600000 ∧ -600000 ≤ (meetS a X).2 ∧ (meetS a X).2 ≤ 600000 := by
  unfold meetS; split
  · exact ⟨by decide, by decide, by decide, by decide⟩
  · dsimp only; omega
theorem len_meet {a X : Span} (h : -600000 ≤ a.1 ∧ a.2 ≤ 600000 ∧ a.1 ≤ a.2) : Con Tryz.prog gl 77 [spV (meetS a X)] (I (ov a X)) := by
  have := meet_bd (X := X) h
  rw [← wid_meet]
  exact len_con _ _ (by unfold fits; omega) (by omega)
end Go.Proofs.YtkhljpbkebnnmaaGreatDoor.Ge
/- Walks of geometry: solids: Check, valid, Length, Volume in both; extents. -/
namespace Go.Proofs.YtkhljpbkebnnmaaGreatDoor.Ge
set_option linter.unusedVariables false
set_option linter.unusedSimpArgs false
open Go.RowKit Go.Proofs.YtkhljpbkebnnmaaGreatDoor.Ev
variable {gl : List (Nat × List CV)}
structure Slc where
  len : Int
  sec : Sec
def slcC (x : Slc) : List CV := [I x.len, I x.sec.low, LS x.sec.rows]
instance : EncL slcC 3 := ⟨fun _ => rfl, by decide, fun _ => rfl⟩
abbrev LL (l : List Slc) : CV := .lst 3 (l.flatMap slcC)
noncomputable def solGo : List Slc → Int → Int
  | [], _ => 0
  | x :: xs, t => open Classical in if secChk x.sec ≠ 0 then secChk x.sec else if x.sec.rows.length = 0 then 18 else if x.len < 1 ∨ 20000 - t < x.len then 9 else solGo xs (t + x.len)
noncomputable def solChk (l : List Slc) : Int := if l.length = 0 then 3 else if 24 < l.length then 4 else solGo l 0
theorem sg_sec {l : List Slc} {j : Nat} (hj : j < l.length) {t : Int} (h : ¬ secChk l[j].sec = 0) : secChk l[j].sec = solGo (l.drop j) t := by
  rw [drop_cons l j hj]; unfold solGo; rw [if_pos h]
theorem sg_none {l : List Slc} {j : Nat} (hj : j < l.length) {t : Int} (h : secChk l[j].sec = 0) (h2 : l[j].sec.rows.length = 0) : 18 = solGo (l.drop j) t := by
  rw [drop_cons l j hj]; unfold solGo; rw [if_neg (fun hh => hh h), if_pos h2]
theorem sg_range {l : List Slc} {j : Nat} (hj : j < l.length) {t : Int} (h : secChk l[j].sec = 0) (h2 : ¬ l[j].sec.rows.length = 0) (h3 : l[j].len < 1 ∨ 20000 - t < l[j].len) : 9 = solGo (l.drop j) t := by
  rw [drop_cons l j hj]; unfold solGo; rw [if_neg (fun hh => hh h), if_neg h2, if_pos h3]
theorem sg_ok {l : List Slc} {j : Nat} (hj : j < l.length) {t : Int} (h : secChk l[j].sec = 0) (h2 : ¬ l[j].sec.rows.length = 0) (h3 : ¬ (l[j].len < 1 ∨ 20000 - t < l[j].len)) : solGo (l.drop j) t = solGo (l.drop (j + 1)) (t + l[j].len) := by
  rw [drop_cons l j hj]; conv => lhs; unfold solGo
  rw [if_neg (fun hh => hh h), if_neg h2, if_neg h3]
theorem sol_0 {l : List Slc} (h : l.length = 0) : 3 = solChk l := by unfold solChk; rw [if_pos h]
theorem sol_24 {l : List Slc} (h : ¬ l.length = 0) (h2 : 24 < l.length) : 4 = solChk l := by unfold solChk; rw [if_neg h, if_pos h2]
theorem sol_go {l : List Slc} (h : ¬ l.length = 0) (h2 : ¬ 24 < l.length) : solChk l = solGo (l.drop 0) 0 := by unfold solChk; rw [if_neg h, if_neg h2]; rfl
theorem scheck_con (l : List Slc) (hn : l.length ≤ maxLen) : Con Tryz.prog gl 24 [LL l] (I (solChk l)) := by
  refine con_of Tryz.func24 rfl (by kernel_rfl) rfl ?_
  simp only [Tryz.ntmps24, Tryz.results24, argEnv, ofC, of1, List.map]
  by_cases h0 : l.length = 0
  · skip
    repeat' (first
 | ((with_reducible apply aw_seq))
 | ((with_reducible apply aw_region))
 | ((with_reducible apply thn_normal))
 | ((with_reducible apply thn_ret))
 | ((with_reducible apply aw_ret))
 | ((with_reducible apply ao_nil))
 | ((with_reducible apply r_move); exact rfl; exact rfl)
 | ((with_reducible apply r_assign); exact rfl; exact rfl)
 | ((with_reducible apply r_eql); exact rfl; exact rfl; exact rfl)
 | ((with_reducible apply r_len_f); exact rfl; exact inferInstance; exact rfl)
 | (((with_reducible apply aw_cond); exact rfl) <;> intro hg <;> (first | (exact absurd hg (by decide)) | ((try simp only [decide_eq_true_eq, decide_eq_false_iff_not, Bool.not_eq_true', Bool.not_eq_false', Bool.not_true, Bool.not_false, Bool.not_not, Int.not_lt, Int.not_le, Nat.not_lt, Nat.not_le, gt_iff_lt, ge_iff_le, List.cons.injEq, and_true] at hg); first | (exact absurd trivial hg) | (exfalso; omega) | (have hT : True := hg; clear hT hg) | skip)))
 )
    exact ret_i rfl (sol_0 h0)
  by_cases h24 : 24 < l.length
  · skip
    repeat' (first
 | ((with_reducible apply aw_seq))
 | ((with_reducible apply aw_region))
 | ((with_reducible apply thn_normal))
 | ((with_reducible apply thn_ret))
 | ((with_reducible apply aw_skip))
 | ((with_reducible apply aw_ret))
 | ((with_reducible apply ao_nil))
 | ((with_reducible apply r_move); exact rfl; exact rfl)
 | ((with_reducible apply r_assign); exact rfl; exact rfl)
 | ((with_reducible apply r_gtr); exact rfl; exact rfl; exact rfl)
 | ((with_reducible apply r_eql); exact rfl; exact rfl; exact rfl)
 | ((with_reducible apply r_len_f); exact rfl; exact inferInstance; exact rfl)
 | (((with_reducible apply aw_cond); exact rfl) <;> intro hg <;> (first | (exact absurd hg (by decide)) | ((try simp only [decide_eq_true_eq, decide_eq_false_iff_not, Bool.not_eq_true', Bool.not_eq_false', Bool.not_true, Bool.not_false, Bool.not_not, Int.not_lt, Int.not_le, Nat.not_lt, Nat.not_le, gt_iff_lt, ge_iff_le, List.cons.injEq, and_true] at hg); first | (exact absurd trivial hg) | (exfalso; omega) | (have hT : True := hg; clear hT hg) | skip)))
 )
    exact ret_i rfl (sol_24 h0 h24)
  rw [sol_go h0 h24]
  repeat' (first
 | ((with_reducible apply aw_seq))
 | ((with_reducible apply aw_region))
 | ((with_reducible apply aw_block))
 | ((with_reducible apply thn_normal))
 | ((with_reducible apply aw_skip))
 | ((with_reducible apply ao_nil))
 | ((with_reducible apply r_move); exact rfl; exact rfl)
 | ((with_reducible apply r_assign); exact rfl; exact rfl)
 | ((with_reducible apply r_gtr); exact rfl; exact rfl; exact rfl)
 | ((with_reducible apply r_eql); exact rfl; exact rfl; exact rfl)
 | ((with_reducible apply r_len_f); exact rfl; exact inferInstance; exact rfl)
 | (((with_reducible apply aw_cond); exact rfl) <;> intro hg <;> (first | (exact absurd hg (by decide)) | ((try simp only [decide_eq_true_eq, decide_eq_false_iff_not, Bool.not_eq_true', Bool.not_eq_false', Bool.not_true, Bool.not_false, Bool.not_not, Int.not_lt, Int.not_le, Nat.not_lt, Nat.not_le, gt_iff_lt, ge_iff_le, List.cons.injEq, and_true] at hg); first | (exact absurd trivial hg) | (exfalso; omega) | (have hT : True := hg; clear hT hg) | skip)))
 )
  refine aw_loopG (G := Nat × Int) (fun ((j, t) : Nat × Int) => j ≤ l.length ∧ 0 ≤ t ∧ t ≤ 20000 ∧ solGo (l.drop 0) 0 = solGo (l.drop j) t) (fun ((j, t) : Nat × Int) => l.length - j) (fun ((j, t) : Nat × Int) => [(3, A t), (13, .c (LL l)), (14, A l.length), (15, A j)]) (fun ((j, t) : Nat × Int) => []) 0 (0, 0) ?_ (by refine weak_mk rfl ?_ ?_ <;> repeat (first | exact envW_nil | exact heapW_nil | refine envW_cons rfl rfl ?_ | refine heapW_cons rfl rfl rfl ?_)) rfl ?_
  · exact ⟨Nat.zero_le _, by decide, by decide, rfl⟩
  rintro ⟨j, t⟩ hI
  try dsimp only at hI
  try dsimp only
  obtain ⟨hj, ht1, ht2, hgo⟩ := hI
  by_cases hjl : j < l.length
  · have hc := check_con (gl := gl) l[j].sec
    repeat' (first
 | ((with_reducible apply r_call); exact rfl; exact rfl; exact hc; exact rfl; exact rfl)
 | ((with_reducible apply aw_seq))
 | ((with_reducible apply aw_region))
 | ((with_reducible apply aw_block))
 | ((with_reducible apply thn_normal))
 | ((with_reducible apply thn_ret))
 | ((with_reducible apply inb_normal))
 | ((with_reducible apply inb_ret))
 | ((with_reducible apply aw_skip))
 | ((with_reducible apply aw_ret))
 | ((with_reducible apply ao_nil))
 | ((with_reducible apply r_move); exact rfl; exact rfl)
 | ((with_reducible apply r_assign); exact rfl; exact rfl)
 | ((with_reducible apply r_field_p); exact rfl; exact rfl)
 | ((with_reducible apply r_load_p); exact rfl; exact rfl; exact rfl; exact rfl)
 | ((with_reducible apply r_load_pa); exact rfl; exact rfl; exact rfl; exact rfl; exact rfl)
 | ((with_reducible apply r_lss); exact rfl; exact rfl; exact rfl)
 | ((with_reducible apply r_gtr); exact rfl; exact rfl; exact rfl)
 | ((with_reducible apply r_eql); exact rfl; exact rfl; exact rfl)
 | ((with_reducible apply r_neq); exact rfl; exact rfl; exact rfl)
 | ((with_reducible apply r_add); exact rfl; exact rfl; exact (by first | assumption | (unfold fits; omega)); exact rfl)
 | ((with_reducible apply r_sub); exact rfl; exact rfl; exact (by first | assumption | (unfold fits; omega)); exact rfl)
 | ((with_reducible apply r_pick_t); exact rfl; exact rfl; exact rfl)
 | ((with_reducible apply r_pick_f); exact rfl; exact rfl; exact rfl)
 | ((with_reducible apply r_len_f); exact rfl; exact inferInstance; exact rfl)
 | ((with_reducible apply r_index_f); exact rfl; exact inferInstance; exact rfl; exact rfl; (first | assumption | omega); exact rfl)
 | ((with_reducible apply r_load_fa0); exact rfl; exact inferInstance; exact List.getElem?_eq_getElem (by first | assumption | omega); exact rfl; exact rfl; exact rfl)
 | ((with_reducible apply r_store_pa); exact rfl; exact rfl; exact rfl; exact rfl; exact rfl; exact rfl)
 | ((with_reducible apply r_alloc); exact rfl)
 | (((with_reducible apply r_guard); exact rfl; exact rfl; exact rfl; exact rfl) <;> intro hg <;> (first | (exact absurd hg (by decide)) | ((try simp only [decide_eq_true_eq, decide_eq_false_iff_not, Bool.not_eq_true', Bool.not_eq_false', Bool.not_true, Bool.not_false, Bool.not_not, Int.not_lt, Int.not_le, Nat.not_lt, Nat.not_le, gt_iff_lt, ge_iff_le, List.cons.injEq, and_true] at hg); first | (exact absurd trivial hg) | (exfalso; omega) | (have hT : True := hg; clear hT hg) | skip)))
 | (((with_reducible apply aw_cond); exact rfl) <;> intro hg <;> (first | (exact absurd hg (by decide)) | ((try simp only [decide_eq_true_eq, decide_eq_false_iff_not, Bool.not_eq_true', Bool.not_eq_false', Bool.not_true, Bool.not_false, Bool.not_not, Int.not_lt, Int.not_le, Nat.not_lt, Nat.not_le, gt_iff_lt, ge_iff_le, List.cons.injEq, and_true] at hg); first | (exact absurd trivial hg) | (exfalso; omega) | (have hT : True := hg; clear hT hg) | skip)))
 )
    all_goals first
      | exact ret_i rfl ((sg_sec hjl hg).trans hgo.symm)
      | exact ret_i rfl ((sg_none hjl (by assumption) (by omega)).trans hgo.symm)
      | exact ret_i rfl ((sg_range hjl (by assumption) (by omega) (by omega)).trans hgo.symm)
      | skip
    have hs : secChk l[j].sec = 0 := by assumption
    refine ⟨(j + 1, t + l[j].len), ?_, ?_, by refine weak_mk rfl ?_ ?_ <;> repeat (first | exact envW_nil | exact heapW_nil | refine envW_cons rfl rfl ?_ | refine heapW_cons rfl rfl rfl ?_)⟩
    · show _ - (j + 1) < _ - j; omega
    · exact ⟨by show j + 1 ≤ _; omega, by show 0 ≤ t + l[j].len; omega, by show t + l[j].len ≤ 20000; omega, hgo.trans (sg_ok hjl hs (by omega) (by omega))⟩
  · skip
    repeat' (first
 | ((with_reducible apply aw_seq))
 | ((with_reducible apply aw_region))
 | ((with_reducible apply thn_normal))
 | ((with_reducible apply thn_exit))
 | ((with_reducible apply inb_exit))
 | ((with_reducible apply aw_exit))
 | ((with_reducible apply aw_ret))
 | ((with_reducible apply ao_nil))
 | ((with_reducible apply r_assign); exact rfl; exact rfl)
 | ((with_reducible apply r_lss); exact rfl; exact rfl; exact rfl)
 | (((with_reducible apply aw_cond); exact rfl) <;> intro hg <;> (first | (exact absurd hg (by decide)) | ((try simp only [decide_eq_true_eq, decide_eq_false_iff_not, Bool.not_eq_true', Bool.not_eq_false', Bool.not_true, Bool.not_false, Bool.not_not, Int.not_lt, Int.not_le, Nat.not_lt, Nat.not_le, gt_iff_lt, ge_iff_le, List.cons.injEq, and_true] at hg); first | (exact absurd trivial hg) | (exfalso; omega) | (have hT : True := hg; clear hT hg) | skip)))
 )
    exact ret_i rfl (by rw [hgo, List.drop_eq_nil_of_le (by omega)]; rfl)
theorem rscheck_con (l : List Slc) (hn : l.length ≤ maxLen) : Con Tryz.prog gl 22 [LL l] (I (solChk l)) := by
  refine con_of Tryz.func22 rfl (by kernel_rfl) rfl ?_
  simp only [Tryz.ntmps22, Tryz.results22, argEnv, ofC, of1, List.map]
  by_cases h0 : l.length = 0
  · skip
    repeat' (first
 | ((with_reducible apply aw_seq))
 | ((with_reducible apply aw_region))
 | ((with_reducible apply thn_normal))
 | ((with_reducible apply thn_ret))
 | ((with_reducible apply aw_ret))
 | ((with_reducible apply ao_nil))
 | ((with_reducible apply r_move); exact rfl; exact rfl)
 | ((with_reducible apply r_assign); exact rfl; exact rfl)
 | ((with_reducible apply r_eql); exact rfl; exact rfl; exact rfl)
 | ((with_reducible apply r_len_f); exact rfl; exact inferInstance; exact rfl)
 | (((with_reducible apply aw_cond); exact rfl) <;> intro hg <;> (first | (exact absurd hg (by decide)) | ((try simp only [decide_eq_true_eq, decide_eq_false_iff_not, Bool.not_eq_true', Bool.not_eq_false', Bool.not_true, Bool.not_false, Bool.not_not, Int.not_lt, Int.not_le, Nat.not_lt, Nat.not_le, gt_iff_lt, ge_iff_le, List.cons.injEq, and_true] at hg); first | (exact absurd trivial hg) | (exfalso; omega) | (have hT : True := hg; clear hT hg) | skip)))
 )
    exact ret_i rfl (sol_0 h0)
  by_cases h24 : 24 < l.length
  · skip
    repeat' (first
 | ((with_reducible apply aw_seq))
 | ((with_reducible apply aw_region))
 | ((with_reducible apply thn_normal))
 | ((with_reducible apply thn_ret))
 | ((with_reducible apply aw_skip))
 | ((with_reducible apply aw_ret))
 | ((with_reducible apply ao_nil))
 | ((with_reducible apply r_move); exact rfl; exact rfl)
 | ((with_reducible apply r_assign); exact rfl; exact rfl)
 | ((with_reducible apply r_gtr); exact rfl; exact rfl; exact rfl)
 | ((with_reducible apply r_eql); exact rfl; exact rfl; exact rfl)
 | ((with_reducible apply r_len_f); exact rfl; exact inferInstance; exact rfl)
 | (((with_reducible apply aw_cond); exact rfl) <;> intro hg <;> (first | (exact absurd hg (by decide)) | ((try simp only [decide_eq_true_eq, decide_eq_false_iff_not, Bool.not_eq_true', Bool.not_eq_false', Bool.not_true, Bool.not_false, Bool.not_not, Int.not_lt, Int.not_le, Nat.not_lt, Nat.not_le, gt_iff_lt, ge_iff_le, List.cons.injEq, and_true] at hg); first | (exact absurd trivial hg) | (exfalso; omega) | (have hT : True := hg; clear hT hg) | skip)))
 )
    exact ret_i rfl (sol_24 h0 h24)
  rw [sol_go h0 h24]
  repeat' (first
 | ((with_reducible apply aw_seq))
 | ((with_reducible apply aw_region))
 | ((with_reducible apply aw_block))
 | ((with_reducible apply thn_normal))
 | ((with_reducible apply aw_skip))
 | ((with_reducible apply ao_nil))
 | ((with_reducible apply r_move); exact rfl; exact rfl)
 | ((with_reducible apply r_assign); exact rfl; exact rfl)
 | ((with_reducible apply r_gtr); exact rfl; exact rfl; exact rfl)
 | ((with_reducible apply r_eql); exact rfl; exact rfl; exact rfl)
 | ((with_reducible apply r_len_f); exact rfl; exact inferInstance; exact rfl)
 | (((with_reducible apply aw_cond); exact rfl) <;> intro hg <;> (first | (exact absurd hg (by decide)) | ((try simp only [decide_eq_true_eq, decide_eq_false_iff_not, Bool.not_eq_true', Bool.not_eq_false', Bool.not_true, Bool.not_false, Bool.not_not, Int.not_lt, Int.not_le, Nat.not_lt, Nat.not_le, gt_iff_lt, ge_iff_le, List.cons.injEq, and_true] at hg); first | (exact absurd trivial hg) | (exfalso; omega) | (have hT : True := hg; clear hT hg) | skip)))
 )
  refine aw_loopG (G := Nat × Int) (fun ((j, t) : Nat × Int) => j ≤ l.length ∧ 0 ≤ t ∧ t ≤ 20000 ∧ solGo (l.drop 0) 0 = solGo (l.drop j) t) (fun ((j, t) : Nat × Int) => l.length - j) (fun ((j, t) : Nat × Int) => [(0, .c (LL l)), (3, A t), (4, A j)]) (fun ((j, t) : Nat × Int) => []) 0 (0, 0) ?_ (by refine weak_mk rfl ?_ ?_ <;> repeat (first | exact envW_nil | exact heapW_nil | refine envW_cons rfl rfl ?_ | refine heapW_cons rfl rfl rfl ?_)) rfl ?_
  · exact ⟨Nat.zero_le _, by decide, by decide, rfl⟩
  rintro ⟨j, t⟩ hI
  try dsimp only at hI
  try dsimp only
  obtain ⟨hj, ht1, ht2, hgo⟩ := hI
  by_cases hjl : j < l.length
  · have hc := rcheck_con (gl := gl) l[j].sec
    repeat' (first
 | ((with_reducible apply r_call); exact rfl; exact rfl; exact hc; exact rfl; exact rfl)
 | ((with_reducible apply (r_field_e2 (j := 1))); exact rfl; exact rfl)
 | ((with_reducible apply aw_seq))
 | ((with_reducible apply aw_region))
 | ((with_reducible apply aw_block))
 | ((with_reducible apply thn_normal))
 | ((with_reducible apply thn_ret))
 | ((with_reducible apply inb_normal))
 | ((with_reducible apply inb_ret))
 | ((with_reducible apply aw_skip))
 | ((with_reducible apply aw_ret))
 | ((with_reducible apply ao_nil))
 | ((with_reducible apply r_move); exact rfl; exact rfl)
 | ((with_reducible apply r_assign); exact rfl; exact rfl)
 | ((with_reducible apply r_lss); exact rfl; exact rfl; exact rfl)
 | ((with_reducible apply r_gtr); exact rfl; exact rfl; exact rfl)
 | ((with_reducible apply r_eql); exact rfl; exact rfl; exact rfl)
 | ((with_reducible apply r_neq); exact rfl; exact rfl; exact rfl)
 | ((with_reducible apply r_add); exact rfl; exact rfl; exact (by first | assumption | (unfold fits; omega)); exact rfl)
 | ((with_reducible apply r_sub); exact rfl; exact rfl; exact (by first | assumption | (unfold fits; omega)); exact rfl)
 | ((with_reducible apply r_pick_t); exact rfl; exact rfl; exact rfl)
 | ((with_reducible apply r_pick_f); exact rfl; exact rfl; exact rfl)
 | ((with_reducible apply r_len_f); exact rfl; exact inferInstance; exact rfl)
 | ((with_reducible apply r_index_f); exact rfl; exact inferInstance; exact rfl; exact rfl; (first | assumption | omega); exact rfl)
 | ((with_reducible apply r_load_f0); exact rfl; exact inferInstance; exact List.getElem?_eq_getElem (by first | assumption | omega); exact rfl; exact rfl)
 | ((with_reducible apply r_load_f); exact rfl; exact inferInstance; exact List.getElem?_eq_getElem (by first | assumption | omega); exact rfl; exact rfl; exact rfl)
 | ((with_reducible apply r_load_fa); exact rfl; exact inferInstance; exact List.getElem?_eq_getElem (by first | assumption | omega); exact rfl; exact rfl; exact rfl)
 | ((with_reducible apply r_field_e); exact rfl; exact rfl)
 | (((with_reducible apply r_guard); exact rfl; exact rfl; exact rfl; exact rfl) <;> intro hg <;> (first | (exact absurd hg (by decide)) | ((try simp only [decide_eq_true_eq, decide_eq_false_iff_not, Bool.not_eq_true', Bool.not_eq_false', Bool.not_true, Bool.not_false, Bool.not_not, Int.not_lt, Int.not_le, Nat.not_lt, Nat.not_le, gt_iff_lt, ge_iff_le, List.cons.injEq, and_true] at hg); first | (exact absurd trivial hg) | (exfalso; omega) | (have hT : True := hg; clear hT hg) | skip)))
 | (((with_reducible apply aw_cond); exact rfl) <;> intro hg <;> (first | (exact absurd hg (by decide)) | ((try simp only [decide_eq_true_eq, decide_eq_false_iff_not, Bool.not_eq_true', Bool.not_eq_false', Bool.not_true, Bool.not_false, Bool.not_not, Int.not_lt, Int.not_le, Nat.not_lt, Nat.not_le, gt_iff_lt, ge_iff_le, List.cons.injEq, and_true] at hg); first | (exact absurd trivial hg) | (exfalso; omega) | (have hT : True := hg; clear hT hg) | skip)))
 )
    all_goals first
      | exact ret_i rfl ((sg_sec hjl hg).trans hgo.symm)
      | exact ret_i rfl ((sg_none hjl (by assumption) (by omega)).trans hgo.symm)
      | exact ret_i rfl ((sg_range hjl (by assumption) (by omega) (by omega)).trans hgo.symm)
      | skip
    have hs : secChk l[j].sec = 0 := by assumption
    refine ⟨(j + 1, t + l[j].len), ?_, ?_, by refine weak_mk rfl ?_ ?_ <;> repeat (first | exact envW_nil | exact heapW_nil | refine envW_cons rfl rfl ?_ | refine heapW_cons rfl rfl rfl ?_)⟩
    · show _ - (j + 1) < _ - j; omega
    · exact ⟨by show j + 1 ≤ _; omega, by show 0 ≤ t + l[j].len; omega, by show t + l[j].len ≤ 20000; omega, hgo.trans (sg_ok hjl hs (by omega) (by omega))⟩
  · skip
    repeat' (first
 | ((with_reducible apply aw_seq))
 | ((with_reducible apply aw_region))
 | ((with_reducible apply thn_normal))
 | ((with_reducible apply thn_exit))
 | ((with_reducible apply inb_exit))
 | ((with_reducible apply aw_exit))
 | ((with_reducible apply aw_ret))
 | ((with_reducible apply ao_nil))
 | ((with_reducible apply r_move); exact rfl; exact rfl)
 | ((with_reducible apply r_assign); exact rfl; exact rfl)
 | ((with_reducible apply r_lss); exact rfl; exact rfl; exact rfl)
 | ((with_reducible apply r_len_f); exact rfl; exact inferInstance; exact rfl)
 | (((with_reducible apply aw_cond); exact rfl) <;> intro hg <;> (first | (exact absurd hg (by decide)) | ((try simp only [decide_eq_true_eq, decide_eq_false_iff_not, Bool.not_eq_true', Bool.not_eq_false', Bool.not_true, Bool.not_false, Bool.not_not, Int.not_lt, Int.not_le, Nat.not_lt, Nat.not_le, gt_iff_lt, ge_iff_le, List.cons.injEq, and_true] at hg); first | (exact absurd trivial hg) | (exfalso; omega) | (have hT : True := hg; clear hT hg) | skip)))
 )
    exact ret_i rfl (by rw [hgo, List.drop_eq_nil_of_le (by omega)]; rfl)
def slc0 : Slc := ⟨0, sec0⟩
def lenD (l : List Slc) (i : Nat) : Int := (l.getD i slc0).len
def secD (l : List Slc) (i : Nat) : Sec := (l.getD i slc0).sec
def pos (l : List Slc) (i : Nat) : Int := sumN (lenD l) i
theorem lenD_eq {l : List Slc} {i : Nat} (h : i < l.length) : lenD l i = l[i].len := by unfold lenD; rw [List.getD_eq_getElem?_getD, List.getElem?_eq_getElem h]; rfl
theorem secD_eq {l : List Slc} {i : Nat} (h : i < l.length) : secD l i = l[i].sec := by unfold secD; rw [List.getD_eq_getElem?_getD, List.getElem?_eq_getElem h]; rfl
theorem pos_succ (l : List Slc) (i : Nat) : pos l (i + 1) = pos l i + lenD l i := rfl
structure SolV (l : List Slc) : Prop where
  n : l.length ≤ 24
  chk : ∀ i (h : i < l.length), secChk l[i].sec = 0
  some : ∀ i (h : i < l.length), ¬ l[i].sec.rows.length = 0
  one : ∀ i (h : i < l.length), 1 ≤ l[i].len
  all : pos l l.length ≤ 20000
theorem go_V {l : List Slc} : ∀ (n j : Nat) (t : Int), j + n = l.length → t = pos l j → t ≤ 20000 → solGo (l.drop j) t = 0 → (∀ i (h : i < l.length), j ≤ i → secChk l[i].sec = 0 ∧ ¬ l[i].sec.rows.length = 0 ∧ 1 ≤ l[i].len) ∧ pos l l.length ≤ 20000
  | 0, j, t, hj, ht, h20, _ => ⟨fun i hi hji => by omega, by rw [← show j = l.length by omega, ← ht]; exact h20⟩
  | n + 1, j, t, hj, ht, h20, h => by
    have hjl : j < l.length := by omega
    have h1 : secChk l[j].sec = 0 := Classical.byContradiction fun hh => hh (by rw [sg_sec (t := t) hjl hh]; exact h)
    have h2 : ¬ l[j].sec.rows.length = 0 := fun hh => by rw [← sg_none (t := t) hjl h1 hh] at h; cases h
    have h3 : ¬ (l[j].len < 1 ∨ 20000 - t < l[j].len) := fun hh => by rw [← sg_range hjl h1 h2 hh] at h; cases h
    rw [sg_ok hjl h1 h2 h3] at h
    obtain ⟨i1, i2⟩ := go_V n (j + 1) (t + l[j].len) (by omega) (by rw [pos_succ, lenD_eq hjl, ht]) (by omega) h
    refine ⟨fun i hi hji => ?_, i2⟩
    by_cases he : i = j
    · subst he; exact ⟨h1, h2, by omega⟩
    · exact i1 i hi (by omega)
theorem sol_V {l : List Slc} (h : solChk l = 0) : SolV l := by
  have h0 : ¬ l.length = 0 := fun hh => by rw [← sol_0 hh] at h; cases h
  have h24 : ¬ 24 < l.length := fun hh => by rw [← sol_24 h0 hh] at h; cases h
  rw [sol_go h0 h24] at h
  obtain ⟨h1, h2⟩ := go_V l.length 0 0 (by omega) rfl (by decide) h
  exact ⟨by omega, fun i hi => (h1 i hi (by omega)).1, fun i hi => (h1 i hi (by omega)).2.1, fun i hi => (h1 i hi (by omega)).2.2, h2⟩
theorem nil_V : SolV [] := ⟨by decide, fun i h => (by cases h), fun i h => (by cases h), fun i h => (by cases h), by decide⟩
noncomputable def valL (l : List Slc) : List Slc := if solChk l = 0 then l else []
theorem valL_ok {l : List Slc} (h : solChk l = 0) : valL l = l := by unfold valL; rw [if_pos h]
theorem valL_no {l : List Slc} (h : ¬ solChk l = 0) : valL l = [] := by unfold valL; rw [if_neg h]
theorem valL_V (l : List Slc) : SolV (valL l) := by
  by_cases h : solChk l = 0
  · rw [valL_ok h]; exact sol_V h
  · rw [valL_no h]; exact nil_V
theorem svalid_con (l : List Slc) (hn : l.length ≤ maxLen) : Con Tryz.prog gl 45 [LL l] (LL (valL l)) := by
  by_cases h : solChk l = 0
  · rw [valL_ok h]
    refine con_of Tryz.func45 rfl (by kernel_rfl) rfl ?_
    simp only [Tryz.ntmps45, Tryz.results45, argEnv, ofC, of1, List.map]
    repeat' (first
 | ((with_reducible apply r_call); exact rfl; exact rfl; exact scheck_con l hn; exact rfl; exact rfl)
 | ((with_reducible apply aw_seq))
 | ((with_reducible apply aw_region))
 | ((with_reducible apply thn_normal))
 | ((with_reducible apply aw_skip))
 | ((with_reducible apply aw_ret))
 | ((with_reducible apply ao_nil))
 | ((with_reducible apply r_move); exact rfl; exact rfl)
 | ((with_reducible apply r_assign); exact rfl; exact rfl)
 | ((with_reducible apply r_neq); exact rfl; exact rfl; exact rfl)
 | (((with_reducible apply aw_cond); exact rfl) <;> intro hg <;> (first | (exact absurd hg (by decide)) | ((try simp only [decide_eq_true_eq, decide_eq_false_iff_not, Bool.not_eq_true', Bool.not_eq_false', Bool.not_true, Bool.not_false, Bool.not_not, Int.not_lt, Int.not_le, Nat.not_lt, Nat.not_le, gt_iff_lt, ge_iff_le, List.cons.injEq, and_true] at hg); first | (exact absurd trivial hg) | (exfalso; omega) | (have hT : True := hg; clear hT hg) | skip)))
 )
    exact ret1 (.tmp rfl cl_c)
  · rw [valL_no h]
    refine con_of Tryz.func45 rfl (by kernel_rfl) rfl ?_
    simp only [Tryz.ntmps45, Tryz.results45, argEnv, ofC, of1, List.map]
    repeat' (first
 | ((with_reducible apply r_call); exact rfl; exact rfl; exact scheck_con l hn; exact rfl; exact rfl)
 | ((with_reducible apply aw_seq))
 | ((with_reducible apply aw_region))
 | ((with_reducible apply thn_normal))
 | ((with_reducible apply thn_ret))
 | ((with_reducible apply aw_ret))
 | ((with_reducible apply ao_nil))
 | ((with_reducible apply r_move); exact rfl; exact rfl)
 | ((with_reducible apply r_assign); exact rfl; exact rfl)
 | ((with_reducible apply r_neq); exact rfl; exact rfl; exact rfl)
 | (((with_reducible apply aw_cond); exact rfl) <;> intro hg <;> (first | (exact absurd hg (by decide)) | ((try simp only [decide_eq_true_eq, decide_eq_false_iff_not, Bool.not_eq_true', Bool.not_eq_false', Bool.not_true, Bool.not_false, Bool.not_not, Int.not_lt, Int.not_le, Nat.not_lt, Nat.not_le, gt_iff_lt, ge_iff_le, List.cons.injEq, and_true] at hg); first | (exact absurd trivial hg) | (exfalso; omega) | (have hT : True := hg; clear hT hg) | skip)))
 )
    exact ret1 (.tmp rfl cl_none)
theorem pos_mono {l : List Slc} (v : SolV l) : ∀ k j, j + k ≤ l.length → pos l j ≤ pos l (j + k)
  | 0, j, _ => Int.le_refl _
  | k + 1, j, h => by
    have ih := pos_mono v k j (by omega)
    have := v.one (j + k) (by omega)
    rw [← Nat.add_assoc, pos_succ, lenD_eq (show j + k < l.length by omega)]; omega
theorem pos_bd {l : List Slc} (v : SolV l) {j : Nat} (hj : j ≤ l.length) : 0 ≤ pos l j ∧ pos l j ≤ 20000 := by
  have h1 := pos_mono v j 0 (by omega)
  have h2 := pos_mono v (l.length - j) j (by omega)
  rw [show j + (l.length - j) = l.length by omega] at h2
  rw [Nat.zero_add] at h1
  have := v.all
  have h3 : pos l 0 = 0 := rfl
  omega
noncomputable def lengthS (l : List Slc) : Int := pos (valL l) (valL l).length
theorem slength_con (l : List Slc) (hn : l.length ≤ maxLen) : Con Tryz.prog gl 26 [LL l] (I (lengthS l)) := by
  have hv := svalid_con (gl := gl) l hn
  have v := valL_V l
  unfold lengthS
  generalize valL l = u at *
  have hu := v.n
  refine con_of Tryz.func26 rfl (by kernel_rfl) rfl ?_
  simp only [Tryz.ntmps26, Tryz.results26, argEnv, ofC, of1, List.map]
  repeat' (first
 | ((with_reducible apply r_call); exact rfl; exact rfl; exact hv; exact rfl; exact rfl)
 | ((with_reducible apply aw_seq))
 | ((with_reducible apply aw_region))
 | ((with_reducible apply aw_block))
 | ((with_reducible apply thn_normal))
 | ((with_reducible apply ao_nil))
 | ((with_reducible apply r_move); exact rfl; exact rfl)
 | ((with_reducible apply r_assign); exact rfl; exact rfl)
 | ((with_reducible apply r_len_f); exact rfl; exact inferInstance; exact rfl)
 )
  refine aw_loopG (G := Nat × Int) (fun ((j, t) : Nat × Int) => j ≤ u.length ∧ t = pos u j) (fun ((j, t) : Nat × Int) => u.length - j) (fun ((j, t) : Nat × Int) => [(3, A t), (7, .c (LL u)), (8, A u.length), (9, A j)]) (fun ((j, t) : Nat × Int) => []) 0 (0, 0) ?_ (by refine weak_mk rfl ?_ ?_ <;> repeat (first | exact envW_nil | exact heapW_nil | refine envW_cons rfl rfl ?_ | refine heapW_cons rfl rfl rfl ?_)) rfl ?_
  · exact ⟨Nat.zero_le _, rfl⟩
  rintro ⟨j, t⟩ hI
  try dsimp only at hI
  try dsimp only
  obtain ⟨hj, ht⟩ := hI
  have hb := pos_bd v hj
  by_cases hjl : j < u.length
  · have hb2 := pos_bd v (j := j + 1) (by omega)
    rw [pos_succ, lenD_eq hjl] at hb2
    repeat' (first
 | ((with_reducible apply aw_seq))
 | ((with_reducible apply aw_region))
 | ((with_reducible apply aw_block))
 | ((with_reducible apply thn_normal))
 | ((with_reducible apply inb_normal))
 | ((with_reducible apply aw_skip))
 | ((with_reducible apply ao_nil))
 | ((with_reducible apply r_move); exact rfl; exact rfl)
 | ((with_reducible apply r_assign); exact rfl; exact rfl)
 | ((with_reducible apply r_field_p); exact rfl; exact rfl)
 | ((with_reducible apply r_load_p); exact rfl; exact rfl; exact rfl; exact rfl)
 | ((with_reducible apply r_lss); exact rfl; exact rfl; exact rfl)
 | ((with_reducible apply r_add); exact rfl; exact rfl; exact (by first | assumption | (unfold fits; omega)); exact rfl)
 | ((with_reducible apply r_index_f); exact rfl; exact inferInstance; exact rfl; exact rfl; (first | assumption | omega); exact rfl)
 | ((with_reducible apply r_load_fa0); exact rfl; exact inferInstance; exact List.getElem?_eq_getElem (by first | assumption | omega); exact rfl; exact rfl; exact rfl)
 | ((with_reducible apply r_store_pa); exact rfl; exact rfl; exact rfl; exact rfl; exact rfl; exact rfl)
 | ((with_reducible apply r_alloc); exact rfl)
 | (((with_reducible apply aw_cond); exact rfl) <;> intro hg <;> (first | (exact absurd hg (by decide)) | ((try simp only [decide_eq_true_eq, decide_eq_false_iff_not, Bool.not_eq_true', Bool.not_eq_false', Bool.not_true, Bool.not_false, Bool.not_not, Int.not_lt, Int.not_le, Nat.not_lt, Nat.not_le, gt_iff_lt, ge_iff_le, List.cons.injEq, and_true] at hg); first | (exact absurd trivial hg) | (exfalso; omega) | (have hT : True := hg; clear hT hg) | skip)))
 )
    refine ⟨(j + 1, t + u[j].len), ?_, ?_, by refine weak_mk rfl ?_ ?_ <;> repeat (first | exact envW_nil | exact heapW_nil | refine envW_cons rfl rfl ?_ | refine heapW_cons rfl rfl rfl ?_)⟩
    · show _ - (j + 1) < _ - j; omega
    · exact ⟨by show j + 1 ≤ _; omega, by show t + u[j].len = _; rw [pos_succ, lenD_eq hjl, ht]⟩
  · obtain rfl : j = u.length := by omega
    repeat' (first
 | ((with_reducible apply aw_seq))
 | ((with_reducible apply aw_region))
 | ((with_reducible apply thn_normal))
 | ((with_reducible apply thn_exit))
 | ((with_reducible apply inb_exit))
 | ((with_reducible apply aw_exit))
 | ((with_reducible apply aw_ret))
 | ((with_reducible apply ao_nil))
 | ((with_reducible apply r_move); exact rfl; exact rfl)
 | ((with_reducible apply r_assign); exact rfl; exact rfl)
 | ((with_reducible apply r_lss); exact rfl; exact rfl; exact rfl)
 | (((with_reducible apply aw_cond); exact rfl) <;> intro hg <;> (first | (exact absurd hg (by decide)) | ((try simp only [decide_eq_true_eq, decide_eq_false_iff_not, Bool.not_eq_true', Bool.not_eq_false', Bool.not_true, Bool.not_false, Bool.not_not, Int.not_lt, Int.not_le, Nat.not_lt, Nat.not_le, gt_iff_lt, ge_iff_le, List.cons.injEq, and_true] at hg); first | (exact absurd trivial hg) | (exfalso; omega) | (have hT : True := hg; clear hT hg) | skip)))
 )
    exact ret_i rfl ht
theorem lengthS_no {l : List Slc} (h : ¬ solChk l = 0) : 0 = lengthS l := by unfold lengthS; rw [valL_no h]; rfl
theorem rslength_con (l : List Slc) (hn : l.length ≤ maxLen) : Con Tryz.prog gl 23 [LL l] (I (lengthS l)) := by
  have hc := rscheck_con (gl := gl) l hn
  refine con_of Tryz.func23 rfl (by kernel_rfl) rfl ?_
  simp only [Tryz.ntmps23, Tryz.results23, argEnv, ofC, of1, List.map]
  by_cases h : solChk l = 0
  rotate_left
  · skip
    repeat' (first
 | ((with_reducible apply r_call); exact rfl; exact rfl; exact hc; exact rfl; exact rfl)
 | ((with_reducible apply aw_seq))
 | ((with_reducible apply aw_region))
 | ((with_reducible apply thn_normal))
 | ((with_reducible apply thn_ret))
 | ((with_reducible apply aw_ret))
 | ((with_reducible apply ao_nil))
 | ((with_reducible apply r_move); exact rfl; exact rfl)
 | ((with_reducible apply r_assign); exact rfl; exact rfl)
 | ((with_reducible apply r_neq); exact rfl; exact rfl; exact rfl)
 | (((with_reducible apply aw_cond); exact rfl) <;> intro hg <;> (first | (exact absurd hg (by decide)) | ((try simp only [decide_eq_true_eq, decide_eq_false_iff_not, Bool.not_eq_true', Bool.not_eq_false', Bool.not_true, Bool.not_false, Bool.not_not, Int.not_lt, Int.not_le, Nat.not_lt, Nat.not_le, gt_iff_lt, ge_iff_le, List.cons.injEq, and_true] at hg); first | (exact absurd trivial hg) | (exfalso; omega) | (have hT : True := hg; clear hT hg) | skip)))
 )
    exact ret_i rfl (lengthS_no h)
  unfold lengthS
  rw [valL_ok h]
  have v := sol_V h
  have hu := v.n
  repeat' (first
 | ((with_reducible apply r_call); exact rfl; exact rfl; exact hc; exact rfl; exact rfl)
 | ((with_reducible apply aw_seq))
 | ((with_reducible apply aw_region))
 | ((with_reducible apply aw_block))
 | ((with_reducible apply thn_normal))
 | ((with_reducible apply aw_skip))
 | ((with_reducible apply ao_nil))
 | ((with_reducible apply r_move); exact rfl; exact rfl)
 | ((with_reducible apply r_assign); exact rfl; exact rfl)
 | ((with_reducible apply r_neq); exact rfl; exact rfl; exact rfl)
 | (((with_reducible apply aw_cond); exact rfl) <;> intro hg <;> (first | (exact absurd hg (by decide)) | ((try simp only [decide_eq_true_eq, decide_eq_false_iff_not, Bool.not_eq_true', Bool.not_eq_false', Bool.not_true, Bool.not_false, Bool.not_not, Int.not_lt, Int.not_le, Nat.not_lt, Nat.not_le, gt_iff_lt, ge_iff_le, List.cons.injEq, and_true] at hg); first | (exact absurd trivial hg) | (exfalso; omega) | (have hT : True := hg; clear hT hg) | skip)))
 )
  refine aw_loopG (G := Nat × Int) (fun ((j, t) : Nat × Int) => j ≤ l.length ∧ t = pos l j) (fun ((j, t) : Nat × Int) => l.length - j) (fun ((j, t) : Nat × Int) => [(0, .c (LL l)), (3, A t), (4, A j)]) (fun ((j, t) : Nat × Int) => []) 0 (0, 0) ?_ (by refine weak_mk rfl ?_ ?_ <;> repeat (first | exact envW_nil | exact heapW_nil | refine envW_cons rfl rfl ?_ | refine heapW_cons rfl rfl rfl ?_)) rfl ?_
  · exact ⟨Nat.zero_le _, rfl⟩
  rintro ⟨j, t⟩ hI
  try dsimp only at hI
  try dsimp only
  obtain ⟨hj, ht⟩ := hI
  have hb := pos_bd v hj
  by_cases hjl : j < l.length
  · have hb2 := pos_bd v (j := j + 1) (by omega)
    rw [pos_succ, lenD_eq hjl] at hb2
    repeat' (first
 | ((with_reducible apply aw_seq))
 | ((with_reducible apply aw_region))
 | ((with_reducible apply aw_block))
 | ((with_reducible apply thn_normal))
 | ((with_reducible apply inb_normal))
 | ((with_reducible apply aw_skip))
 | ((with_reducible apply ao_nil))
 | ((with_reducible apply r_move); exact rfl; exact rfl)
 | ((with_reducible apply r_assign); exact rfl; exact rfl)
 | ((with_reducible apply r_lss); exact rfl; exact rfl; exact rfl)
 | ((with_reducible apply r_add); exact rfl; exact rfl; exact (by first | assumption | (unfold fits; omega)); exact rfl)
 | ((with_reducible apply r_len_f); exact rfl; exact inferInstance; exact rfl)
 | ((with_reducible apply r_index_f); exact rfl; exact inferInstance; exact rfl; exact rfl; (first | assumption | omega); exact rfl)
 | ((with_reducible apply r_load_f0); exact rfl; exact inferInstance; exact List.getElem?_eq_getElem (by first | assumption | omega); exact rfl; exact rfl)
 | ((with_reducible apply r_field_e); exact rfl; exact rfl)
 | (((with_reducible apply aw_cond); exact rfl) <;> intro hg <;> (first | (exact absurd hg (by decide)) | ((try simp only [decide_eq_true_eq, decide_eq_false_iff_not, Bool.not_eq_true', Bool.not_eq_false', Bool.not_true, Bool.not_false, Bool.not_not, Int.not_lt, Int.not_le, Nat.not_lt, Nat.not_le, gt_iff_lt, ge_iff_le, List.cons.injEq, and_true] at hg); first | (exact absurd trivial hg) | (exfalso; omega) | (have hT : True := hg; clear hT hg) | skip)))
 )
    refine ⟨(j + 1, t + l[j].len), ?_, ?_, by refine weak_mk rfl ?_ ?_ <;> repeat (first | exact envW_nil | exact heapW_nil | refine envW_cons rfl rfl ?_ | refine heapW_cons rfl rfl rfl ?_)⟩
    · show _ - (j + 1) < _ - j; omega
    · exact ⟨by show j + 1 ≤ _; omega, by show t + l[j].len = _; rw [pos_succ, lenD_eq hjl, ht]⟩
  · obtain rfl : j = l.length := by omega
    repeat' (first
 | ((with_reducible apply aw_seq))
 | ((with_reducible apply aw_region))
 | ((with_reducible apply thn_normal))
 | ((with_reducible apply thn_exit))
 | ((with_reducible apply inb_exit))
 | ((with_reducible apply aw_exit))
 | ((with_reducible apply aw_ret))
 | ((with_reducible apply ao_nil))
 | ((with_reducible apply r_move); exact rfl; exact rfl)
 | ((with_reducible apply r_assign); exact rfl; exact rfl)
 | ((with_reducible apply r_lss); exact rfl; exact rfl; exact rfl)
 | ((with_reducible apply r_len_f); exact rfl; exact inferInstance; exact rfl)
 | (((with_reducible apply aw_cond); exact rfl) <;> intro hg <;> (first | (exact absurd hg (by decide)) | ((try simp only [decide_eq_true_eq, decide_eq_false_iff_not, Bool.not_eq_true', Bool.not_eq_false', Bool.not_true, Bool.not_false, Bool.not_not, Int.not_lt, Int.not_le, Nat.not_lt, Nat.not_le, gt_iff_lt, ge_iff_le, List.cons.injEq, and_true] at hg); first | (exact absurd trivial hg) | (exfalso; omega) | (have hT : True := hg; clear hT hg) | skip)))
 )
    exact ret_i rfl ht
def volV (l : List Slc) : Int := sumN (fun i => lenD l i * areaV (secD l i)) l.length
noncomputable def volS (l : List Slc) : Int := volV (valL l)
theorem area_V {s : Sec} (v : SecV s) : 0 ≤ areaV s ∧ areaV s ≤ 1440000 := by
  have := (sumN_bd (f := fun i => wid (rowD s i)) (c := 1200) (n := s.rows.length) (fun i hi => (wid_row v hi).2)) _ (Nat.le_refl _)
  have h2 := v.len
  unfold areaV; omega
theorem areaS_ok {s : Sec} (h : secChk s = 0) : areaS s = areaV s := by unfold areaS; rw [valS_ok h]
theorem len_bd {l : List Slc} (v : SolV l) {i : Nat} (hi : i < l.length) : 1 ≤ l[i].len ∧ l[i].len ≤ 20000 := by
  have h1 := v.one i hi
  have h2 := pos_bd v (j := i) (by omega)
  have h3 := pos_bd v (j := i + 1) (by omega)
  rw [pos_succ, lenD_eq hi] at h3; omega
theorem vol_bd {l : List Slc} (v : SolV l) {i : Nat} (hi : i < l.length) : 0 ≤ lenD l i * areaV (secD l i) ∧ lenD l i * areaV (secD l i) ≤ 28800000000 := by
  have h1 := len_bd v hi
  have h2 := area_V (chk_is (v.chk i hi))
  rw [lenD_eq hi, secD_eq hi]
  exact mul_bd2 (m := 20000) (k := 1440000) ⟨by omega, by omega⟩ h2
theorem svolume_con (l : List Slc) (hn : l.length ≤ maxLen) : Con Tryz.prog gl 49 [LL l] (I (volS l)) := by
  have hv := svalid_con (gl := gl) l hn
  have v := valL_V l
  unfold volS volV
  generalize valL l = u at *
  have hu := v.n
  have hb := sumN_bd (c := 28800000000) (n := u.length) (fun i hi => vol_bd v hi)
  refine con_of Tryz.func49 rfl (by kernel_rfl) rfl ?_
  simp only [Tryz.ntmps49, Tryz.results49, argEnv, ofC, of1, List.map]
  repeat' (first
 | ((with_reducible apply r_call); exact rfl; exact rfl; exact hv; exact rfl; exact rfl)
 | ((with_reducible apply aw_seq))
 | ((with_reducible apply aw_region))
 | ((with_reducible apply aw_block))
 | ((with_reducible apply thn_normal))
 | ((with_reducible apply ao_nil))
 | ((with_reducible apply r_move); exact rfl; exact rfl)
 | ((with_reducible apply r_assign); exact rfl; exact rfl)
 | ((with_reducible apply r_len_f); exact rfl; exact inferInstance; exact rfl)
 )
  refine aw_loopG (G := Nat × Int) (fun ((j, t) : Nat × Int) => j ≤ u.length ∧ t = sumN (fun i => lenD u i * areaV (secD u i)) j) (fun ((j, t) : Nat × Int) => u.length - j) (fun ((j, t) : Nat × Int) => [(3, A t), (7, .c (LL u)), (8, A u.length), (9, A j)]) (fun ((j, t) : Nat × Int) => []) 0 (0, 0) ?_ (by refine weak_mk rfl ?_ ?_ <;> repeat (first | exact envW_nil | exact heapW_nil | refine envW_cons rfl rfl ?_ | refine heapW_cons rfl rfl rfl ?_)) rfl ?_
  · exact ⟨Nat.zero_le _, rfl⟩
  rintro ⟨j, t⟩ hI
  try dsimp only at hI
  try dsimp only
  obtain ⟨hj, ht⟩ := hI
  have hbj := hb j hj
  rw [← ht] at hbj
  by_cases hjl : j < u.length
  · have hx := vol_bd v hjl
    rw [lenD_eq hjl, secD_eq hjl] at hx
    have ha := area_con (gl := gl) u[j].sec
    rw [areaS_ok (v.chk j hjl)] at ha
    have hf : fits (u[j].len * areaV u[j].sec) := by unfold fits; omega
    have hf2 : fits (t + u[j].len * areaV u[j].sec) := by unfold fits; omega
    repeat' (first
 | ((with_reducible apply r_call); exact rfl; exact rfl; exact ha; exact rfl; exact rfl)
 | ((with_reducible apply aw_seq))
 | ((with_reducible apply aw_region))
 | ((with_reducible apply aw_block))
 | ((with_reducible apply thn_normal))
 | ((with_reducible apply inb_normal))
 | ((with_reducible apply aw_skip))
 | ((with_reducible apply ao_nil))
 | ((with_reducible apply r_move); exact rfl; exact rfl)
 | ((with_reducible apply r_assign); exact rfl; exact rfl)
 | ((with_reducible apply r_field_p); exact rfl; exact rfl)
 | ((with_reducible apply r_load_p); exact rfl; exact rfl; exact rfl; exact rfl)
 | ((with_reducible apply r_load_pa); exact rfl; exact rfl; exact rfl; exact rfl; exact rfl)
 | ((with_reducible apply r_lss); exact rfl; exact rfl; exact rfl)
 | ((with_reducible apply r_add); exact rfl; exact rfl; exact (by first | assumption | (unfold fits; omega)); exact rfl)
 | ((with_reducible apply r_mul); exact rfl; exact rfl; exact (by first | assumption | (unfold fits; omega)); exact rfl)
 | ((with_reducible apply r_index_f); exact rfl; exact inferInstance; exact rfl; exact rfl; (first | assumption | omega); exact rfl)
 | ((with_reducible apply r_load_fa0); exact rfl; exact inferInstance; exact List.getElem?_eq_getElem (by first | assumption | omega); exact rfl; exact rfl; exact rfl)
 | ((with_reducible apply r_store_pa); exact rfl; exact rfl; exact rfl; exact rfl; exact rfl; exact rfl)
 | ((with_reducible apply r_alloc); exact rfl)
 | (((with_reducible apply aw_cond); exact rfl) <;> intro hg <;> (first | (exact absurd hg (by decide)) | ((try simp only [decide_eq_true_eq, decide_eq_false_iff_not, Bool.not_eq_true', Bool.not_eq_false', Bool.not_true, Bool.not_false, Bool.not_not, Int.not_lt, Int.not_le, Nat.not_lt, Nat.not_le, gt_iff_lt, ge_iff_le, List.cons.injEq, and_true] at hg); first | (exact absurd trivial hg) | (exfalso; omega) | (have hT : True := hg; clear hT hg) | skip)))
 | (refine aw_drawq ?_ ?_; (kernel_rfl))
 | ((with_reducible apply ds_nil))
 )
    refine ⟨(j + 1, t + u[j].len * areaV u[j].sec), ?_, ?_, by refine weak_mk rfl ?_ ?_ <;> repeat (first | exact envW_nil | exact heapW_nil | refine envW_cons rfl rfl ?_ | refine heapW_cons rfl rfl rfl ?_)⟩
    · show _ - (j + 1) < _ - j; omega
    · exact ⟨by show j + 1 ≤ _; omega, by show t + _ = sumN _ j + lenD u j * areaV (secD u j); rw [ht, lenD_eq hjl, secD_eq hjl]⟩
  · obtain rfl : j = u.length := by omega
    repeat' (first
 | ((with_reducible apply aw_seq))
 | ((with_reducible apply aw_region))
 | ((with_reducible apply thn_normal))
 | ((with_reducible apply thn_exit))
 | ((with_reducible apply inb_exit))
 | ((with_reducible apply aw_exit))
 | ((with_reducible apply aw_ret))
 | ((with_reducible apply ao_nil))
 | ((with_reducible apply r_move); exact rfl; exact rfl)
 | ((with_reducible apply r_assign); exact rfl; exact rfl)
 | ((with_reducible apply r_lss); exact rfl; exact rfl; exact rfl)
 | (((with_reducible apply aw_cond); exact rfl) <;> intro hg <;> (first | (exact absurd hg (by decide)) | ((try simp only [decide_eq_true_eq, decide_eq_false_iff_not, Bool.not_eq_true', Bool.not_eq_false', Bool.not_true, Bool.not_false, Bool.not_not, Int.not_lt, Int.not_le, Nat.not_lt, Nat.not_le, gt_iff_lt, ge_iff_le, List.cons.injEq, and_true] at hg); first | (exact absurd trivial hg) | (exfalso; omega) | (have hT : True := hg; clear hT hg) | skip)))
 )
    exact ret_i rfl ht
theorem volS_no {l : List Slc} (h : ¬ solChk l = 0) : 0 = volS l := by unfold volS; rw [valL_no h]; rfl
theorem rsvolume_con (l : List Slc) (hn : l.length ≤ maxLen) : Con Tryz.prog gl 54 [LL l] (I (volS l)) := by
  have hc := rscheck_con (gl := gl) l hn
  refine con_of Tryz.func54 rfl (by kernel_rfl) rfl ?_
  simp only [Tryz.ntmps54, Tryz.results54, argEnv, ofC, of1, List.map]
  by_cases h : solChk l = 0
  rotate_left
  · skip
    repeat' (first
 | ((with_reducible apply r_call); exact rfl; exact rfl; exact hc; exact rfl; exact rfl)
 | ((with_reducible apply aw_seq))
 | ((with_reducible apply aw_region))
 | ((with_reducible apply thn_normal))
 | ((with_reducible apply thn_ret))
 | ((with_reducible apply aw_ret))
 | ((with_reducible apply ao_nil))
 | ((with_reducible apply r_move); exact rfl; exact rfl)
 | ((with_reducible apply r_assign); exact rfl; exact rfl)
 | ((with_reducible apply r_neq); exact rfl; exact rfl; exact rfl)
 | (((with_reducible apply aw_cond); exact rfl) <;> intro hg <;> (first | (exact absurd hg (by decide)) | ((try simp only [decide_eq_true_eq, decide_eq_false_iff_not, Bool.not_eq_true', Bool.not_eq_false', Bool.not_true, Bool.not_false, Bool.not_not, Int.not_lt, Int.not_le, Nat.not_lt, Nat.not_le, gt_iff_lt, ge_iff_le, List.cons.injEq, and_true] at hg); first | (exact absurd trivial hg) | (exfalso; omega) | (have hT : True := hg; clear hT hg) | skip)))
 )
    exact ret_i rfl (volS_no h)
  unfold volS volV
  rw [valL_ok h]
  have v := sol_V h
  have hu := v.n
  have hb := sumN_bd (c := 28800000000) (n := l.length) (fun i hi => vol_bd v hi)
  repeat' (first
 | ((with_reducible apply r_call); exact rfl; exact rfl; exact hc; exact rfl; exact rfl)
 | ((with_reducible apply aw_seq))
 | ((with_reducible apply aw_region))
 | ((with_reducible apply aw_block))
 | ((with_reducible apply thn_normal))
 | ((with_reducible apply aw_skip))
 | ((with_reducible apply ao_nil))
 | ((with_reducible apply r_move); exact rfl; exact rfl)
 | ((with_reducible apply r_assign); exact rfl; exact rfl)
 | ((with_reducible apply r_neq); exact rfl; exact rfl; exact rfl)
 | (((with_reducible apply aw_cond); exact rfl) <;> intro hg <;> (first | (exact absurd hg (by decide)) | ((try simp only [decide_eq_true_eq, decide_eq_false_iff_not, Bool.not_eq_true', Bool.not_eq_false', Bool.not_true, Bool.not_false, Bool.not_not, Int.not_lt, Int.not_le, Nat.not_lt, Nat.not_le, gt_iff_lt, ge_iff_le, List.cons.injEq, and_true] at hg); first | (exact absurd trivial hg) | (exfalso; omega) | (have hT : True := hg; clear hT hg) | skip)))
 )
  refine aw_loopG (G := Nat × Int) (fun ((j, t) : Nat × Int) => j ≤ l.length ∧ t = sumN (fun i => lenD l i * areaV (secD l i)) j) (fun ((j, t) : Nat × Int) => l.length - j) (fun ((j, t) : Nat × Int) => [(0, .c (LL l)), (3, A t), (4, A j)]) (fun ((j, t) : Nat × Int) => []) 0 (0, 0) ?_ (by refine weak_mk rfl ?_ ?_ <;> repeat (first | exact envW_nil | exact heapW_nil | refine envW_cons rfl rfl ?_ | refine heapW_cons rfl rfl rfl ?_)) rfl ?_
  · exact ⟨Nat.zero_le _, rfl⟩
  rintro ⟨j, t⟩ hI
  try dsimp only at hI
  try dsimp only
  obtain ⟨hj, ht⟩ := hI
  have hbj := hb j hj
  rw [← ht] at hbj
  by_cases hjl : j < l.length
  · have hx := vol_bd v hjl
    rw [lenD_eq hjl, secD_eq hjl] at hx
    have ha := rarea_con (gl := gl) l[j].sec
    rw [areaS_ok (v.chk j hjl)] at ha
    have hf : fits (l[j].len * areaV l[j].sec) := by unfold fits; omega
    have hf2 : fits (t + l[j].len * areaV l[j].sec) := by unfold fits; omega
    repeat' (first
 | ((with_reducible apply r_call); exact rfl; exact rfl; exact ha; exact rfl; exact rfl)
 | ((with_reducible apply aw_seq))
 | ((with_reducible apply aw_region))
 | ((with_reducible apply aw_block))
 | ((with_reducible apply thn_normal))
 | ((with_reducible apply inb_normal))
 | ((with_reducible apply aw_skip))
 | ((with_reducible apply ao_nil))
 | ((with_reducible apply r_move); exact rfl; exact rfl)
 | ((with_reducible apply r_assign); exact rfl; exact rfl)
 | ((with_reducible apply r_lss); exact rfl; exact rfl; exact rfl)
 | ((with_reducible apply r_add); exact rfl; exact rfl; exact (by first | assumption | (unfold fits; omega)); exact rfl)
 | ((with_reducible apply r_mul); exact rfl; exact rfl; exact (by first | assumption | (unfold fits; omega)); exact rfl)
 | ((with_reducible apply r_len_f); exact rfl; exact inferInstance; exact rfl)
 | ((with_reducible apply r_index_f); exact rfl; exact inferInstance; exact rfl; exact rfl; (first | assumption | omega); exact rfl)
 | ((with_reducible apply r_load_f0); exact rfl; exact inferInstance; exact List.getElem?_eq_getElem (by first | assumption | omega); exact rfl; exact rfl)
 | ((with_reducible apply r_load_fa); exact rfl; exact inferInstance; exact List.getElem?_eq_getElem (by first | assumption | omega); exact rfl; exact rfl; exact rfl)
 | ((with_reducible apply r_field_e); exact rfl; exact rfl)
 | (((with_reducible apply aw_cond); exact rfl) <;> intro hg <;> (first | (exact absurd hg (by decide)) | ((try simp only [decide_eq_true_eq, decide_eq_false_iff_not, Bool.not_eq_true', Bool.not_eq_false', Bool.not_true, Bool.not_false, Bool.not_not, Int.not_lt, Int.not_le, Nat.not_lt, Nat.not_le, gt_iff_lt, ge_iff_le, List.cons.injEq, and_true] at hg); first | (exact absurd trivial hg) | (exfalso; omega) | (have hT : True := hg; clear hT hg) | skip)))
 | (refine aw_drawq ?_ ?_; (kernel_rfl))
 | ((with_reducible apply ds_nil))
 )
    refine ⟨(j + 1, t + l[j].len * areaV l[j].sec), ?_, ?_, by refine weak_mk rfl ?_ ?_ <;> repeat (first | exact envW_nil | exact heapW_nil | refine envW_cons rfl rfl ?_ | refine heapW_cons rfl rfl rfl ?_)⟩
    · show _ - (j + 1) < _ - j; omega
    · exact ⟨by show j + 1 ≤ _; omega, by show t + _ = sumN _ j + lenD l j * areaV (secD l j); rw [ht, lenD_eq hjl, secD_eq hjl]⟩
  · obtain rfl : j = l.length := by omega
    repeat' (first
 | ((with_reducible apply aw_seq))
 | ((with_reducible apply aw_region))
 | ((with_reducible apply thn_normal))
 | ((with_reducible apply thn_exit))
 | ((with_reducible apply inb_exit))
 | ((with_reducible apply aw_exit))
 | ((with_reducible apply aw_ret))
 | ((with_reducible apply ao_nil))
 | ((with_reducible apply r_move); exact rfl; exact rfl)
 | ((with_reducible apply r_assign); exact rfl; exact rfl)
 | ((with_reducible apply r_lss); exact rfl; exact rfl; exact rfl)
 | ((with_reducible apply r_len_f); exact rfl; exact inferInstance; exact rfl)
 | (((with_reducible apply aw_cond); exact rfl) <;> intro hg <;> (first | (exact absurd hg (by decide)) | ((try simp only [decide_eq_true_eq, decide_eq_false_iff_not, Bool.not_eq_true', Bool.not_eq_false', Bool.not_true, Bool.not_false, Bool.not_not, Int.not_lt, Int.not_le, Nat.not_lt, Nat.not_le, gt_iff_lt, ge_iff_le, List.cons.injEq, and_true] at hg); first | (exact absurd trivial hg) | (exfalso; omega) | (have hT : True := hg; clear hT hg) | skip)))
 )
    exact ret_i rfl ht
def extL (l : List Slc) : List Span := (List.range l.length).map fun i => (pos l i, pos l i + lenD l i)
theorem extL_len (l : List Slc) : (extL l).length = l.length := by simp [extL]
theorem extL_get (l : List Slc) (i : Nat) (h : i < (extL l).length) : (extL l)[i] = (pos l i, pos l i + lenD l i) := by simp [extL]
theorem extents_con (l : List Slc) (v : SolV l) : Con Tryz.prog gl 76 [LL l] (LS (extL l)) := by
  have hn := v.n
  refine con_of Tryz.func76 rfl (by kernel_rfl) rfl ?_
  simp only [Tryz.ntmps76, Tryz.results76, argEnv, ofC, of1, List.map]
  repeat' (first
 | ((with_reducible apply r_make (enc := spC) (0, 0) l.length); exact inferInstance; exact rfl; exact rfl; exact rfl; exact rfl; exact rfl; omega; omega; exact rfl)
 | ((with_reducible apply aw_seq))
 | ((with_reducible apply aw_region))
 | ((with_reducible apply aw_block))
 | ((with_reducible apply thn_normal))
 | ((with_reducible apply ao_nil))
 | ((with_reducible apply r_move); exact rfl; exact rfl)
 | ((with_reducible apply r_assign); exact rfl; exact rfl)
 | ((with_reducible apply r_len_f); exact rfl; exact inferInstance; exact rfl)
 )
  refine aw_loopG (G := Nat × Int × List Span) (fun ((j, t, s) : Nat × Int × List Span) => j ≤ l.length ∧ t = pos l j ∧ s.length = l.length ∧ ∀ i (h : i < s.length), i < j → s[i] = (pos l i, pos l i + lenD l i)) (fun ((j, t, s) : Nat × Int × List Span) => l.length - j) (fun ((j, t, s) : Nat × Int × List Span) => [(3, .vec 0 l.length), (4, A t), (10, .c (LL l)), (11, A l.length), (12, A j)]) (fun ((j, t, s) : Nat × Int × List Span) => [(0, some (.vec 68 2 (s.flatMap spC)))]) 1 (0, 0, List.replicate l.length (0, 0)) ?_ (by refine weak_mk rfl ?_ ?_ <;> repeat (first | exact envW_nil | exact heapW_nil | refine envW_cons rfl rfl ?_ | refine heapW_cons rfl rfl rfl ?_)) rfl ?_
  · exact ⟨Nat.zero_le _, rfl, by simp, fun _ _ h => absurd h (Nat.not_lt_zero _)⟩
  rintro ⟨j, t, s⟩ hI
  try dsimp only at hI
  try dsimp only
  obtain ⟨hj, ht, hs, hall⟩ := hI
  have hb := pos_bd v hj
  by_cases hjl : j < l.length
  · have hb2 := pos_bd v (j := j + 1) (by omega)
    rw [pos_succ, lenD_eq hjl] at hb2
    repeat' (first
 | ((with_reducible apply (r_store_v (enc := spC) (k := j) (l := s) (t, t + l[j].len))); exact rfl; exact rfl; exact inferInstance; exact hs; exact (by omega); exact rfl; exact rfl; exact rfl; exact rfl)
 | ((with_reducible apply aw_seq))
 | ((with_reducible apply aw_region))
 | ((with_reducible apply aw_block))
 | ((with_reducible apply thn_normal))
 | ((with_reducible apply inb_normal))
 | ((with_reducible apply aw_skip))
 | ((with_reducible apply ao_nil))
 | ((with_reducible apply r_move); exact rfl; exact rfl)
 | ((with_reducible apply r_assign); exact rfl; exact rfl)
 | ((with_reducible apply r_field_p); exact rfl; exact rfl)
 | ((with_reducible apply r_load_p); exact rfl; exact rfl; exact rfl; exact rfl)
 | ((with_reducible apply r_lss); exact rfl; exact rfl; exact rfl)
 | ((with_reducible apply r_add); exact rfl; exact rfl; exact (by first | assumption | (unfold fits; omega)); exact rfl)
 | ((with_reducible apply r_index_f); exact rfl; exact inferInstance; exact rfl; exact rfl; (first | assumption | omega); exact rfl)
 | ((with_reducible apply r_load_fa0); exact rfl; exact inferInstance; exact List.getElem?_eq_getElem (by first | assumption | omega); exact rfl; exact rfl; exact rfl)
 | ((with_reducible apply r_index_vf); exact rfl; exact rfl; exact inferInstance; (first | exact rfl | assumption | omega); exact rfl; exact rfl; (first | assumption | omega); exact rfl)
 | ((with_reducible apply r_store_pa); exact rfl; exact rfl; exact rfl; exact rfl; exact rfl; exact rfl)
 | ((with_reducible apply r_build); exact rfl; exact rfl; exact rfl)
 | ((with_reducible apply r_alloc); exact rfl)
 | (((with_reducible apply aw_cond); exact rfl) <;> intro hg <;> (first | (exact absurd hg (by decide)) | ((try simp only [decide_eq_true_eq, decide_eq_false_iff_not, Bool.not_eq_true', Bool.not_eq_false', Bool.not_true, Bool.not_false, Bool.not_not, Int.not_lt, Int.not_le, Nat.not_lt, Nat.not_le, gt_iff_lt, ge_iff_le, List.cons.injEq, and_true] at hg); first | (exact absurd trivial hg) | (exfalso; omega) | (have hT : True := hg; clear hT hg) | skip)))
 )
    refine ⟨(j + 1, t + l[j].len, s.set j (t, t + l[j].len)), ?_, ?_, by refine weak_mk rfl ?_ ?_ <;> repeat (first | exact envW_nil | exact heapW_nil | refine envW_cons rfl rfl ?_ | refine heapW_cons rfl rfl rfl ?_)⟩
    · show _ - (j + 1) < _ - j; omega
    · refine ⟨by show j + 1 ≤ _; omega, by show t + l[j].len = _; rw [pos_succ, lenD_eq hjl, ht], by simp [hs], fun i hi hij => ?_⟩
      by_cases he : i = j
      · subst he; rw [List.getElem_set_self, ht, lenD_eq hjl]
      · have hij' : i < j + 1 := hij
        rw [List.getElem_set_ne (by omega)]; exact hall i (by simpa using hi) (by omega)
  · obtain rfl : j = l.length := by omega
    have e : s = extL l := List.ext_getElem (by rw [hs, extL_len]) (fun i h1 h2 => by rw [hall i h1 (by omega), extL_get])
    repeat' (first
 | ((with_reducible apply aw_seq))
 | ((with_reducible apply aw_region))
 | ((with_reducible apply thn_normal))
 | ((with_reducible apply thn_exit))
 | ((with_reducible apply inb_exit))
 | ((with_reducible apply aw_exit))
 | ((with_reducible apply aw_ret))
 | ((with_reducible apply ao_nil))
 | ((with_reducible apply r_move); exact rfl; exact rfl)
 | ((with_reducible apply r_assign); exact rfl; exact rfl)
 | ((with_reducible apply r_lss); exact rfl; exact rfl; exact rfl)
 | (((with_reducible apply aw_cond); exact rfl) <;> intro hg <;> (first | (exact absurd hg (by decide)) | ((try simp only [decide_eq_true_eq, decide_eq_false_iff_not, Bool.not_eq_true', Bool.not_eq_false', Bool.not_true, Bool.not_false, Bool.not_not, Int.not_lt, Int.not_le, Nat.not_lt, Nat.not_le, gt_iff_lt, ge_iff_le, List.cons.injEq, and_true] at hg); first | (exact absurd trivial hg) | (exfalso; omega) | (have hT : True := hg; clear hT hg) | skip)))
 )
    rw [← e]
    exact ret1 (.tmp rfl (cl_vec rfl (by rw [flat_len EncL.len, hs])))
end Go.Proofs.YtkhljpbkebnnmaaGreatDoor.Ge
/- Walks of geometry: solids: Within, At, Cut in both. -/
namespace Go.Proofs.YtkhljpbkebnnmaaGreatDoor.Ge
set_option linter.unusedVariables false
set_option linter.unusedSimpArgs false
open Go.RowKit Go.Proofs.YtkhljpbkebnnmaaGreatDoor.Ev
variable {gl : List (Nat × List CV)}
theorem cloneS_con (l : List Span) (hn : l.length ≤ 100000) : Con Tryz.prog gl 101 [LS l] (LS l) := by
  refine con_of Tryz.func101 rfl (by kernel_rfl) rfl ?_
  simp only [Tryz.ntmps101, Tryz.results101, argEnv, ofC, of1, List.map]
  repeat' (first
 | ((with_reducible apply r_eqnil); exact rfl; exact rfl; exact rfl; intro nb hnb)
 | ((with_reducible apply (r_appendl (enc := spC) (l := []) (l2 := l))); exact rfl; exact rfl; exact inferInstance; exact rfl; exact rfl; exact (by omega); exact (by omega); exact rfl)
 | ((with_reducible apply aw_seq))
 | ((with_reducible apply aw_region))
 | ((with_reducible apply thn_normal))
 | ((with_reducible apply thn_ret))
 | ((with_reducible apply aw_skip))
 | ((with_reducible apply aw_ret))
 | ((with_reducible apply ao_nil))
 | ((with_reducible apply r_move); exact rfl; exact rfl)
 | ((with_reducible apply r_assign); exact rfl; exact rfl)
 | (((with_reducible apply aw_cond); exact rfl) <;> intro hg <;> (first | (exact absurd hg (by decide)) | ((try simp only [decide_eq_true_eq, decide_eq_false_iff_not, Bool.not_eq_true', Bool.not_eq_false', Bool.not_true, Bool.not_false, Bool.not_not, Int.not_lt, Int.not_le, Nat.not_lt, Nat.not_le, gt_iff_lt, ge_iff_le, List.cons.injEq, and_true] at hg); first | (exact absurd trivial hg) | (exfalso; omega) | (have hT : True := hg; clear hT hg) | skip)))
 | ((with_reducible apply r_lit0); exact rfl)
 )
  · have : l = [] := by
      cases l with
      | nil => rfl
      | cons a l => have := hnb (by simp [spC]); subst this; cases hg
    subst this
    exact ret1 (.tmp rfl cl_none)
  · exact ret1 (.tmp rfl (cl_vec rfl (by rw [flat_len EncL.len]; simp)))
theorem clone_con (s : Sec) (hn : s.rows.length ≤ 100000) : Con Tryz.prog gl 79 [secC s] (secC s) := by
  have h := cloneS_con (gl := gl) s.rows hn
  refine con_of Tryz.func79 rfl (by kernel_rfl) rfl ?_
  simp only [Tryz.ntmps79, Tryz.results79, argEnv, ofC, of1, List.map]
  repeat' (first
 | (refine aw_drawt 6 ?_ ?_; (kernel_rfl); (simp only [List.take_succ_cons, List.take_zero, List.drop_succ_cons, List.drop_zero]))
 | ((with_reducible apply r_call); exact rfl; exact rfl; exact h; exact rfl; exact rfl)
 | ((with_reducible apply aw_seq))
 | ((with_reducible apply aw_region))
 | ((with_reducible apply thn_normal))
 | ((with_reducible apply aw_ret))
 | ((with_reducible apply ao_nil))
 | ((with_reducible apply r_field_p); exact rfl; exact rfl)
 | ((with_reducible apply r_load_p); exact rfl; exact rfl; exact rfl; exact rfl)
 | ((with_reducible apply r_box_a); exact rfl; exact rfl)
 | ((with_reducible apply r_store_pa); exact rfl; exact rfl; exact rfl; exact rfl; exact rfl; exact rfl)
 | ((with_reducible apply r_build); exact rfl; exact rfl; exact rfl)
 | ((with_reducible apply r_alloc); exact rfl)
 | ((with_reducible apply ds_nil))
 )
  exact ret1 (.cell_a inferInstance rfl rfl rfl rfl (cl_cons cl_c (cl_cons cl_c cl_nil)))
def ovZ (l : List Slc) (Z : Span) (i : Nat) : Int := ov (pos l i, pos l i + lenD l i) Z
theorem ext_meet {l : List Slc} (v : SolV l) {j : Nat} (hj : j < l.length) (Z : Span) : Con Tryz.prog gl 77 [spV (meetS (pos l j, pos l j + lenD l j) Z)] (I (ovZ l Z j)) := by
  have h1 := pos_bd v (j := j) (by omega)
  have h2 := pos_bd v (j := j + 1) (by omega)
  have h3 := v.one j hj
  rw [pos_succ] at h2
  rw [← lenD_eq hj] at h3
  exact len_meet (by dsimp only; omega)
theorem part_con (a b c d : Int) (h : 0 ≤ c ∧ 0 ≤ d ∧ c + d ≤ 20000 ∧ fits a) : Con Tryz.prog gl 109 [.agg [I a, I b], I c, I d] (I (ov (c, c + d) (a, b))) := by
  have h' := h.2.2.2
  unfold fits at h'
  refine con_of Tryz.func109 rfl (by kernel_rfl) rfl ?_
  simp only [Tryz.ntmps109, Tryz.results109, argEnv, ofC, of1, List.map]
  by_cases h2 : max a c < min b (c + d)
  · skip
    repeat' (first
 | ((with_reducible apply aw_seq))
 | ((with_reducible apply aw_region))
 | ((with_reducible apply thn_normal))
 | ((with_reducible apply aw_skip))
 | ((with_reducible apply aw_ret))
 | ((with_reducible apply ao_nil))
 | ((with_reducible apply r_move); exact rfl; exact rfl)
 | ((with_reducible apply r_assign); exact rfl; exact rfl)
 | ((with_reducible apply r_field_p); exact rfl; exact rfl)
 | ((with_reducible apply r_load_p); exact rfl; exact rfl; exact rfl; exact rfl)
 | ((with_reducible apply r_geq); exact rfl; exact rfl; exact rfl)
 | ((with_reducible apply r_add); exact rfl; exact rfl; exact (by first | assumption | (unfold fits; omega)); exact rfl)
 | ((with_reducible apply r_sub); exact rfl; exact rfl; exact (by first | assumption | (unfold fits; omega)); exact rfl)
 | ((with_reducible apply r_max); exact rfl; exact rfl; exact rfl)
 | ((with_reducible apply r_min); exact rfl; exact rfl; exact rfl)
 | ((with_reducible apply r_box_a); exact rfl; exact rfl)
 | (((with_reducible apply aw_cond); exact rfl) <;> intro hg <;> (first | (exact absurd hg (by decide)) | ((try simp only [decide_eq_true_eq, decide_eq_false_iff_not, Bool.not_eq_true', Bool.not_eq_false', Bool.not_true, Bool.not_false, Bool.not_not, Int.not_lt, Int.not_le, Nat.not_lt, Nat.not_le, gt_iff_lt, ge_iff_le, List.cons.injEq, and_true] at hg); first | (exact absurd trivial hg) | (exfalso; omega) | (have hT : True := hg; clear hT hg) | skip)))
 | (refine aw_drawq ?_ ?_; (kernel_rfl))
 | ((with_reducible apply ds_nil))
 )
    exact ret_i rfl (by unfold ov; dsimp only; omega)
  · skip
    repeat' (first
 | ((with_reducible apply aw_seq))
 | ((with_reducible apply aw_region))
 | ((with_reducible apply thn_normal))
 | ((with_reducible apply thn_ret))
 | ((with_reducible apply aw_ret))
 | ((with_reducible apply ao_nil))
 | ((with_reducible apply r_move); exact rfl; exact rfl)
 | ((with_reducible apply r_assign); exact rfl; exact rfl)
 | ((with_reducible apply r_field_p); exact rfl; exact rfl)
 | ((with_reducible apply r_load_p); exact rfl; exact rfl; exact rfl; exact rfl)
 | ((with_reducible apply r_geq); exact rfl; exact rfl; exact rfl)
 | ((with_reducible apply r_add); exact rfl; exact rfl; exact (by first | assumption | (unfold fits; omega)); exact rfl)
 | ((with_reducible apply r_max); exact rfl; exact rfl; exact rfl)
 | ((with_reducible apply r_min); exact rfl; exact rfl; exact rfl)
 | ((with_reducible apply r_box_a); exact rfl; exact rfl)
 | (((with_reducible apply aw_cond); exact rfl) <;> intro hg <;> (first | (exact absurd hg (by decide)) | ((try simp only [decide_eq_true_eq, decide_eq_false_iff_not, Bool.not_eq_true', Bool.not_eq_false', Bool.not_true, Bool.not_false, Bool.not_not, Int.not_lt, Int.not_le, Nat.not_lt, Nat.not_le, gt_iff_lt, ge_iff_le, List.cons.injEq, and_true] at hg); first | (exact absurd trivial hg) | (exfalso; omega) | (have hT : True := hg; clear hT hg) | skip)))
 | (refine aw_drawq ?_ ?_; (kernel_rfl))
 | ((with_reducible apply ds_nil))
 )
    exact ret_i rfl (by unfold ov; dsimp only; omega)
theorem clip_ov {l : List Slc} (v : SolV l) {j : Nat} (hj : j < l.length) (Z : Span) : ov (pos l j, pos l j + lenD l j) (max Z.1 0, min Z.2 20000) = ovZ l Z j := by
  have h1 := pos_bd v (j := j) (by omega)
  have h2 := pos_bd v (j := j + 1) (by omega)
  rw [pos_succ] at h2
  unfold ovZ ov; dsimp only; omega
def cutN (l : List Slc) (Z : Span) : Nat → List Slc
  | 0 => []
  | j + 1 => if 0 < ovZ l Z j then cutN l Z j ++ [⟨ovZ l Z j, secD l j⟩] else cutN l Z j
def cutV (l : List Slc) (Z : Span) : List Slc := cutN l Z l.length
noncomputable def cutS (l : List Slc) (Z : Span) : List Slc := cutV (valL l) Z
theorem cutN_len (l : List Slc) (Z : Span) : ∀ j, (cutN l Z j).length ≤ j
  | 0 => Nat.le_refl _
  | j + 1 => by
    have := cutN_len l Z j
    unfold cutN; split
    · simp; omega
    · omega
theorem cutN_yes {l : List Slc} {Z : Span} {j : Nat} (h : 0 < ovZ l Z j) : cutN l Z j ++ [⟨ovZ l Z j, secD l j⟩] = cutN l Z (j + 1) := by
  show _ = if 0 < ovZ l Z j then cutN l Z j ++ [⟨ovZ l Z j, secD l j⟩] else cutN l Z j
  rw [if_pos h]
theorem cutN_no {l : List Slc} {Z : Span} {j : Nat} (h : ¬ 0 < ovZ l Z j) : cutN l Z j = cutN l Z (j + 1) := by
  show _ = if 0 < ovZ l Z j then cutN l Z j ++ [⟨ovZ l Z j, secD l j⟩] else cutN l Z j
  rw [if_neg h]
theorem scut_con (l : List Slc) (hn : l.length ≤ maxLen) (Z : Span) : Con Tryz.prog gl 46 [LL l, spV Z] (LL (cutS l Z)) := by
  have hv := svalid_con (gl := gl) l hn
  have v := valL_V l
  unfold cutS cutV
  generalize valL l = u at *
  have hu := v.n
  have he := extents_con (gl := gl) u v
  have hel := extL_len u
  refine con_of Tryz.func46 rfl (by kernel_rfl) rfl ?_
  simp only [Tryz.ntmps46, Tryz.results46, argEnv, ofC, of1, List.map]
  repeat' (first
 | ((with_reducible apply r_call); exact rfl; exact rfl; (first | exact hv | exact he); exact rfl; exact rfl)
 | ((with_reducible apply aw_seq))
 | ((with_reducible apply aw_region))
 | ((with_reducible apply aw_block))
 | ((with_reducible apply thn_normal))
 | ((with_reducible apply ao_nil))
 | ((with_reducible apply r_move); exact rfl; exact rfl)
 | ((with_reducible apply r_assign); exact rfl; exact rfl)
 | ((with_reducible apply r_box_a); exact rfl; exact rfl)
 | ((with_reducible apply r_len_f); exact rfl; exact inferInstance; exact rfl)
 )
  refine aw_nilvec 5 70 3 rfl rfl ?_
  refine aw_loopG (G := Nat × Nat) (fun ((j, k) : Nat × Nat) => j ≤ u.length ∧ (cutN u Z j).length = k) (fun ((j, k) : Nat × Nat) => u.length - j) (fun ((j, k) : Nat × Nat) => [(0, .c (LL u)), (3, .ptr 0 0), (5, .vec 1 k), (12, .c (LS (extL u))), (13, A (extL u).length), (14, A j)]) (fun ((j, k) : Nat × Nat) => [(0, some (.cells 68 [A Z.1, A Z.2])), (1, some (.vec 70 3 ((cutN u Z j).flatMap slcC)))]) 2 (0, 0) ?_ (by refine weak_mk rfl ?_ ?_ <;> repeat (first | exact envW_nil | exact heapW_nil | refine envW_cons rfl rfl ?_ | refine heapW_cons rfl rfl rfl ?_)) rfl ?_
  · exact ⟨Nat.zero_le _, rfl⟩
  rintro ⟨j, k⟩ hI
  try dsimp only at hI
  try dsimp only
  obtain ⟨hj, hk⟩ := hI
  have hcl := cutN_len u Z j
  by_cases hjl : j < u.length
  · have hg0 := extL_get u j (by omega)
    have h1 := meet_con (gl := gl) ((extL u)[j]'(by omega)).1 ((extL u)[j]'(by omega)).2 Z.1 Z.2
    have h2 := ext_meet (gl := gl) v hjl Z
    rw [← hg0] at h2
    have h3 := clone_con (gl := gl) u[j].sec (by have := (chk_is (v.chk j hjl)).len; omega)
    have hsd := secD_eq hjl
    by_cases hpo : 0 < ovZ u Z j
    · skip
      repeat' (first
 | ((with_reducible apply r_call); exact rfl; exact rfl; (first | exact h1 | exact h2 | exact h3); exact rfl; exact rfl)
 | ((with_reducible apply (r_push (enc := slcC) (l := cutN u Z j) (x0 := (⟨ovZ u Z j, u[j].sec⟩ : Slc)))); exact rfl; exact rfl; exact inferInstance; exact hk; exact rfl; exact rfl; exact rfl; exact (by omega); exact (by omega); exact rfl)
 | ((with_reducible apply aw_seq))
 | ((with_reducible apply aw_region))
 | ((with_reducible apply aw_block))
 | ((with_reducible apply thn_normal))
 | ((with_reducible apply inb_normal))
 | ((with_reducible apply aw_skip))
 | ((with_reducible apply ao_nil))
 | ((with_reducible apply r_move); exact rfl; exact rfl)
 | ((with_reducible apply r_assign); exact rfl; exact rfl)
 | ((with_reducible apply r_load_pa); exact rfl; exact rfl; exact rfl; exact rfl; exact rfl)
 | ((with_reducible apply r_lss); exact rfl; exact rfl; exact rfl)
 | ((with_reducible apply r_gtr); exact rfl; exact rfl; exact rfl)
 | ((with_reducible apply r_add); exact rfl; exact rfl; exact (by first | assumption | (unfold fits; omega)); exact rfl)
 | ((with_reducible apply r_index_f); exact rfl; exact inferInstance; exact rfl; exact rfl; (first | assumption | omega); exact rfl)
 | ((with_reducible apply r_load_fa0); exact rfl; exact inferInstance; exact List.getElem?_eq_getElem (by first | assumption | omega); exact rfl; exact rfl; exact rfl)
 | ((with_reducible apply r_load_fa); exact rfl; exact inferInstance; exact List.getElem?_eq_getElem (by first | assumption | omega); exact rfl; exact rfl; exact rfl)
 | ((with_reducible apply r_field_e); exact rfl; exact rfl)
 | ((with_reducible apply r_store_pa); exact rfl; exact rfl; exact rfl; exact rfl; exact rfl; exact rfl)
 | ((with_reducible apply r_build); exact rfl; exact rfl; exact rfl)
 | ((with_reducible apply r_alloc); exact rfl)
 | (((with_reducible apply aw_cond); exact rfl) <;> intro hg <;> (first | (exact absurd hg (by decide)) | ((try simp only [decide_eq_true_eq, decide_eq_false_iff_not, Bool.not_eq_true', Bool.not_eq_false', Bool.not_true, Bool.not_false, Bool.not_not, Int.not_lt, Int.not_le, Nat.not_lt, Nat.not_le, gt_iff_lt, ge_iff_le, List.cons.injEq, and_true] at hg); first | (exact absurd trivial hg) | (exfalso; omega) | (have hT : True := hg; clear hT hg) | skip)))
 | ((with_reducible apply r_lit); exact rfl; exact rfl; exact rfl; exact rfl; exact rfl; exact rfl; exact rfl)
 )
      rw [← hsd, cutN_yes hpo]
      refine ⟨(j + 1, k + 1), ?_, ?_, by refine weak_mk rfl ?_ ?_ <;> repeat (first | exact envW_nil | exact heapW_nil | refine envW_cons rfl rfl ?_ | refine heapW_cons rfl rfl rfl ?_)⟩
      · show _ - (j + 1) < _ - j; omega
      · exact ⟨by show j + 1 ≤ _; omega, by show (cutN u Z (j + 1)).length = k + 1; rw [← cutN_yes hpo]; simp [hk]⟩
    · skip
      repeat' (first
 | ((with_reducible apply r_call); exact rfl; exact rfl; (first | exact h1 | exact h2 | exact h3); exact rfl; exact rfl)
 | ((with_reducible apply aw_seq))
 | ((with_reducible apply aw_region))
 | ((with_reducible apply aw_block))
 | ((with_reducible apply thn_normal))
 | ((with_reducible apply inb_normal))
 | ((with_reducible apply aw_skip))
 | ((with_reducible apply ao_nil))
 | ((with_reducible apply r_move); exact rfl; exact rfl)
 | ((with_reducible apply r_assign); exact rfl; exact rfl)
 | ((with_reducible apply r_load_pa); exact rfl; exact rfl; exact rfl; exact rfl; exact rfl)
 | ((with_reducible apply r_lss); exact rfl; exact rfl; exact rfl)
 | ((with_reducible apply r_gtr); exact rfl; exact rfl; exact rfl)
 | ((with_reducible apply r_add); exact rfl; exact rfl; exact (by first | assumption | (unfold fits; omega)); exact rfl)
 | ((with_reducible apply r_index_f); exact rfl; exact inferInstance; exact rfl; exact rfl; (first | assumption | omega); exact rfl)
 | ((with_reducible apply r_load_fa0); exact rfl; exact inferInstance; exact List.getElem?_eq_getElem (by first | assumption | omega); exact rfl; exact rfl; exact rfl)
 | ((with_reducible apply r_store_pa); exact rfl; exact rfl; exact rfl; exact rfl; exact rfl; exact rfl)
 | ((with_reducible apply r_alloc); exact rfl)
 | (((with_reducible apply aw_cond); exact rfl) <;> intro hg <;> (first | (exact absurd hg (by decide)) | ((try simp only [decide_eq_true_eq, decide_eq_false_iff_not, Bool.not_eq_true', Bool.not_eq_false', Bool.not_true, Bool.not_false, Bool.not_not, Int.not_lt, Int.not_le, Nat.not_lt, Nat.not_le, gt_iff_lt, ge_iff_le, List.cons.injEq, and_true] at hg); first | (exact absurd trivial hg) | (exfalso; omega) | (have hT : True := hg; clear hT hg) | skip)))
 )
      rw [cutN_no hpo]
      refine ⟨(j + 1, k), ?_, ?_, by refine weak_mk rfl ?_ ?_ <;> repeat (first | exact envW_nil | exact heapW_nil | refine envW_cons rfl rfl ?_ | refine heapW_cons rfl rfl rfl ?_)⟩
      · show _ - (j + 1) < _ - j; omega
      · exact ⟨by show j + 1 ≤ _; omega, by show (cutN u Z (j + 1)).length = k; rw [← cutN_no hpo]; exact hk⟩
  · obtain rfl : j = u.length := by omega
    repeat' (first
 | ((with_reducible apply aw_seq))
 | ((with_reducible apply aw_region))
 | ((with_reducible apply thn_normal))
 | ((with_reducible apply thn_exit))
 | ((with_reducible apply inb_exit))
 | ((with_reducible apply aw_exit))
 | ((with_reducible apply aw_ret))
 | ((with_reducible apply ao_nil))
 | ((with_reducible apply r_move); exact rfl; exact rfl)
 | ((with_reducible apply r_assign); exact rfl; exact rfl)
 | ((with_reducible apply r_lss); exact rfl; exact rfl; exact rfl)
 | (((with_reducible apply aw_cond); exact rfl) <;> intro hg <;> (first | (exact absurd hg (by decide)) | ((try simp only [decide_eq_true_eq, decide_eq_false_iff_not, Bool.not_eq_true', Bool.not_eq_false', Bool.not_true, Bool.not_false, Bool.not_not, Int.not_lt, Int.not_le, Nat.not_lt, Nat.not_le, gt_iff_lt, ge_iff_le, List.cons.injEq, and_true] at hg); first | (exact absurd trivial hg) | (exfalso; omega) | (have hT : True := hg; clear hT hg) | skip)))
 )
    exact ret1 (.tmp rfl (cl_vec rfl (by rw [flat_len EncL.len, hk])))
theorem rscut_con (l : List Slc) (hn : l.length ≤ maxLen) (Z : Span) (hZ : fits Z.1 ∧ fits Z.2) : Con Tryz.prog gl 84 [LL l, spV Z] (LL (cutS l Z)) := by
  have hc := rscheck_con (gl := gl) l hn
  refine con_of Tryz.func84 rfl (by kernel_rfl) rfl ?_
  simp only [Tryz.ntmps84, Tryz.results84, argEnv, ofC, of1, List.map]
  by_cases h : solChk l = 0
  rotate_left
  · have e : cutS l Z = [] := by unfold cutS; rw [valL_no h]; rfl
    rw [e]
    repeat' (first
 | ((with_reducible apply r_call); exact rfl; exact rfl; exact hc; exact rfl; exact rfl)
 | ((with_reducible apply aw_seq))
 | ((with_reducible apply aw_region))
 | ((with_reducible apply thn_normal))
 | ((with_reducible apply thn_ret))
 | ((with_reducible apply aw_ret))
 | ((with_reducible apply ao_nil))
 | ((with_reducible apply r_move); exact rfl; exact rfl)
 | ((with_reducible apply r_assign); exact rfl; exact rfl)
 | ((with_reducible apply r_neq); exact rfl; exact rfl; exact rfl)
 | ((with_reducible apply r_box_a); exact rfl; exact rfl)
 | (((with_reducible apply aw_cond); exact rfl) <;> intro hg <;> (first | (exact absurd hg (by decide)) | ((try simp only [decide_eq_true_eq, decide_eq_false_iff_not, Bool.not_eq_true', Bool.not_eq_false', Bool.not_true, Bool.not_false, Bool.not_not, Int.not_lt, Int.not_le, Nat.not_lt, Nat.not_le, gt_iff_lt, ge_iff_le, List.cons.injEq, and_true] at hg); first | (exact absurd trivial hg) | (exfalso; omega) | (have hT : True := hg; clear hT hg) | skip)))
 )
    exact ret1 (.tmp rfl cl_none)
  unfold cutS cutV
  rw [valL_ok h]
  have v := sol_V h
  have hu := v.n
  have hZ' := hZ
  unfold fits at hZ'
  repeat' (first
 | ((with_reducible apply r_call); exact rfl; exact rfl; exact hc; exact rfl; exact rfl)
 | ((with_reducible apply aw_seq))
 | ((with_reducible apply aw_region))
 | ((with_reducible apply aw_block))
 | ((with_reducible apply thn_normal))
 | ((with_reducible apply aw_skip))
 | ((with_reducible apply ao_nil))
 | ((with_reducible apply r_move); exact rfl; exact rfl)
 | ((with_reducible apply r_assign); exact rfl; exact rfl)
 | ((with_reducible apply r_field_p); exact rfl; exact rfl)
 | ((with_reducible apply r_load_p); exact rfl; exact rfl; exact rfl; exact rfl)
 | ((with_reducible apply r_neq); exact rfl; exact rfl; exact rfl)
 | ((with_reducible apply r_max); exact rfl; exact rfl; exact rfl)
 | ((with_reducible apply r_min); exact rfl; exact rfl; exact rfl)
 | ((with_reducible apply r_box_a); exact rfl; exact rfl)
 | ((with_reducible apply r_store_pa); exact rfl; exact rfl; exact rfl; exact rfl; exact rfl; exact rfl)
 | ((with_reducible apply r_build); exact rfl; exact rfl; exact rfl)
 | (((with_reducible apply aw_cond); exact rfl) <;> intro hg <;> (first | (exact absurd hg (by decide)) | ((try simp only [decide_eq_true_eq, decide_eq_false_iff_not, Bool.not_eq_true', Bool.not_eq_false', Bool.not_true, Bool.not_false, Bool.not_not, Int.not_lt, Int.not_le, Nat.not_lt, Nat.not_le, gt_iff_lt, ge_iff_le, List.cons.injEq, and_true] at hg); first | (exact absurd trivial hg) | (exfalso; omega) | (have hT : True := hg; clear hT hg) | skip)))
 )
  refine aw_nilvec 5 70 3 rfl rfl ?_
  refine aw_loopG (G := Nat × Nat × Int) (fun ((j, k, p) : Nat × Nat × Int) => j ≤ l.length ∧ (cutN l Z j).length = k ∧ p = pos l j) (fun ((j, k, p) : Nat × Nat × Int) => l.length - j) (fun ((j, k, p) : Nat × Nat × Int) => [(0, .c (LL l)), (3, .ptr 0 0), (5, .vec 1 k), (6, A p), (7, A j)]) (fun ((j, k, p) : Nat × Nat × Int) => [(0, some (.cells 68 [A (max Z.1 0), A (min Z.2 20000)])), (1, some (.vec 70 3 ((cutN l Z j).flatMap slcC)))]) 2 (0, 0, 0) ?_ (by refine weak_mk rfl ?_ ?_ <;> repeat (first | exact envW_nil | exact heapW_nil | refine envW_cons rfl rfl ?_ | refine heapW_cons rfl rfl rfl ?_)) rfl ?_
  · exact ⟨Nat.zero_le _, rfl, rfl⟩
  rintro ⟨j, k, p⟩ hI
  try dsimp only at hI
  try dsimp only
  obtain ⟨hj, hk, hp⟩ := hI
  have hcl := cutN_len l Z j
  by_cases hjl : j < l.length
  · have hp1 := pos_bd v (j := j) (by omega)
    have hp2 := pos_bd v (j := j + 1) (by omega)
    rw [pos_succ, lenD_eq hjl] at hp2
    have h1 := part_con (gl := gl) (max Z.1 0) (min Z.2 20000) p l[j].len (by have := v.one j hjl; unfold fits; omega)
    have hco := clip_ov v hjl Z
    rw [← hp, lenD_eq hjl] at hco
    rw [hco] at h1
    have hsd := secD_eq hjl
    have hps : p + l[j].len = pos l (j + 1) := by rw [pos_succ, lenD_eq hjl, hp]
    by_cases hpo : 0 < ovZ l Z j
    · skip
      repeat' (first
 | ((with_reducible apply r_call); exact rfl; exact rfl; exact h1; exact rfl; exact rfl)
 | ((with_reducible apply (r_push (enc := slcC) (l := cutN l Z j) (x0 := (⟨ovZ l Z j, l[j].sec⟩ : Slc)))); exact rfl; exact rfl; exact inferInstance; exact hk; exact rfl; exact rfl; exact rfl; exact (by omega); exact (by omega); exact rfl)
 | ((with_reducible apply aw_seq))
 | ((with_reducible apply aw_region))
 | ((with_reducible apply aw_block))
 | ((with_reducible apply thn_normal))
 | ((with_reducible apply inb_normal))
 | ((with_reducible apply aw_skip))
 | ((with_reducible apply ao_nil))
 | ((with_reducible apply r_move); exact rfl; exact rfl)
 | ((with_reducible apply r_assign); exact rfl; exact rfl)
 | ((with_reducible apply r_load_pa); exact rfl; exact rfl; exact rfl; exact rfl; exact rfl)
 | ((with_reducible apply r_lss); exact rfl; exact rfl; exact rfl)
 | ((with_reducible apply r_gtr); exact rfl; exact rfl; exact rfl)
 | ((with_reducible apply r_add); exact rfl; exact rfl; exact (by first | assumption | (unfold fits; omega)); exact rfl)
 | ((with_reducible apply r_len_f); exact rfl; exact inferInstance; exact rfl)
 | ((with_reducible apply r_index_f); exact rfl; exact inferInstance; exact rfl; exact rfl; (first | assumption | omega); exact rfl)
 | ((with_reducible apply r_load_f0); exact rfl; exact inferInstance; exact List.getElem?_eq_getElem (by first | assumption | omega); exact rfl; exact rfl)
 | ((with_reducible apply r_load_fa); exact rfl; exact inferInstance; exact List.getElem?_eq_getElem (by first | assumption | omega); exact rfl; exact rfl; exact rfl)
 | ((with_reducible apply r_field_e); exact rfl; exact rfl)
 | ((with_reducible apply r_build); exact rfl; exact rfl; exact rfl)
 | (((with_reducible apply aw_cond); exact rfl) <;> intro hg <;> (first | (exact absurd hg (by decide)) | ((try simp only [decide_eq_true_eq, decide_eq_false_iff_not, Bool.not_eq_true', Bool.not_eq_false', Bool.not_true, Bool.not_false, Bool.not_not, Int.not_lt, Int.not_le, Nat.not_lt, Nat.not_le, gt_iff_lt, ge_iff_le, List.cons.injEq, and_true] at hg); first | (exact absurd trivial hg) | (exfalso; omega) | (have hT : True := hg; clear hT hg) | skip)))
 | (refine aw_drawq ?_ ?_; (kernel_rfl))
 | ((with_reducible apply ds_nil))
 | ((with_reducible apply r_lit); exact rfl; exact rfl; exact rfl; exact rfl; exact rfl; exact rfl; exact rfl)
 )
      rw [← hsd, cutN_yes hpo]
      refine ⟨(j + 1, k + 1, p + l[j].len), ?_, ?_, by refine weak_mk rfl ?_ ?_ <;> repeat (first | exact envW_nil | exact heapW_nil | refine envW_cons rfl rfl ?_ | refine heapW_cons rfl rfl rfl ?_)⟩
      · show _ - (j + 1) < _ - j; omega
      · exact ⟨by show j + 1 ≤ _; omega, by show (cutN l Z (j + 1)).length = k + 1; rw [← cutN_yes hpo]; simp [hk], hps⟩
    · skip
      repeat' (first
 | ((with_reducible apply r_call); exact rfl; exact rfl; exact h1; exact rfl; exact rfl)
 | ((with_reducible apply aw_seq))
 | ((with_reducible apply aw_region))
 | ((with_reducible apply aw_block))
 | ((with_reducible apply thn_normal))
 | ((with_reducible apply inb_normal))
 | ((with_reducible apply aw_skip))
 | ((with_reducible apply ao_nil))
 | ((with_reducible apply r_move); exact rfl; exact rfl)
 | ((with_reducible apply r_assign); exact rfl; exact rfl)
 | ((with_reducible apply r_load_pa); exact rfl; exact rfl; exact rfl; exact rfl; exact rfl)
 | ((with_reducible apply r_lss); exact rfl; exact rfl; exact rfl)
 | ((with_reducible apply r_gtr); exact rfl; exact rfl; exact rfl)
 | ((with_reducible apply r_add); exact rfl; exact rfl; exact (by first | assumption | (unfold fits; omega)); exact rfl)
 | ((with_reducible apply r_len_f); exact rfl; exact inferInstance; exact rfl)
 | ((with_reducible apply r_index_f); exact rfl; exact inferInstance; exact rfl; exact rfl; (first | assumption | omega); exact rfl)
 | ((with_reducible apply r_load_f0); exact rfl; exact inferInstance; exact List.getElem?_eq_getElem (by first | assumption | omega); exact rfl; exact rfl)
 | ((with_reducible apply r_field_e); exact rfl; exact rfl)
 | (((with_reducible apply aw_cond); exact rfl) <;> intro hg <;> (first | (exact absurd hg (by decide)) | ((try simp only [decide_eq_true_eq, decide_eq_false_iff_not, Bool.not_eq_true', Bool.not_eq_false', Bool.not_true, Bool.not_false, Bool.not_not, Int.not_lt, Int.not_le, Nat.not_lt, Nat.not_le, gt_iff_lt, ge_iff_le, List.cons.injEq, and_true] at hg); first | (exact absurd trivial hg) | (exfalso; omega) | (have hT : True := hg; clear hT hg) | skip)))
 | (refine aw_drawq ?_ ?_; (kernel_rfl))
 | ((with_reducible apply ds_nil))
 )
      rw [cutN_no hpo]
      refine ⟨(j + 1, k, p + l[j].len), ?_, ?_, by refine weak_mk rfl ?_ ?_ <;> repeat (first | exact envW_nil | exact heapW_nil | refine envW_cons rfl rfl ?_ | refine heapW_cons rfl rfl rfl ?_)⟩
      · show _ - (j + 1) < _ - j; omega
      · exact ⟨by show j + 1 ≤ _; omega, by show (cutN l Z (j + 1)).length = k; rw [← cutN_no hpo]; exact hk, hps⟩
  · obtain rfl : j = l.length := by omega
    repeat' (first
 | ((with_reducible apply aw_seq))
 | ((with_reducible apply aw_region))
 | ((with_reducible apply thn_normal))
 | ((with_reducible apply thn_exit))
 | ((with_reducible apply inb_exit))
 | ((with_reducible apply aw_exit))
 | ((with_reducible apply aw_ret))
 | ((with_reducible apply ao_nil))
 | ((with_reducible apply r_move); exact rfl; exact rfl)
 | ((with_reducible apply r_assign); exact rfl; exact rfl)
 | ((with_reducible apply r_lss); exact rfl; exact rfl; exact rfl)
 | ((with_reducible apply r_len_f); exact rfl; exact inferInstance; exact rfl)
 | (((with_reducible apply aw_cond); exact rfl) <;> intro hg <;> (first | (exact absurd hg (by decide)) | ((try simp only [decide_eq_true_eq, decide_eq_false_iff_not, Bool.not_eq_true', Bool.not_eq_false', Bool.not_true, Bool.not_false, Bool.not_not, Int.not_lt, Int.not_le, Nat.not_lt, Nat.not_le, gt_iff_lt, ge_iff_le, List.cons.injEq, and_true] at hg); first | (exact absurd trivial hg) | (exfalso; omega) | (have hT : True := hg; clear hT hg) | skip)))
 )
    exact ret1 (.tmp rfl (cl_vec rfl (by rw [flat_len EncL.len, hk])))
end Go.Proofs.YtkhljpbkebnnmaaGreatDoor.Ge
/- Walks of geometry: sections: at, Meet; solids: Common. -/
namespace Go.Proofs.YtkhljpbkebnnmaaGreatDoor.Ge
set_option linter.unusedVariables false
set_option linter.unusedSimpArgs false
open Go.RowKit Go.Proofs.YtkhljpbkebnnmaaGreatDoor.Ev
variable {gl : List (Nat × List CV)}
def atR (s : Sec) (r : Int) : Span := if r < s.low ∨ s.low + s.rows.length ≤ r then (0, 0) else rowD s (r - s.low).toNat
end Go.Proofs.YtkhljpbkebnnmaaGreatDoor.Ge
/- Walks of geometry: Common of solids, Bounds in both; what is the same. -/
namespace Go.Proofs.YtkhljpbkebnnmaaGreatDoor.Ge
set_option linter.unusedVariables false
set_option linter.unusedSimpArgs false
open Go.RowKit Go.Proofs.YtkhljpbkebnnmaaGreatDoor.Ev
variable {gl : List (Nat × List CV)}
theorem cutS_len (l : List Slc) (Z : Span) : (cutS l Z).length ≤ 24 := by
  have h1 := cutN_len (valL l) Z (valL l).length
  have h2 := (valL_V l).n
  unfold cutS cutV; omega
abbrev Rect := Span × Span
abbrev rectC (r : Rect) : CV := .agg [I r.1.1, I r.1.2, I r.2.1, I r.2.2]
def joinS (a b : Span) : Span := (min a.1 b.1, max a.2 b.2)
def bxN (s : Sec) : Nat → Span
  | 0 => rowD s 0
  | j + 1 => if emptyS (rowD s j) = true then bxN s j else joinS (bxN s j) (rowD s j)
def bdV (s : Sec) : Rect := if s.rows.length = 0 then ((0, 0), (0, 0)) else (bxN s s.rows.length, (10 * s.low, 10 * (s.low + s.rows.length)))
noncomputable def bdS (s : Sec) : Rect := bdV (valS s)
theorem bounds_con (s : Sec) : Con Tryz.prog gl 127 [secC s] (rectC (bdS s)) := by
  have hv := valid_con (gl := gl) s
  have v := valS_V s
  unfold bdS bdV
  generalize valS s = u at *
  have h1 := v.len
  have h2 := v.low
  have h3 := v.high
  refine con_of Tryz.func127 rfl (by kernel_rfl) rfl ?_
  simp only [Tryz.ntmps127, Tryz.results127, argEnv, ofC, of1, List.map]
  by_cases h0 : u.rows.length = 0
  · rw [if_pos h0]
    repeat' (first
 | ((with_reducible apply r_call); exact rfl; exact rfl; exact hv; exact rfl; exact rfl)
 | ((with_reducible apply aw_seq))
 | ((with_reducible apply aw_region))
 | ((with_reducible apply thn_normal))
 | ((with_reducible apply thn_ret))
 | ((with_reducible apply aw_ret))
 | ((with_reducible apply ao_nil))
 | ((with_reducible apply r_field_p); exact rfl; exact rfl)
 | ((with_reducible apply r_load_p); exact rfl; exact rfl; exact rfl; exact rfl)
 | ((with_reducible apply r_load_pa); exact rfl; exact rfl; exact rfl; exact rfl; exact rfl)
 | ((with_reducible apply r_eql); exact rfl; exact rfl; exact rfl)
 | ((with_reducible apply r_box_a); exact rfl; exact rfl)
 | ((with_reducible apply r_len_f); exact rfl; exact inferInstance; exact rfl)
 | ((with_reducible apply r_store_pa); exact rfl; exact rfl; exact rfl; exact rfl; exact rfl; exact rfl)
 | ((with_reducible apply r_build); exact rfl; exact rfl; exact rfl)
 | ((with_reducible apply r_alloc); exact rfl)
 | (((with_reducible apply aw_cond); exact rfl) <;> intro hg <;> (first | (exact absurd hg (by decide)) | ((try simp only [decide_eq_true_eq, decide_eq_false_iff_not, Bool.not_eq_true', Bool.not_eq_false', Bool.not_true, Bool.not_false, Bool.not_not, Int.not_lt, Int.not_le, Nat.not_lt, Nat.not_le, gt_iff_lt, ge_iff_le, List.cons.injEq, and_true] at hg); first | (exact absurd trivial hg) | (exfalso; omega) | (have hT : True := hg; clear hT hg) | skip)))
 )
    exact ret1 (.cell_a inferInstance rfl rfl rfl rfl (cl_cons cl_c (cl_cons cl_c (cl_cons cl_c (cl_cons cl_c cl_nil)))))
  rw [if_neg h0]
  have hr0 : rowD u 0 = u.rows[0]'(by omega) := rowD_eq (by omega)
  have hh := heights_con (gl := gl) u.low (u.low + u.rows.length) (by omega)
  repeat' (first
 | ((with_reducible apply r_call); exact rfl; exact rfl; exact hv; exact rfl; exact rfl)
 | ((with_reducible apply (r_index_f (k := 0))); exact rfl; exact inferInstance; exact rfl; exact rfl; (omega); exact rfl)
 | ((with_reducible apply aw_seq))
 | ((with_reducible apply aw_region))
 | ((with_reducible apply aw_block))
 | ((with_reducible apply thn_normal))
 | ((with_reducible apply aw_skip))
 | ((with_reducible apply ao_nil))
 | ((with_reducible apply r_move); exact rfl; exact rfl)
 | ((with_reducible apply r_field_p); exact rfl; exact rfl)
 | ((with_reducible apply r_load_p); exact rfl; exact rfl; exact rfl; exact rfl)
 | ((with_reducible apply r_load_pa); exact rfl; exact rfl; exact rfl; exact rfl; exact rfl)
 | ((with_reducible apply r_eql); exact rfl; exact rfl; exact rfl)
 | ((with_reducible apply r_box_a); exact rfl; exact rfl)
 | ((with_reducible apply r_len_f); exact rfl; exact inferInstance; exact rfl)
 | ((with_reducible apply r_load_fa0); exact rfl; exact inferInstance; exact List.getElem?_eq_getElem (by first | assumption | omega); exact rfl; exact rfl; exact rfl)
 | ((with_reducible apply r_store_pa); exact rfl; exact rfl; exact rfl; exact rfl; exact rfl; exact rfl)
 | ((with_reducible apply r_alloc); exact rfl)
 | (((with_reducible apply aw_cond); exact rfl) <;> intro hg <;> (first | (exact absurd hg (by decide)) | ((try simp only [decide_eq_true_eq, decide_eq_false_iff_not, Bool.not_eq_true', Bool.not_eq_false', Bool.not_true, Bool.not_false, Bool.not_not, Int.not_lt, Int.not_le, Nat.not_lt, Nat.not_le, gt_iff_lt, ge_iff_le, List.cons.injEq, and_true] at hg); first | (exact absurd trivial hg) | (exfalso; omega) | (have hT : True := hg; clear hT hg) | skip)))
 )
  refine aw_loopG (G := Nat × Span) (fun ((j, b) : Nat × Span) => j ≤ u.rows.length ∧ b = bxN u j) (fun ((j, b) : Nat × Span) => u.rows.length - j) (fun ((j, b) : Nat × Span) => [(1, .ptr 0 0), (2, .ptr 1 0), (3, .ptr 2 0), (18, .c (LS u.rows)), (19, A u.rows.length), (20, A j)]) (fun ((j, b) : Nat × Span) => [(0, some (secB u)), (1, some (.cells 147 [A 0, A 0, A 0, A 0])), (2, some (.cells 68 [A b.1, A b.2]))]) 3 (0, u.rows[0]'(by omega)) ?_ (by refine weak_mk rfl ?_ ?_ <;> repeat (first | exact envW_nil | exact heapW_nil | refine envW_cons rfl rfl ?_ | refine heapW_cons rfl rfl rfl ?_)) rfl ?_
  · exact ⟨Nat.zero_le _, hr0.symm⟩
  rintro ⟨j, b⟩ hI
  try dsimp only at hI
  try dsimp only
  obtain ⟨hj, hb⟩ := hI
  by_cases hjl : j < u.rows.length
  · have hc := isEmpty_con (gl := gl) u.rows[j].1 u.rows[j].2
    have hrj := rowD_eq hjl
    cases he : emptyS u.rows[j] with
    | true =>
      rw [show emptyS (u.rows[j].1, u.rows[j].2) = true from he] at hc
      repeat' (first
 | ((with_reducible apply r_call); exact rfl; exact rfl; exact hc; exact rfl; exact rfl)
 | ((with_reducible apply aw_seq))
 | ((with_reducible apply aw_region))
 | ((with_reducible apply aw_block))
 | ((with_reducible apply thn_normal))
 | ((with_reducible apply inb_normal))
 | ((with_reducible apply aw_skip))
 | ((with_reducible apply ao_nil))
 | ((with_reducible apply r_move); exact rfl; exact rfl)
 | ((with_reducible apply r_load_pa); exact rfl; exact rfl; exact rfl; exact rfl; exact rfl)
 | ((with_reducible apply r_lss); exact rfl; exact rfl; exact rfl)
 | ((with_reducible apply r_add); exact rfl; exact rfl; exact (by first | assumption | (unfold fits; omega)); exact rfl)
 | ((with_reducible apply r_not); exact rfl; exact rfl)
 | ((with_reducible apply r_index_f); exact rfl; exact inferInstance; exact rfl; exact rfl; (first | assumption | omega); exact rfl)
 | ((with_reducible apply r_load_fa0); exact rfl; exact inferInstance; exact List.getElem?_eq_getElem (by first | assumption | omega); exact rfl; exact rfl; exact rfl)
 | ((with_reducible apply r_store_pa); exact rfl; exact rfl; exact rfl; exact rfl; exact rfl; exact rfl)
 | ((with_reducible apply r_alloc); exact rfl)
 | (((with_reducible apply aw_cond); exact rfl) <;> intro hg <;> (first | (exact absurd hg (by decide)) | ((try simp only [decide_eq_true_eq, decide_eq_false_iff_not, Bool.not_eq_true', Bool.not_eq_false', Bool.not_true, Bool.not_false, Bool.not_not, Int.not_lt, Int.not_le, Nat.not_lt, Nat.not_le, gt_iff_lt, ge_iff_le, List.cons.injEq, and_true] at hg); first | (exact absurd trivial hg) | (exfalso; omega) | (have hT : True := hg; clear hT hg) | skip)))
 )
      refine ⟨(j + 1, b), ?_, ?_, by refine weak_mk rfl ?_ ?_ <;> repeat (first | exact envW_nil | exact heapW_nil | refine envW_cons rfl rfl ?_ | refine heapW_cons rfl rfl rfl ?_)⟩
      · show _ - (j + 1) < _ - j; omega
      · exact ⟨by show j + 1 ≤ _; omega, by show b = if emptyS (rowD u j) = true then bxN u j else _; rw [hrj, if_pos he, hb]⟩
    | false =>
      rw [show emptyS (u.rows[j].1, u.rows[j].2) = false from he] at hc
      repeat' (first
 | ((with_reducible apply r_call); exact rfl; exact rfl; exact hc; exact rfl; exact rfl)
 | ((with_reducible apply aw_seq))
 | ((with_reducible apply aw_region))
 | ((with_reducible apply aw_block))
 | ((with_reducible apply thn_normal))
 | ((with_reducible apply inb_normal))
 | ((with_reducible apply aw_skip))
 | ((with_reducible apply ao_nil))
 | ((with_reducible apply r_move); exact rfl; exact rfl)
 | ((with_reducible apply r_field_p); exact rfl; exact rfl)
 | ((with_reducible apply r_load_p); exact rfl; exact rfl; exact rfl; exact rfl)
 | ((with_reducible apply r_load_pa); exact rfl; exact rfl; exact rfl; exact rfl; exact rfl)
 | ((with_reducible apply r_lss); exact rfl; exact rfl; exact rfl)
 | ((with_reducible apply r_add); exact rfl; exact rfl; exact (by first | assumption | (unfold fits; omega)); exact rfl)
 | ((with_reducible apply r_max); exact rfl; exact rfl; exact rfl)
 | ((with_reducible apply r_min); exact rfl; exact rfl; exact rfl)
 | ((with_reducible apply r_not); exact rfl; exact rfl)
 | ((with_reducible apply r_index_f); exact rfl; exact inferInstance; exact rfl; exact rfl; (first | assumption | omega); exact rfl)
 | ((with_reducible apply r_load_fa0); exact rfl; exact inferInstance; exact List.getElem?_eq_getElem (by first | assumption | omega); exact rfl; exact rfl; exact rfl)
 | ((with_reducible apply r_store_pa); exact rfl; exact rfl; exact rfl; exact rfl; exact rfl; exact rfl)
 | ((with_reducible apply r_build); exact rfl; exact rfl; exact rfl)
 | ((with_reducible apply r_alloc); exact rfl)
 | (((with_reducible apply aw_cond); exact rfl) <;> intro hg <;> (first | (exact absurd hg (by decide)) | ((try simp only [decide_eq_true_eq, decide_eq_false_iff_not, Bool.not_eq_true', Bool.not_eq_false', Bool.not_true, Bool.not_false, Bool.not_not, Int.not_lt, Int.not_le, Nat.not_lt, Nat.not_le, gt_iff_lt, ge_iff_le, List.cons.injEq, and_true] at hg); first | (exact absurd trivial hg) | (exfalso; omega) | (have hT : True := hg; clear hT hg) | skip)))
 )
      refine ⟨(j + 1, joinS b u.rows[j]), ?_, ?_, by refine weak_mk rfl ?_ ?_ <;> repeat (first | exact envW_nil | exact heapW_nil | refine envW_cons rfl rfl ?_ | refine heapW_cons rfl rfl rfl ?_)⟩
      · show _ - (j + 1) < _ - j; omega
      · exact ⟨by show j + 1 ≤ _; omega, by show joinS b u.rows[j] = if emptyS (rowD u j) = true then bxN u j else joinS (bxN u j) (rowD u j); rw [hrj, if_neg (by rw [he]; simp), hb]⟩
  · obtain rfl : j = u.rows.length := by omega
    rw [← hb]
    repeat' (first
 | (refine aw_drawt 11 ?_ ?_; (kernel_rfl); (simp only [List.take_succ_cons, List.take_zero, List.drop_succ_cons, List.drop_zero]))
 | ((with_reducible apply r_call); exact rfl; exact rfl; exact hh; exact rfl; exact rfl)
 | ((with_reducible apply aw_seq))
 | ((with_reducible apply aw_region))
 | ((with_reducible apply thn_normal))
 | ((with_reducible apply thn_exit))
 | ((with_reducible apply inb_exit))
 | ((with_reducible apply aw_exit))
 | ((with_reducible apply aw_ret))
 | ((with_reducible apply ao_nil))
 | ((with_reducible apply r_field_p); exact rfl; exact rfl)
 | ((with_reducible apply r_load_p); exact rfl; exact rfl; exact rfl; exact rfl)
 | ((with_reducible apply r_load_pa); exact rfl; exact rfl; exact rfl; exact rfl; exact rfl)
 | ((with_reducible apply r_lss); exact rfl; exact rfl; exact rfl)
 | ((with_reducible apply r_add); exact rfl; exact rfl; exact (by first | assumption | (unfold fits; omega)); exact rfl)
 | ((with_reducible apply r_len_f); exact rfl; exact inferInstance; exact rfl)
 | ((with_reducible apply r_store_pa); exact rfl; exact rfl; exact rfl; exact rfl; exact rfl; exact rfl)
 | ((with_reducible apply r_build); exact rfl; exact rfl; exact rfl)
 | (((with_reducible apply aw_cond); exact rfl) <;> intro hg <;> (first | (exact absurd hg (by decide)) | ((try simp only [decide_eq_true_eq, decide_eq_false_iff_not, Bool.not_eq_true', Bool.not_eq_false', Bool.not_true, Bool.not_false, Bool.not_not, Int.not_lt, Int.not_le, Nat.not_lt, Nat.not_le, gt_iff_lt, ge_iff_le, List.cons.injEq, and_true] at hg); first | (exact absurd trivial hg) | (exfalso; omega) | (have hT : True := hg; clear hT hg) | skip)))
 | ((with_reducible apply ds_nil))
 )
    exact ret1 (.cell_a inferInstance rfl rfl rfl rfl (cl_cons cl_c (cl_cons cl_c (cl_cons cl_c (cl_cons cl_c cl_nil)))))
theorem rbounds_con (s : Sec) : Con Tryz.prog gl 133 [secC s] (rectC (bdS s)) := by
  have hv := rvalid_con (gl := gl) s
  have v := valS_V s
  unfold bdS bdV
  generalize valS s = u at *
  have h1 := v.len
  have h2 := v.low
  have h3 := v.high
  refine con_of Tryz.func133 rfl (by kernel_rfl) rfl ?_
  simp only [Tryz.ntmps133, Tryz.results133, argEnv, ofC, of1, List.map]
  by_cases h0 : u.rows.length = 0
  · rw [if_pos h0]
    repeat' (first
 | ((with_reducible apply r_call); exact rfl; exact rfl; exact hv; exact rfl; exact rfl)
 | ((with_reducible apply aw_seq))
 | ((with_reducible apply aw_region))
 | ((with_reducible apply thn_normal))
 | ((with_reducible apply thn_ret))
 | ((with_reducible apply aw_ret))
 | ((with_reducible apply ao_nil))
 | ((with_reducible apply r_field_p); exact rfl; exact rfl)
 | ((with_reducible apply r_load_p); exact rfl; exact rfl; exact rfl; exact rfl)
 | ((with_reducible apply r_load_pa); exact rfl; exact rfl; exact rfl; exact rfl; exact rfl)
 | ((with_reducible apply r_eql); exact rfl; exact rfl; exact rfl)
 | ((with_reducible apply r_box_a); exact rfl; exact rfl)
 | ((with_reducible apply r_len_f); exact rfl; exact inferInstance; exact rfl)
 | ((with_reducible apply r_store_pa); exact rfl; exact rfl; exact rfl; exact rfl; exact rfl; exact rfl)
 | ((with_reducible apply r_build); exact rfl; exact rfl; exact rfl)
 | ((with_reducible apply r_alloc); exact rfl)
 | (((with_reducible apply aw_cond); exact rfl) <;> intro hg <;> (first | (exact absurd hg (by decide)) | ((try simp only [decide_eq_true_eq, decide_eq_false_iff_not, Bool.not_eq_true', Bool.not_eq_false', Bool.not_true, Bool.not_false, Bool.not_not, Int.not_lt, Int.not_le, Nat.not_lt, Nat.not_le, gt_iff_lt, ge_iff_le, List.cons.injEq, and_true] at hg); first | (exact absurd trivial hg) | (exfalso; omega) | (have hT : True := hg; clear hT hg) | skip)))
 )
    exact ret1 (.cell_a inferInstance rfl rfl rfl rfl (cl_cons cl_c (cl_cons cl_c (cl_cons cl_c (cl_cons cl_c cl_nil)))))
  rw [if_neg h0]
  have hr0 : rowD u 0 = u.rows[0]'(by omega) := rowD_eq (by omega)
  repeat' (first
 | ((with_reducible apply r_call); exact rfl; exact rfl; exact hv; exact rfl; exact rfl)
 | ((with_reducible apply (r_index_f (k := 0))); exact rfl; exact inferInstance; exact rfl; exact rfl; (omega); exact rfl)
 | ((with_reducible apply aw_seq))
 | ((with_reducible apply aw_region))
 | ((with_reducible apply aw_block))
 | ((with_reducible apply thn_normal))
 | ((with_reducible apply aw_skip))
 | ((with_reducible apply ao_nil))
 | ((with_reducible apply r_assign); exact rfl; exact rfl)
 | ((with_reducible apply r_field_p); exact rfl; exact rfl)
 | ((with_reducible apply r_load_p); exact rfl; exact rfl; exact rfl; exact rfl)
 | ((with_reducible apply r_load_pa); exact rfl; exact rfl; exact rfl; exact rfl; exact rfl)
 | ((with_reducible apply r_eql); exact rfl; exact rfl; exact rfl)
 | ((with_reducible apply r_box_a); exact rfl; exact rfl)
 | ((with_reducible apply r_len_f); exact rfl; exact inferInstance; exact rfl)
 | ((with_reducible apply r_load_fa0); exact rfl; exact inferInstance; exact List.getElem?_eq_getElem (by first | assumption | omega); exact rfl; exact rfl; exact rfl)
 | ((with_reducible apply r_store_pa); exact rfl; exact rfl; exact rfl; exact rfl; exact rfl; exact rfl)
 | ((with_reducible apply r_alloc); exact rfl)
 | (((with_reducible apply aw_cond); exact rfl) <;> intro hg <;> (first | (exact absurd hg (by decide)) | ((try simp only [decide_eq_true_eq, decide_eq_false_iff_not, Bool.not_eq_true', Bool.not_eq_false', Bool.not_true, Bool.not_false, Bool.not_not, Int.not_lt, Int.not_le, Nat.not_lt, Nat.not_le, gt_iff_lt, ge_iff_le, List.cons.injEq, and_true] at hg); first | (exact absurd trivial hg) | (exfalso; omega) | (have hT : True := hg; clear hT hg) | skip)))
 )
  refine aw_loopG (G := Nat × Span) (fun ((j, b) : Nat × Span) => j ≤ u.rows.length ∧ b = bxN u j) (fun ((j, b) : Nat × Span) => u.rows.length - j) (fun ((j, b) : Nat × Span) => [(1, .ptr 0 0), (2, .ptr 1 0), (3, .ptr 2 0), (4, A j)]) (fun ((j, b) : Nat × Span) => [(0, some (secB u)), (1, some (.cells 147 [A 0, A 0, A 0, A 0])), (2, some (.cells 68 [A b.1, A b.2]))]) 3 (0, u.rows[0]'(by omega)) ?_ (by refine weak_mk rfl ?_ ?_ <;> repeat (first | exact envW_nil | exact heapW_nil | refine envW_cons rfl rfl ?_ | refine heapW_cons rfl rfl rfl ?_)) rfl ?_
  · exact ⟨Nat.zero_le _, hr0.symm⟩
  rintro ⟨j, b⟩ hI
  try dsimp only at hI
  try dsimp only
  obtain ⟨hj, hb⟩ := hI
  by_cases hjl : j < u.rows.length
  · have hc := empty_con (gl := gl) u.rows[j].1 u.rows[j].2
    have hrj := rowD_eq hjl
    cases he : emptyS u.rows[j] with
    | true =>
      rw [show emptyS (u.rows[j].1, u.rows[j].2) = true from he] at hc
      repeat' (first
 | ((with_reducible apply r_call); exact rfl; exact rfl; exact hc; exact rfl; exact rfl)
 | ((with_reducible apply aw_seq))
 | ((with_reducible apply aw_region))
 | ((with_reducible apply aw_block))
 | ((with_reducible apply thn_normal))
 | ((with_reducible apply inb_normal))
 | ((with_reducible apply aw_skip))
 | ((with_reducible apply ao_nil))
 | ((with_reducible apply r_move); exact rfl; exact rfl)
 | ((with_reducible apply r_assign); exact rfl; exact rfl)
 | ((with_reducible apply r_field_p); exact rfl; exact rfl)
 | ((with_reducible apply r_load_p); exact rfl; exact rfl; exact rfl; exact rfl)
 | ((with_reducible apply r_lss); exact rfl; exact rfl; exact rfl)
 | ((with_reducible apply r_add); exact rfl; exact rfl; exact (by first | assumption | (unfold fits; omega)); exact rfl)
 | ((with_reducible apply r_not); exact rfl; exact rfl)
 | ((with_reducible apply r_len_f); exact rfl; exact inferInstance; exact rfl)
 | ((with_reducible apply r_index_f); exact rfl; exact inferInstance; exact rfl; exact rfl; (first | assumption | omega); exact rfl)
 | ((with_reducible apply r_load_fa0); exact rfl; exact inferInstance; exact List.getElem?_eq_getElem (by first | assumption | omega); exact rfl; exact rfl; exact rfl)
 | (((with_reducible apply aw_cond); exact rfl) <;> intro hg <;> (first | (exact absurd hg (by decide)) | ((try simp only [decide_eq_true_eq, decide_eq_false_iff_not, Bool.not_eq_true', Bool.not_eq_false', Bool.not_true, Bool.not_false, Bool.not_not, Int.not_lt, Int.not_le, Nat.not_lt, Nat.not_le, gt_iff_lt, ge_iff_le, List.cons.injEq, and_true] at hg); first | (exact absurd trivial hg) | (exfalso; omega) | (have hT : True := hg; clear hT hg) | skip)))
 )
      refine ⟨(j + 1, b), ?_, ?_, by refine weak_mk rfl ?_ ?_ <;> repeat (first | exact envW_nil | exact heapW_nil | refine envW_cons rfl rfl ?_ | refine heapW_cons rfl rfl rfl ?_)⟩
      · show _ - (j + 1) < _ - j; omega
      · exact ⟨by show j + 1 ≤ _; omega, by show b = if emptyS (rowD u j) = true then bxN u j else _; rw [hrj, if_pos he, hb]⟩
    | false =>
      rw [show emptyS (u.rows[j].1, u.rows[j].2) = false from he] at hc
      repeat' (first
 | (refine aw_drawt 19 ?_ ?_; (kernel_rfl); (simp only [List.take_succ_cons, List.take_zero, List.drop_succ_cons, List.drop_zero]))
 | ((with_reducible apply r_call); exact rfl; exact rfl; exact hc; exact rfl; exact rfl)
 | ((with_reducible apply aw_seq))
 | ((with_reducible apply aw_region))
 | ((with_reducible apply aw_block))
 | ((with_reducible apply thn_normal))
 | ((with_reducible apply inb_normal))
 | ((with_reducible apply aw_skip))
 | ((with_reducible apply ao_nil))
 | ((with_reducible apply r_move); exact rfl; exact rfl)
 | ((with_reducible apply r_assign); exact rfl; exact rfl)
 | ((with_reducible apply r_field_p); exact rfl; exact rfl)
 | ((with_reducible apply r_load_p); exact rfl; exact rfl; exact rfl; exact rfl)
 | ((with_reducible apply r_lss); exact rfl; exact rfl; exact rfl)
 | ((with_reducible apply r_add); exact rfl; exact rfl; exact (by first | assumption | (unfold fits; omega)); exact rfl)
 | ((with_reducible apply r_max); exact rfl; exact rfl; exact rfl)
 | ((with_reducible apply r_min); exact rfl; exact rfl; exact rfl)
 | ((with_reducible apply r_not); exact rfl; exact rfl)
 | ((with_reducible apply r_len_f); exact rfl; exact inferInstance; exact rfl)
 | ((with_reducible apply r_index_f); exact rfl; exact inferInstance; exact rfl; exact rfl; (first | assumption | omega); exact rfl)
 | ((with_reducible apply r_load_f0); exact rfl; exact inferInstance; exact List.getElem?_eq_getElem (by first | assumption | omega); exact rfl; exact rfl)
 | ((with_reducible apply r_load_f); exact rfl; exact inferInstance; exact List.getElem?_eq_getElem (by first | assumption | omega); exact rfl; exact rfl; exact rfl)
 | ((with_reducible apply r_load_fa0); exact rfl; exact inferInstance; exact List.getElem?_eq_getElem (by first | assumption | omega); exact rfl; exact rfl; exact rfl)
 | ((with_reducible apply r_field_e); exact rfl; exact rfl)
 | ((with_reducible apply r_store_pa); exact rfl; exact rfl; exact rfl; exact rfl; exact rfl; exact rfl)
 | ((with_reducible apply r_build); exact rfl; exact rfl; exact rfl)
 | (((with_reducible apply aw_cond); exact rfl) <;> intro hg <;> (first | (exact absurd hg (by decide)) | ((try simp only [decide_eq_true_eq, decide_eq_false_iff_not, Bool.not_eq_true', Bool.not_eq_false', Bool.not_true, Bool.not_false, Bool.not_not, Int.not_lt, Int.not_le, Nat.not_lt, Nat.not_le, gt_iff_lt, ge_iff_le, List.cons.injEq, and_true] at hg); first | (exact absurd trivial hg) | (exfalso; omega) | (have hT : True := hg; clear hT hg) | skip)))
 | ((with_reducible apply ds_nil))
 )
      refine ⟨(j + 1, joinS b u.rows[j]), ?_, ?_, by refine weak_mk rfl ?_ ?_ <;> repeat (first | exact envW_nil | exact heapW_nil | refine envW_cons rfl rfl ?_ | refine heapW_cons rfl rfl rfl ?_)⟩
      · show _ - (j + 1) < _ - j; omega
      · exact ⟨by show j + 1 ≤ _; omega, by show joinS b u.rows[j] = if emptyS (rowD u j) = true then bxN u j else joinS (bxN u j) (rowD u j); rw [hrj, if_neg (by rw [he]; simp), hb]⟩
  · obtain rfl : j = u.rows.length := by omega
    rw [← hb]
    repeat' (first
 | ((with_reducible apply aw_seq))
 | ((with_reducible apply aw_region))
 | ((with_reducible apply thn_normal))
 | ((with_reducible apply thn_exit))
 | ((with_reducible apply inb_exit))
 | ((with_reducible apply aw_exit))
 | ((with_reducible apply aw_ret))
 | ((with_reducible apply ao_nil))
 | ((with_reducible apply r_move); exact rfl; exact rfl)
 | ((with_reducible apply r_field_p); exact rfl; exact rfl)
 | ((with_reducible apply r_load_p); exact rfl; exact rfl; exact rfl; exact rfl)
 | ((with_reducible apply r_load_pa); exact rfl; exact rfl; exact rfl; exact rfl; exact rfl)
 | ((with_reducible apply r_lss); exact rfl; exact rfl; exact rfl)
 | ((with_reducible apply r_add); exact rfl; exact rfl; exact (by first | assumption | (unfold fits; omega)); exact rfl)
 | ((with_reducible apply r_mul); exact rfl; exact rfl; exact (by first | assumption | (unfold fits; omega)); exact rfl)
 | ((with_reducible apply r_len_f); exact rfl; exact inferInstance; exact rfl)
 | ((with_reducible apply r_store_pa); exact rfl; exact rfl; exact rfl; exact rfl; exact rfl; exact rfl)
 | ((with_reducible apply r_build); exact rfl; exact rfl; exact rfl)
 | (((with_reducible apply aw_cond); exact rfl) <;> intro hg <;> (first | (exact absurd hg (by decide)) | ((try simp only [decide_eq_true_eq, decide_eq_false_iff_not, Bool.not_eq_true', Bool.not_eq_false', Bool.not_true, Bool.not_false, Bool.not_not, Int.not_lt, Int.not_le, Nat.not_lt, Nat.not_le, gt_iff_lt, ge_iff_le, List.cons.injEq, and_true] at hg); first | (exact absurd trivial hg) | (exfalso; omega) | (have hT : True := hg; clear hT hg) | skip)))
 )
    exact ret1 (.cell_a inferInstance rfl rfl rfl rfl (cl_cons cl_c (cl_cons cl_c (cl_cons cl_c (cl_cons cl_c cl_nil)))))
end Go.Proofs.YtkhljpbkebnnmaaGreatDoor.Ge
/- Sections by their rows: plain. -/
namespace Go.Proofs.YtkhljpbkebnnmaaGreatDoor.Ge
set_option linter.unusedVariables false
set_option linter.unusedSimpArgs false
open Go.RowKit Go.Proofs.YtkhljpbkebnnmaaGreatDoor.Ev
def nf (x : Span) : Span := if emptyS x = true then (0, 0) else x
def gd (l : List Span) (i : Nat) : Span := l.getD i (0, 0)
structure Bld (f : Int → Span) (r : Int) (lo : Int) (rows : List Span) (used : Nat) : Prop where
  le : used ≤ rows.length
  zero : used = 0 → lo = 0 ∧ rows = [] ∧ ∀ q, -60 ≤ q → q < r → emptyS (f q) = true
  pos : 0 < used → lo + rows.length = r ∧ -60 ≤ lo ∧ (∀ q, -60 ≤ q → q < lo → emptyS (f q) = true) ∧ (∀ i : Nat, i < rows.length → gd rows i = nf (f (lo + i))) ∧ emptyS (gd rows 0) = false ∧ emptyS (gd rows (used - 1)) = false ∧ ∀ i, used ≤ i → i < rows.length → gd rows i = (0, 0)
structure RowsOf (s : Sec) (f : Int → Span) : Prop where
  v : SecV s
  at' : ∀ r, -60 ≤ r → r < 60 → atR s r = nf (f r)
end Go.Proofs.YtkhljpbkebnnmaaGreatDoor.Ge
/- Measures of logs: roots, diameters, centers: plain. -/
namespace Go.Proofs.YtkhljpbkebnnmaaGreatDoor.Ge
set_option linter.unusedVariables false
set_option linter.unusedSimpArgs false
open Go.RowKit Go.Proofs.YtkhljpbkebnnmaaGreatDoor.Ev
def IsRoot (n r : Int) : Prop := 0 ≤ r ∧ r * r ≤ n ∧ n < (r + 1) * (r + 1)
def bitAt (k : Nat) : Int := if k < 32 then 2 ^ (31 - k) else 0
theorem or_bit (m j : Nat) (hj : j ≤ 31) (hm : m < 2 ^ (31 - j)) : bits .or .u64 ((m : Int) * 2 ^ (j + 1)) (2 ^ j) = (m : Int) * 2 ^ (j + 1) + 2 ^ j := by
  have h2 : 2 ^ (31 - j) * 2 ^ (j + 1) = (4294967296 : Nat) := by
    rw [← Nat.pow_add, show 31 - j + (j + 1) = 32 by omega]
  have h3 : m * 2 ^ (j + 1) < 4294967296 := by
    rw [← h2]; exact Nat.mul_lt_mul_of_pos_right hm (Nat.pow_pos (by omega))
  have h4 : 2 ^ j ≤ (2147483648 : Nat) := Nat.pow_le_pow_right (n := 2) (by omega) hj
  have e1 : ((m : Int) * 2 ^ (j + 1)) = ((m * 2 ^ (j + 1) : Nat) : Int) := by push_cast; rfl
  have e2 : ((2 : Int) ^ j) = ((2 ^ j : Nat) : Int) := by push_cast; rfl
  rw [e1, e2, bits_or_u64_nat _ _ (by omega) (by omega)]
  have h5 : 2 ^ j < 2 ^ (j + 1) := Nat.pow_lt_pow_right (by omega) (by omega)
  have h6 := Nat.two_pow_add_eq_or_of_lt (b := 2 ^ j) (i := j + 1) h5 m
  rw [Nat.mul_comm m, ← h6]
  push_cast
  rfl
def RInv (n : Int) (k : Nat) (R : Int) : Prop := ∃ m : Nat, R = (m : Int) * 2 ^ (32 - k) ∧ m < 2 ^ k ∧ R * R ≤ n ∧ n < (R + 2 ^ (32 - k)) * (R + 2 ^ (32 - k))
theorem root_step {n : Int} {k : Nat} {R : Int} (hk : k < 32) (h : RInv n k R) : ∃ B : Int, bitAt k = B ∧ 0 < B ∧ B ≤ 2147483648 ∧ 0 ≤ R ∧ R + B < 4294967296 ∧ bits .or .u64 R B = R + B ∧ B / 2 = bitAt (k + 1) ∧ ((R + B) * (R + B) ≤ n → RInv n (k + 1) (R + B)) ∧ (n < (R + B) * (R + B) → RInv n (k + 1) R) := by
  obtain ⟨m, hR, hm, hlo, hhi⟩ := h
  obtain ⟨j, hj⟩ : ∃ j, k = 31 - j ∧ j ≤ 31 := ⟨31 - k, by omega, by omega⟩
  obtain ⟨rfl, hj⟩ := hj
  have e1 : 32 - (31 - j) = j + 1 := by omega
  have e2 : 32 - (31 - j + 1) = j := by omega
  have e3 : 31 - (31 - j) = j := by omega
  rw [e1] at hR hhi
  have hpN : (2 : Int) ^ j = ((2 ^ j : Nat) : Int) := by push_cast; rfl
  have hpos : 0 < 2 ^ j := Nat.pow_pos (n := j) (show 0 < 2 by omega)
  have hle : 2 ^ j ≤ (2147483648 : Nat) := Nat.pow_le_pow_right (n := 2) (by omega) hj
  have h2 : 2 ^ (31 - j) * 2 ^ (j + 1) = (4294967296 : Nat) := by
    rw [← Nat.pow_add, show 31 - j + (j + 1) = 32 by omega]
  have h3 : (m + 1) * 2 ^ (j + 1) ≤ 4294967296 := by
    rw [← h2]; exact Nat.mul_le_mul_right _ (by omega)
  have hs : (2 : Int) ^ (j + 1) = 2 * 2 ^ j := by rw [Int.pow_succ]; omega
  have hsN : (2 : Nat) ^ (j + 1) = 2 * 2 ^ j := by rw [Nat.pow_succ]; omega
  have hor := or_bit m j hj hm
  rw [← hR] at hor
  have hRN : R = ((m * 2 ^ (j + 1) : Nat) : Int) := by rw [hR]; push_cast; rfl
  rw [Nat.add_mul] at h3
  refine ⟨2 ^ j, ?_, by omega, by omega, by omega, by omega, hor, ?_, fun hc => ⟨2 * m + 1, ?_, ?_, hc, ?_⟩, fun hc => ⟨2 * m, ?_, ?_, hlo, ?_⟩⟩
  · unfold bitAt; rw [if_pos hk, e3]
  · unfold bitAt
    by_cases h0 : j = 0
    · subst h0; rw [if_neg (by omega)]; rfl
    · rw [if_pos (by omega), show 31 - (31 - j + 1) = j - 1 by omega]
      obtain ⟨i, rfl⟩ : ∃ i, j = i + 1 := ⟨j - 1, by omega⟩
      rw [Int.pow_succ, show i + 1 - 1 = i by omega]
      omega
  · rw [e2, hR, hs]; push_cast; rw [Int.add_mul, Int.mul_assoc, Int.mul_left_comm (m : Int) 2, Int.one_mul]
  · rw [Nat.pow_succ]; omega
  · rw [e2]; rw [hs] at hhi; rw [show R + 2 ^ j + 2 ^ j = R + 2 * 2 ^ j by omega]; exact hhi
  · rw [e2, hR, hs]; push_cast; rw [Int.mul_comm 2 (m : Int), Int.mul_assoc]
  · rw [Nat.pow_succ]; omega
  · rw [e2]; exact hc
theorem RInv.start {n : Int} (h0 : 0 ≤ n) (h1 : n < 9223372036854775808) : RInv n 0 0 := ⟨0, by simp, by simp, by simpa using h0, by simp; omega⟩
theorem RInv.done {n R : Int} (h : RInv n 32 R) : 0 ≤ R ∧ R < 4294967296 ∧ IsRoot n R := by
  obtain ⟨m, rfl, hm, q1, q2⟩ := h
  have hm' : m < 4294967296 := hm
  simp only [Nat.sub_self, Int.pow_zero, Int.mul_one] at q1 q2 ⊢
  exact ⟨by omega, by omega, by omega, q1, q2⟩
theorem IsRoot.uniq {n a b : Int} (h1 : IsRoot n a) (h2 : IsRoot n b) : a = b := by
  obtain ⟨p1, q1, r1⟩ := h1
  obtain ⟨p2, q2, r2⟩ := h2
  rcases Int.lt_trichotomy a b with h | h | h
  · have : (a + 1) * (a + 1) ≤ b * b := Int.mul_le_mul (by omega) (by omega) (by omega) (by omega)
    omega
  · exact h
  · have : (b + 1) * (b + 1) ≤ a * a := Int.mul_le_mul (by omega) (by omega) (by omega) (by omega)
    omega
open Classical in
noncomputable def rootI (n : Int) : Int := if h : ∃ r, IsRoot n r then Classical.choose h else 0
theorem IsRoot.eq {n r : Int} (h : IsRoot n r) : rootI n = r := by
  unfold rootI
  rw [dif_pos ⟨r, h⟩]
  exact (Classical.choose_spec (⟨r, h⟩ : ∃ r, IsRoot n r)).uniq h
theorem root_ex : ∀ n : Nat, ∃ r, IsRoot (n : Int) r
  | 0 => ⟨0, by decide, by decide, by decide⟩
  | n + 1 => by
    obtain ⟨r, h1, h2, h3⟩ := root_ex n
    by_cases h : ((n + 1 : Nat) : Int) < (r + 1) * (r + 1)
    · exact ⟨r, h1, by omega, h⟩
    · refine ⟨r + 1, by omega, by omega, ?_⟩
      have : (r + 1 + 1) * (r + 1 + 1) = (r + 1) * (r + 1) + 2 * (r + 1) + 1 := by rw [Int.add_mul, Int.mul_add]; omega
      omega
theorem root_is {n : Int} (h : 0 ≤ n) : IsRoot n (rootI n) := by
  obtain ⟨m, rfl⟩ : ∃ m : Nat, n = m := ⟨n.toNat, by omega⟩
  obtain ⟨r, hr⟩ := root_ex m
  rw [hr.eq]; exact hr
noncomputable def diaS (s : Sec) : Int := rootI (452 * areaS s / 355)
theorem areaS_bd (s : Sec) : 0 ≤ areaS s ∧ areaS s ≤ 1440000 := area_V (valS_V s)
theorem dia_is (s : Sec) : IsRoot (452 * areaS s / 355) (diaS s) := root_is (by have := areaS_bd s; omega)
theorem dia_bd (s : Sec) : 0 ≤ diaS s ∧ diaS s ≤ 1354 := by
  obtain ⟨h1, h2, h3⟩ := dia_is s
  have ha := areaS_bd s
  refine ⟨h1, Int.not_lt.1 fun hh => ?_⟩
  have : (1355 : Int) * 1355 ≤ diaS s * diaS s := Int.mul_le_mul (by omega) (by omega) (by omega) (by omega)
  omega
theorem area_no {s : Sec} (h : ¬ secChk s = 0) : areaS s = 0 := by unfold areaS; rw [valS_no h]; rfl
theorem bd_no {s : Sec} (h : ¬ secChk s = 0) : bdS s = ((0, 0), (0, 0)) := by unfold bdS; rw [valS_no h]; rfl
noncomputable def cenX (s : Sec) : Int := (bdS s).1.1 + (bdS s).1.2
noncomputable def cenY (s : Sec) : Int := (bdS s).2.1 + (bdS s).2.2
theorem bx_bd {s : Sec} (v : SecV s) : ∀ j, j ≤ s.rows.length → -600 ≤ (bxN s j).1 ∧ (bxN s j).1 ≤ 600 ∧ -600 ≤ (bxN s j).2 ∧ (bxN s j).2 ≤ 600
  | 0, _ => by
    by_cases h : 0 < s.rows.length
    · have := v.row 0 h
      show -600 ≤ (rowD s 0).1 ∧ _
      rw [show bxN s 0 = rowD s 0 from rfl, rowD_eq h]; omega
    · have : s.rows = [] := List.eq_nil_of_length_eq_zero (by omega)
      show -600 ≤ (rowD s 0).1 ∧ _
      rw [show bxN s 0 = rowD s 0 from rfl]
      unfold rowD; rw [this]; decide
  | j + 1, hj => by
    have ih := bx_bd v j (by omega)
    have := v.row j (by omega)
    unfold bxN
    split
    · exact ih
    · rw [rowD_eq (by omega)]; unfold joinS; dsimp only; omega
theorem bd_bd (s : Sec) : (-600 ≤ (bdS s).1.1 ∧ (bdS s).1.1 ≤ 600 ∧ -600 ≤ (bdS s).1.2 ∧ (bdS s).1.2 ≤ 600) ∧ (-600 ≤ (bdS s).2.1 ∧ (bdS s).2.1 ≤ 600 ∧ -600 ≤ (bdS s).2.2 ∧ (bdS s).2.2 ≤ 600) := by
  have v := valS_V s
  unfold bdS bdV
  generalize valS s = u at *
  have h1 := bx_bd v _ (Nat.le_refl _)
  have h2 := v.low
  have h3 := v.high
  split
  · decide
  · exact ⟨h1, by dsimp only; omega⟩
theorem cen_bd (s : Sec) : -1200 ≤ cenX s ∧ cenX s ≤ 1200 ∧ -1200 ≤ cenY s ∧ cenY s ≤ 1200 := by
  have := bd_bd s
  unfold cenX cenY; omega
noncomputable def topS (l : List Slc) : Int := if solChk l = 0 then diaS (secD l (l.length - 1)) else 0
noncomputable def taperS (l : List Slc) : Int := if solChk l = 0 then max 0 (diaS (secD l 0) - diaS (secD l (l.length - 1))) * 10000 / pos l l.length else 0
def midS (l : List Slc) (i : Nat) : Int := 2 * pos l i + lenD l i
def alongS (a b s t m : Int) : Int := a + (b - a) * (m - s) / (t - s)
def distS (a b : Int) : Int := max (a - b) (b - a)
noncomputable def devS (l : List Slc) (i : Nat) : Int × Int :=
  (distS (cenX (secD l i)) (alongS (cenX (secD l 0)) (cenX (secD l (l.length - 1))) (midS l 0) (midS l (l.length - 1)) (midS l i)),
   distS (cenY (secD l i)) (alongS (cenY (secD l 0)) (cenY (secD l (l.length - 1))) (midS l 0) (midS l (l.length - 1)) (midS l i)))
noncomputable def swN (l : List Slc) : Nat → Int
  | 0 => 0
  | j + 1 => max (max (swN l j) (devS l j).1) (devS l j).2
noncomputable def sweepS (l : List Slc) : Int := if solChk l = 0 ∧ 3 ≤ l.length then swN l l.length else 0
theorem sol_pos {l : List Slc} (h : solChk l = 0) : 0 < l.length := Nat.pos_of_ne_zero fun hh => by rw [← sol_0 hh] at h; cases h
theorem mid_bd {l : List Slc} (v : SolV l) {i : Nat} (hi : i < l.length) : 1 ≤ midS l i ∧ midS l i ≤ 40000 := by
  have h1 := pos_bd v (j := i) (by omega)
  have h2 := pos_bd v (j := i + 1) (by omega)
  have h3 := v.one i hi
  rw [pos_succ, lenD_eq hi] at h2
  unfold midS; rw [lenD_eq hi]; omega
theorem mid_lt {l : List Slc} (v : SolV l) {i j : Nat} (hij : i < j) (hj : j < l.length) : midS l i + 2 ≤ midS l j := by
  have h0 := pos_mono v (j - (i + 1)) (i + 1) (by omega)
  rw [show i + 1 + (j - (i + 1)) = j by omega, pos_succ, lenD_eq (show i < l.length by omega)] at h0
  have h3 := v.one i (by omega)
  have h4 := v.one j hj
  unfold midS; rw [lenD_eq hj, lenD_eq (show i < l.length by omega)]; omega
theorem along_bd {a b s t m : Int} (h : s < t) (h1 : s ≤ m) (h2 : m ≤ t) (ha : -1200 ≤ a ∧ a ≤ 1200) (hb : -1200 ≤ b ∧ b ≤ 1200) : -1200 ≤ alongS a b s t m ∧ alongS a b s t m ≤ 1200 := by
  unfold alongS
  have hd : 0 < t - s := by omega
  have hp : 0 ≤ m - s := by omega
  have hq : 0 ≤ t - m := by omega
  refine ⟨?_, ?_⟩
  · have : -1200 - a ≤ (b - a) * (m - s) / (t - s) := by
      rw [Int.le_ediv_iff_mul_le hd]
      have e1 : (-1200 - a) * (t - s) = (-1200 - a) * (m - s) + (-1200 - a) * (t - m) := by rw [← Int.mul_add]; congr 1; omega
      have e2 : (-1200 - a) * (m - s) ≤ (b - a) * (m - s) := Int.mul_le_mul_of_nonneg_right (by omega) hp
      have e3 : (-1200 - a) * (t - m) ≤ 0 * (t - m) := Int.mul_le_mul_of_nonneg_right (by omega) hq
      omega
    omega
  · have : (b - a) * (m - s) / (t - s) < 1200 - a + 1 := by
      rw [Int.ediv_lt_iff_lt_mul hd]
      have e1 : (1200 - a + 1) * (t - s) = (1200 - a) * (m - s) + (1200 - a) * (t - m) + (t - s) := by
        rw [← Int.mul_add, Int.add_mul, Int.one_mul, show m - s + (t - m) = t - s by omega]
      have e2 : (b - a) * (m - s) ≤ (1200 - a) * (m - s) := Int.mul_le_mul_of_nonneg_right (by omega) hp
      have e3 : 0 * (t - m) ≤ (1200 - a) * (t - m) := Int.mul_le_mul_of_nonneg_right (by omega) hq
      omega
    omega
theorem prod_bd {x y : Int} (hx : -2400 ≤ x ∧ x ≤ 2400) (hy : 0 ≤ y ∧ y ≤ 40000) : -96000000 ≤ x * y ∧ x * y ≤ 96000000 := by
  have h1 : x * y ≤ 2400 * y := Int.mul_le_mul_of_nonneg_right hx.2 hy.1
  have h2 : -2400 * y ≤ x * y := Int.mul_le_mul_of_nonneg_right hx.1 hy.1
  omega
end Go.Proofs.YtkhljpbkebnnmaaGreatDoor.Ge
/- Walks of measures: Root, Floor, Diameter, Center2, Oval in both. -/
namespace Go.Proofs.YtkhljpbkebnnmaaGreatDoor.Ge
set_option linter.unusedVariables false
set_option linter.unusedSimpArgs false
open Go.RowKit Go.Proofs.YtkhljpbkebnnmaaGreatDoor.Ev
variable {gl : List (Nat × List CV)}
theorem u64_id {n : Int} (h : 0 ≤ n ∧ n < 18446744073709551616) : IntKind.u64.wrap n = n := by rw [u64_wrap]; omega
theorem i64_id {n : Int} (h : -9223372036854775808 ≤ n ∧ n < 9223372036854775808) : IntKind.i64.wrap n = n := by simp [IntKind.wrap, IntKind.bits, IntKind.signed]; omega
theorem root_con (n : Int) (h0 : 0 ≤ n) (h1 : n < 9223372036854775808) : Con Tryz.prog gl 126 [I n] (I (rootI n)) := by
  refine con_of Tryz.func126 rfl (by kernel_rfl) rfl ?_
  simp only [Tryz.ntmps126, Tryz.results126, argEnv, ofC, of1, List.map]
  repeat' (first
 | ((with_reducible apply aw_seq))
 | ((with_reducible apply aw_region))
 | ((with_reducible apply aw_block))
 | ((with_reducible apply thn_normal))
 | ((with_reducible apply aw_skip))
 | ((with_reducible apply ao_nil))
 | ((with_reducible apply r_move); exact rfl; exact rfl)
 | ((with_reducible apply r_assign); exact rfl; exact rfl)
 | ((with_reducible apply r_lss); exact rfl; exact rfl; exact rfl)
 | (((with_reducible apply aw_cond); exact rfl) <;> intro hg <;> (first | (exact absurd hg (by decide)) | ((try simp only [decide_eq_true_eq, decide_eq_false_iff_not, Bool.not_eq_true', Bool.not_eq_false', Bool.not_true, Bool.not_false, Bool.not_not, Int.not_lt, Int.not_le, Nat.not_lt, Nat.not_le, gt_iff_lt, ge_iff_le, List.cons.injEq, and_true] at hg); first | (exact absurd trivial hg) | (exfalso; omega) | (have hT : True := hg; clear hT hg) | skip)))
 )
  refine aw_loopG (G := Nat × Int × Int) (fun ((k, R, B) : Nat × Int × Int) => k ≤ 32 ∧ B = bitAt k ∧ RInv n k R) (fun ((k, R, B) : Nat × Int × Int) => 32 - k) (fun ((k, R, B) : Nat × Int × Int) => [(0, A n), (3, .c (.v (.int .u64 R))), (4, .c (.v (.int .u64 B)))]) (fun ((k, R, B) : Nat × Int × Int) => []) 0 (0, 0, 2147483648) ?_ (by refine weak_mk rfl ?_ ?_ <;> repeat (first | exact envW_nil | exact heapW_nil | refine envW_cons rfl rfl ?_ | refine heapW_cons rfl rfl rfl ?_)) rfl ?_
  · exact ⟨Nat.zero_le _, by decide, .start h0 h1⟩
  rintro ⟨k, R, B⟩ hI
  try dsimp only at hI
  try dsimp only
  obtain ⟨hk, hB, hinv⟩ := hI
  by_cases hlt : k < 32
  · obtain ⟨B', hB', hp, hle, hR0, hsum, hor, hhalf, hyes, hno⟩ := root_step hlt hinv
    obtain rfl : B = B' := by rw [hB, hB']
    have hm1 : 0 ≤ (R + B) * (R + B) := Int.mul_nonneg (by omega) (by omega)
    have hm2 : (R + B) * (R + B) ≤ 4294967295 * 4294967295 := Int.mul_le_mul (by omega) (by omega) (by omega) (by omega)
    have hw1 : IntKind.u64.wrap ((R + B) * (R + B)) = (R + B) * (R + B) := u64_id ⟨by omega, by omega⟩
    have hw2 : IntKind.u64.wrap n = n := u64_id ⟨by omega, by omega⟩
    have hsh : B / 2 ^ (1 : Int).toNat = bitAt (k + 1) := hhalf
    clear hinv
    by_cases hc : (R + B) * (R + B) ≤ n
    · have HI := hyes hc
      clear hyes hno
      repeat' (first
 | ((with_reducible apply r_or); exact rfl; exact rfl; exact rfl)
 | (rw [hor])
 | ((with_reducible apply r_mul_w); exact rfl; exact rfl; exact rfl)
 | (rw [hw1])
 | ((with_reducible apply r_conv); exact rfl; exact hw2; exact rfl)
 | ((with_reducible apply r_shr); exact rfl; exact rfl; exact (by decide); exact (by decide); exact rfl)
 | (rw [hsh])
 | ((with_reducible apply aw_seq))
 | ((with_reducible apply aw_region))
 | ((with_reducible apply aw_block))
 | ((with_reducible apply thn_normal))
 | ((with_reducible apply inb_normal))
 | ((with_reducible apply aw_skip))
 | ((with_reducible apply ao_nil))
 | ((with_reducible apply r_move); exact rfl; exact rfl)
 | ((with_reducible apply r_assign); exact rfl; exact rfl)
 | ((with_reducible apply r_leq); exact rfl; exact rfl; exact rfl)
 | ((with_reducible apply r_gtr); exact rfl; exact rfl; exact rfl)
 | (((with_reducible apply aw_cond); exact rfl) <;> intro hg <;> (first | (exact absurd hg (by decide)) | ((try simp only [decide_eq_true_eq, decide_eq_false_iff_not, Bool.not_eq_true', Bool.not_eq_false', Bool.not_true, Bool.not_false, Bool.not_not, Int.not_lt, Int.not_le, Nat.not_lt, Nat.not_le, gt_iff_lt, ge_iff_le, List.cons.injEq, and_true] at hg); first | (exact absurd trivial hg) | (exfalso; omega) | (have hT : True := hg; clear hT hg) | skip)))
 )
      refine ⟨(k + 1, R + B, bitAt (k + 1)), ?_, ?_, by refine weak_mk rfl ?_ ?_ <;> repeat (first | exact envW_nil | exact heapW_nil | refine envW_cons rfl rfl ?_ | refine heapW_cons rfl rfl rfl ?_)⟩
      · show 32 - (k + 1) < 32 - k; omega
      · exact ⟨by show k + 1 ≤ 32; omega, rfl, HI⟩
    · have HI := hno (by omega)
      clear hyes hno
      repeat' (first
 | ((with_reducible apply r_or); exact rfl; exact rfl; exact rfl)
 | (rw [hor])
 | ((with_reducible apply r_mul_w); exact rfl; exact rfl; exact rfl)
 | (rw [hw1])
 | ((with_reducible apply r_conv); exact rfl; exact hw2; exact rfl)
 | ((with_reducible apply r_shr); exact rfl; exact rfl; exact (by decide); exact (by decide); exact rfl)
 | (rw [hsh])
 | ((with_reducible apply aw_seq))
 | ((with_reducible apply aw_region))
 | ((with_reducible apply aw_block))
 | ((with_reducible apply thn_normal))
 | ((with_reducible apply inb_normal))
 | ((with_reducible apply aw_skip))
 | ((with_reducible apply ao_nil))
 | ((with_reducible apply r_move); exact rfl; exact rfl)
 | ((with_reducible apply r_assign); exact rfl; exact rfl)
 | ((with_reducible apply r_leq); exact rfl; exact rfl; exact rfl)
 | ((with_reducible apply r_gtr); exact rfl; exact rfl; exact rfl)
 | (((with_reducible apply aw_cond); exact rfl) <;> intro hg <;> (first | (exact absurd hg (by decide)) | ((try simp only [decide_eq_true_eq, decide_eq_false_iff_not, Bool.not_eq_true', Bool.not_eq_false', Bool.not_true, Bool.not_false, Bool.not_not, Int.not_lt, Int.not_le, Nat.not_lt, Nat.not_le, gt_iff_lt, ge_iff_le, List.cons.injEq, and_true] at hg); first | (exact absurd trivial hg) | (exfalso; omega) | (have hT : True := hg; clear hT hg) | skip)))
 )
      refine ⟨(k + 1, R, bitAt (k + 1)), ?_, ?_, by refine weak_mk rfl ?_ ?_ <;> repeat (first | exact envW_nil | exact heapW_nil | refine envW_cons rfl rfl ?_ | refine heapW_cons rfl rfl rfl ?_)⟩
      · show 32 - (k + 1) < 32 - k; omega
      · exact ⟨by show k + 1 ≤ 32; omega, rfl, HI⟩
  · obtain rfl : k = 32 := by omega
    obtain ⟨d1, d2, d3⟩ := hinv.done
    obtain rfl : B = 0 := hB
    have hw : IntKind.i64.wrap R = R := i64_id ⟨by omega, by omega⟩
    repeat' (first
 | ((with_reducible apply r_conv); exact rfl; exact hw; exact rfl)
 | ((with_reducible apply aw_seq))
 | ((with_reducible apply aw_region))
 | ((with_reducible apply thn_normal))
 | ((with_reducible apply thn_exit))
 | ((with_reducible apply inb_exit))
 | ((with_reducible apply aw_exit))
 | ((with_reducible apply aw_ret))
 | ((with_reducible apply ao_nil))
 | ((with_reducible apply r_move); exact rfl; exact rfl)
 | ((with_reducible apply r_assign); exact rfl; exact rfl)
 | ((with_reducible apply r_gtr); exact rfl; exact rfl; exact rfl)
 | (((with_reducible apply aw_cond); exact rfl) <;> intro hg <;> (first | (exact absurd hg (by decide)) | ((try simp only [decide_eq_true_eq, decide_eq_false_iff_not, Bool.not_eq_true', Bool.not_eq_false', Bool.not_true, Bool.not_false, Bool.not_not, Int.not_lt, Int.not_le, Nat.not_lt, Nat.not_le, gt_iff_lt, ge_iff_le, List.cons.injEq, and_true] at hg); first | (exact absurd trivial hg) | (exfalso; omega) | (have hT : True := hg; clear hT hg) | skip)))
 )
    exact ret_i rfl d3.eq.symm
theorem magnitude_con (n : Int) : Con Tryz.prog gl 134 [I n] (.v (.int .u64 (if n < 0 then IntKind.u64.wrap (-(IntKind.u64.wrap n)) else IntKind.u64.wrap n))) := by
  refine con_of Tryz.func134 rfl (by kernel_rfl) rfl ?_
  simp only [Tryz.ntmps134, Tryz.results134, argEnv, ofC, of1, List.map]
  by_cases h : n < 0
  · rw [if_pos h]
    repeat' (first
 | ((with_reducible apply r_conv); exact rfl; exact rfl; exact rfl)
 | ((with_reducible apply r_neg_w); exact rfl; exact rfl)
 | ((with_reducible apply aw_seq))
 | ((with_reducible apply aw_region))
 | ((with_reducible apply thn_normal))
 | ((with_reducible apply thn_ret))
 | ((with_reducible apply aw_ret))
 | ((with_reducible apply ao_nil))
 | ((with_reducible apply r_move); exact rfl; exact rfl)
 | ((with_reducible apply r_assign); exact rfl; exact rfl)
 | ((with_reducible apply r_lss); exact rfl; exact rfl; exact rfl)
 | (((with_reducible apply aw_cond); exact rfl) <;> intro hg <;> (first | (exact absurd hg (by decide)) | ((try simp only [decide_eq_true_eq, decide_eq_false_iff_not, Bool.not_eq_true', Bool.not_eq_false', Bool.not_true, Bool.not_false, Bool.not_not, Int.not_lt, Int.not_le, Nat.not_lt, Nat.not_le, gt_iff_lt, ge_iff_le, List.cons.injEq, and_true] at hg); first | (exact absurd trivial hg) | (exfalso; omega) | (have hT : True := hg; clear hT hg) | skip)))
 )
    all_goals exact ret_i rfl rfl
  · rw [if_neg h]
    repeat' (first
 | ((with_reducible apply r_conv); exact rfl; exact rfl; exact rfl)
 | ((with_reducible apply r_neg_w); exact rfl; exact rfl)
 | ((with_reducible apply aw_seq))
 | ((with_reducible apply aw_region))
 | ((with_reducible apply thn_normal))
 | ((with_reducible apply aw_skip))
 | ((with_reducible apply aw_ret))
 | ((with_reducible apply ao_nil))
 | ((with_reducible apply r_move); exact rfl; exact rfl)
 | ((with_reducible apply r_assign); exact rfl; exact rfl)
 | ((with_reducible apply r_lss); exact rfl; exact rfl; exact rfl)
 | (((with_reducible apply aw_cond); exact rfl) <;> intro hg <;> (first | (exact absurd hg (by decide)) | ((try simp only [decide_eq_true_eq, decide_eq_false_iff_not, Bool.not_eq_true', Bool.not_eq_false', Bool.not_true, Bool.not_false, Bool.not_not, Int.not_lt, Int.not_le, Nat.not_lt, Nat.not_le, gt_iff_lt, ge_iff_le, List.cons.injEq, and_true] at hg); first | (exact absurd trivial hg) | (exfalso; omega) | (have hT : True := hg; clear hT hg) | skip)))
 )
    all_goals exact ret_i rfl rfl
theorem never_con (a b : Int) : Con Tryz.prog gl 131 [.v (.int .u64 a), .v (.int .u64 b)] (.v (.bool false)) := by
  refine con_of Tryz.func131 rfl (by kernel_rfl) rfl ?_
  simp only [Tryz.ntmps131, Tryz.results131, argEnv, ofC, of1, List.map]
  repeat' (first
 | ((with_reducible apply aw_seq))
 | ((with_reducible apply aw_region))
 | ((with_reducible apply thn_normal))
 | ((with_reducible apply aw_ret))
 | ((with_reducible apply ao_nil))
 | ((with_reducible apply r_assign); exact rfl; exact rfl)
 )
  exact ret_b rfl rfl
theorem tdiv_floor {a b : Int} (hb : 0 < b) : a / b = if a < 0 ∧ a.tmod b ≠ 0 then a.tdiv b - 1 else a.tdiv b := by
  have hs : b.sign = 1 := Int.sign_eq_one_of_pos hb
  have hd : b ∣ a ↔ a.tmod b = 0 := Int.dvd_iff_tmod_eq_zero
  rw [Int.tdiv_eq_ediv, hs]
  by_cases h : 0 ≤ a ∨ b ∣ a
  · rw [if_pos h, if_neg (by rcases h with h | h; omega; rw [hd] at h; exact fun hh => hh.2 h)]; omega
  · rw [if_neg h, if_pos ⟨by omega, fun hh => h (.inr (hd.2 hh))⟩]; omega
theorem quo_bd {a b : Int} (ha : -1000000000000 ≤ a ∧ a ≤ 1000000000000) (hb : 0 < b) : -1000000000000 ≤ a.tdiv b ∧ a.tdiv b ≤ 1000000000000 := by
  have h := Int.natAbs_tdiv_le_natAbs a b
  omega
theorem quo_mul_bd {a b : Int} (ha : -1000000000000 ≤ a ∧ a ≤ 1000000000000) (hb : 0 < b ∧ b ≤ 1000000) : -2000000000000 ≤ (a / b) * b ∧ (a / b) * b ≤ 2000000000000 := by
  have h1 := Int.mul_ediv_add_emod a b
  have h2 := Int.emod_nonneg a (show b ≠ 0 by omega)
  have h3 := Int.emod_lt_of_pos a hb.1
  rw [Int.mul_comm]; omega
theorem divide_con (a b : Int) (ha : -1000000000000 ≤ a ∧ a ≤ 1000000000000) (hb : 0 < b ∧ b ≤ 1000000) : Con Tryz.prog gl 132 [.agg [fnV 131], I a, I b] (.tup [I (a / b), T]) := by
  have hq := quo_bd ha hb.1
  have hm := quo_mul_bd ha hb
  have hfl := tdiv_floor (a := a) hb.1
  have h1 := magnitude_con (gl := gl) (a - (a / b) * b)
  have h2 := magnitude_con (gl := gl) b
  have h3 := fun x y => never_con (gl := gl) x y
  have hne : (decide (a < 0) != decide (b < 0)) = decide (a < 0) := by rw [decide_eq_false (show ¬ b < 0 by omega)]; simp
  refine con_of Tryz.func132 rfl (by kernel_rfl) rfl ?_
  simp only [Tryz.ntmps132, Tryz.results132, argEnv, ofC, of1, List.map]
  by_cases hc : a < 0 ∧ a.tmod b ≠ 0
  · rw [if_pos hc] at hfl
    obtain ⟨c1, c2⟩ := hc
    have hf : fits (a.tdiv b) := by unfold fits; omega
    have hf1 : fits (a.tdiv b - 1) := by unfold fits; omega
    rw [hfl] at hm h1 ⊢
    have hf2 : fits ((a.tdiv b - 1) * b) := by unfold fits; omega
    have hf3 : fits (a - (a.tdiv b - 1) * b) := by generalize (a.tdiv b - 1) * b = m at hm; unfold fits; omega
    repeat' (first
 | ((with_reducible apply r_quo); exact rfl; exact rfl; exact (by omega); exact hf; exact rfl)
 | ((with_reducible apply r_rem); exact rfl; exact rfl; exact (by omega); exact rfl)
 | ((with_reducible apply r_neqb); exact rfl; exact rfl; exact Tryz.underlying4; exact rfl)
 | (rw [hne])
 | ((with_reducible apply r_call); exact rfl; exact rfl; (first | exact h1 | exact h2); exact rfl; exact rfl)
 | ((with_reducible apply r_callfv); exact rfl; exact rfl; exact rfl; exact h3 _ _; exact rfl; exact rfl)
 | ((with_reducible apply aw_seq))
 | ((with_reducible apply aw_region))
 | ((with_reducible apply thn_normal))
 | ((with_reducible apply aw_skip))
 | ((with_reducible apply aw_ret))
 | ((with_reducible apply ao_nil))
 | ((with_reducible apply r_move); exact rfl; exact rfl)
 | ((with_reducible apply r_assign); exact rfl; exact rfl)
 | ((with_reducible apply r_field_p); exact rfl; exact rfl)
 | ((with_reducible apply r_load_p); exact rfl; exact rfl; exact rfl; exact rfl)
 | ((with_reducible apply r_lss); exact rfl; exact rfl; exact rfl)
 | ((with_reducible apply r_eql); exact rfl; exact rfl; exact rfl)
 | ((with_reducible apply r_neq); exact rfl; exact rfl; exact rfl)
 | ((with_reducible apply r_sub); exact rfl; exact rfl; exact (by first | assumption | (unfold fits; omega)); exact rfl)
 | ((with_reducible apply r_mul); exact rfl; exact rfl; exact (by first | assumption | (unfold fits; omega)); exact rfl)
 | ((with_reducible apply r_box_a); exact rfl; exact rfl)
 | ((with_reducible apply r_pick_t); exact rfl; exact rfl; exact rfl)
 | ((with_reducible apply r_pick_f); exact rfl; exact rfl; exact rfl)
 | (((with_reducible apply r_guard); exact rfl; exact rfl; exact rfl; exact rfl) <;> intro hg <;> (first | (exact absurd hg (by decide)) | ((try simp only [decide_eq_true_eq, decide_eq_false_iff_not, Bool.not_eq_true', Bool.not_eq_false', Bool.not_true, Bool.not_false, Bool.not_not, Int.not_lt, Int.not_le, Nat.not_lt, Nat.not_le, gt_iff_lt, ge_iff_le, List.cons.injEq, and_true] at hg); first | (exact absurd trivial hg) | (exfalso; omega) | (have hT : True := hg; clear hT hg) | skip)))
 | (((with_reducible apply aw_cond); exact rfl) <;> intro hg <;> (first | (exact absurd hg (by decide)) | ((try simp only [decide_eq_true_eq, decide_eq_false_iff_not, Bool.not_eq_true', Bool.not_eq_false', Bool.not_true, Bool.not_false, Bool.not_not, Int.not_lt, Int.not_le, Nat.not_lt, Nat.not_le, gt_iff_lt, ge_iff_le, List.cons.injEq, and_true] at hg); first | (exact absurd trivial hg) | (exfalso; omega) | (have hT : True := hg; clear hT hg) | skip)))
 | (refine aw_drawq ?_ ?_; (kernel_rfl))
 | ((with_reducible apply ds_nil))
 )
    all_goals first | exact ret2 (.cons (.tmp rfl cl_c) (.cons (.tmp rfl cl_c) .nil)) | trace_state
  · rw [if_neg hc] at hfl
    have hf : fits (a.tdiv b) := by unfold fits; omega
    rw [hfl] at hm h1 ⊢
    have hf2 : fits ((a.tdiv b) * b) := by unfold fits; omega
    have hf3 : fits (a - (a.tdiv b) * b) := by generalize (a.tdiv b) * b = m at hm; unfold fits; omega
    have hc' : a < 0 → a.tmod b = 0 := fun h => Classical.byContradiction fun hh => hc ⟨h, hh⟩
    repeat' (first
 | ((with_reducible apply r_quo); exact rfl; exact rfl; exact (by omega); exact hf; exact rfl)
 | ((with_reducible apply r_rem); exact rfl; exact rfl; exact (by omega); exact rfl)
 | ((with_reducible apply r_neqb); exact rfl; exact rfl; exact Tryz.underlying4; exact rfl)
 | (rw [hne])
 | ((with_reducible apply r_call); exact rfl; exact rfl; (first | exact h1 | exact h2); exact rfl; exact rfl)
 | ((with_reducible apply r_callfv); exact rfl; exact rfl; exact rfl; exact h3 _ _; exact rfl; exact rfl)
 | ((with_reducible apply aw_seq))
 | ((with_reducible apply aw_region))
 | ((with_reducible apply thn_normal))
 | ((with_reducible apply aw_skip))
 | ((with_reducible apply aw_ret))
 | ((with_reducible apply ao_nil))
 | ((with_reducible apply r_move); exact rfl; exact rfl)
 | ((with_reducible apply r_assign); exact rfl; exact rfl)
 | ((with_reducible apply r_field_p); exact rfl; exact rfl)
 | ((with_reducible apply r_load_p); exact rfl; exact rfl; exact rfl; exact rfl)
 | ((with_reducible apply r_lss); exact rfl; exact rfl; exact rfl)
 | ((with_reducible apply r_eql); exact rfl; exact rfl; exact rfl)
 | ((with_reducible apply r_neq); exact rfl; exact rfl; exact rfl)
 | ((with_reducible apply r_sub); exact rfl; exact rfl; exact (by first | assumption | (unfold fits; omega)); exact rfl)
 | ((with_reducible apply r_mul); exact rfl; exact rfl; exact (by first | assumption | (unfold fits; omega)); exact rfl)
 | ((with_reducible apply r_box_a); exact rfl; exact rfl)
 | ((with_reducible apply r_pick_t); exact rfl; exact rfl; exact rfl)
 | ((with_reducible apply r_pick_f); exact rfl; exact rfl; exact rfl)
 | (((with_reducible apply r_guard); exact rfl; exact rfl; exact rfl; exact rfl) <;> intro hg <;> (first | (exact absurd hg (by decide)) | ((try simp only [decide_eq_true_eq, decide_eq_false_iff_not, Bool.not_eq_true', Bool.not_eq_false', Bool.not_true, Bool.not_false, Bool.not_not, Int.not_lt, Int.not_le, Nat.not_lt, Nat.not_le, gt_iff_lt, ge_iff_le, List.cons.injEq, and_true] at hg); first | (exact absurd trivial hg) | (exfalso; omega) | (have hT : True := hg; clear hT hg) | skip)))
 | (((with_reducible apply aw_cond); exact rfl) <;> intro hg <;> (first | (exact absurd hg (by decide)) | ((try simp only [decide_eq_true_eq, decide_eq_false_iff_not, Bool.not_eq_true', Bool.not_eq_false', Bool.not_true, Bool.not_false, Bool.not_not, Int.not_lt, Int.not_le, Nat.not_lt, Nat.not_le, gt_iff_lt, ge_iff_le, List.cons.injEq, and_true] at hg); first | (exact absurd trivial hg) | (exfalso; omega) | (have hT : True := hg; clear hT hg) | skip)))
 | (refine aw_drawq ?_ ?_; (kernel_rfl))
 | ((with_reducible apply ds_nil))
 )
    all_goals first | exact ret2 (.cons (.tmp rfl cl_c) (.cons (.tmp rfl cl_c) .nil)) | trace_state
theorem floor_con (a b : Int) (ha : -1000000000000 ≤ a ∧ a ≤ 1000000000000) (hb : 0 < b ∧ b ≤ 1000000) : Con Tryz.prog gl 128 [I a, I b] (.tup [I (a / b), T]) := by
  have h1 := divide_con (gl := gl) a b ha hb
  refine con_of Tryz.func128 rfl (by kernel_rfl) rfl ?_
  simp only [Tryz.ntmps128, Tryz.results128, argEnv, ofC, of1, List.map]
  repeat' (first
 | ((with_reducible apply aw_seq))
 | ((with_reducible apply aw_region))
 | ((with_reducible apply thn_normal))
 | ((with_reducible apply ao_nil))
 | ((with_reducible apply r_move); exact rfl; exact rfl)
 | ((with_reducible apply r_assign); exact rfl; exact rfl)
 | ((with_reducible apply r_load_pa); exact rfl; exact rfl; exact rfl; exact rfl; exact rfl)
 | ((with_reducible apply r_store_pa); exact rfl; exact rfl; exact rfl; exact rfl; exact rfl; exact rfl)
 | ((with_reducible apply r_build); exact rfl; exact rfl; exact rfl)
 | ((with_reducible apply r_alloc); exact rfl)
 )
  refine r_fnc 8 rfl rfl ?_
  repeat' (first
 | ((with_reducible apply r_call); exact rfl; exact rfl; exact h1; exact rfl; exact rfl)
 | ((with_reducible apply thn_normal))
 | ((with_reducible apply aw_ret))
 | ((with_reducible apply ao_nil))
 | ((with_reducible apply r_assign); exact rfl; exact rfl)
 | ((with_reducible apply r_extract); exact rfl; exact rfl; exact rfl)
 )
  exact ret2 (.cons (.tmp rfl cl_c) (.cons (.tmp rfl cl_c) .nil))
theorem rfloor_con (a b : Int) (ha : -1000000000000 ≤ a ∧ a ≤ 1000000000000) (hb : 0 < b ∧ b ≤ 1000000) : Con Tryz.prog gl 124 [I a, I b] (I (a / b)) := by
  have hq := quo_bd ha hb.1
  have hm := quo_mul_bd ha hb
  have h1 := Int.mul_tdiv_add_tmod a b
  have hfl := tdiv_floor (a := a) hb.1
  have hc0 : a.tdiv b * b = a - a.tmod b := by rw [Int.mul_comm]; omega
  have hs := Int.tmod_lt_of_pos a hb.1
  have hs2 : a < 0 → a.tmod b ≤ 0 := fun h => by
    have := Int.tmod_nonneg b (show 0 ≤ -a by omega)
    rw [Int.neg_tmod] at this; omega
  have hs3 : 0 ≤ a → 0 ≤ a.tmod b := fun h => Int.tmod_nonneg b h
  have hf : fits (a.tdiv b) := by unfold fits; omega
  have hlow : -b < a.tmod b := by
    have h5 := Int.tmod_lt_of_pos (-a) hb.1
    rw [Int.neg_tmod] at h5; omega
  have hf2 : fits (a.tdiv b * b) := by unfold fits; omega
  refine con_of Tryz.func124 rfl (by kernel_rfl) rfl ?_
  simp only [Tryz.ntmps124, Tryz.results124, argEnv, ofC, of1, List.map]
  by_cases hc : a < 0 ∧ a.tmod b ≠ 0
  · rw [if_pos hc] at hfl
    have h6 := hs2 hc.1
    obtain ⟨c1, c2⟩ := hc
    repeat' (first
 | ((with_reducible apply r_quo); exact rfl; exact rfl; exact (by omega); exact hf; exact rfl)
 | ((with_reducible apply aw_seq))
 | ((with_reducible apply aw_region))
 | ((with_reducible apply thn_normal))
 | ((with_reducible apply aw_ret))
 | ((with_reducible apply ao_nil))
 | ((with_reducible apply r_move); exact rfl; exact rfl)
 | ((with_reducible apply r_assign); exact rfl; exact rfl)
 | ((with_reducible apply r_gtr); exact rfl; exact rfl; exact rfl)
 | ((with_reducible apply r_sub); exact rfl; exact rfl; exact (by first | assumption | (unfold fits; omega)); exact rfl)
 | ((with_reducible apply r_mul); exact rfl; exact rfl; exact (by first | assumption | (unfold fits; omega)); exact rfl)
 | (((with_reducible apply aw_cond); exact rfl) <;> intro hg <;> (first | (exact absurd hg (by decide)) | ((try simp only [decide_eq_true_eq, decide_eq_false_iff_not, Bool.not_eq_true', Bool.not_eq_false', Bool.not_true, Bool.not_false, Bool.not_not, Int.not_lt, Int.not_le, Nat.not_lt, Nat.not_le, gt_iff_lt, ge_iff_le, List.cons.injEq, and_true] at hg); first | (exact absurd trivial hg) | (exfalso; omega) | (have hT : True := hg; clear hT hg) | skip)))
 )
    exact ret_i rfl hfl.symm
  · rw [if_neg hc] at hfl
    have h6 : 0 ≤ a.tmod b := by
      by_cases h : 0 ≤ a
      · exact hs3 h
      · have : a.tmod b = 0 := Classical.byContradiction fun hh => hc ⟨by omega, hh⟩
        omega
    repeat' (first
 | ((with_reducible apply r_quo); exact rfl; exact rfl; exact (by omega); exact hf; exact rfl)
 | ((with_reducible apply aw_seq))
 | ((with_reducible apply aw_region))
 | ((with_reducible apply thn_normal))
 | ((with_reducible apply aw_skip))
 | ((with_reducible apply aw_ret))
 | ((with_reducible apply ao_nil))
 | ((with_reducible apply r_move); exact rfl; exact rfl)
 | ((with_reducible apply r_assign); exact rfl; exact rfl)
 | ((with_reducible apply r_gtr); exact rfl; exact rfl; exact rfl)
 | ((with_reducible apply r_mul); exact rfl; exact rfl; exact (by first | assumption | (unfold fits; omega)); exact rfl)
 | (((with_reducible apply aw_cond); exact rfl) <;> intro hg <;> (first | (exact absurd hg (by decide)) | ((try simp only [decide_eq_true_eq, decide_eq_false_iff_not, Bool.not_eq_true', Bool.not_eq_false', Bool.not_true, Bool.not_false, Bool.not_not, Int.not_lt, Int.not_le, Nat.not_lt, Nat.not_le, gt_iff_lt, ge_iff_le, List.cons.injEq, and_true] at hg); first | (exact absurd trivial hg) | (exfalso; omega) | (have hT : True := hg; clear hT hg) | skip)))
 )
    exact ret_i rfl hfl.symm
end Go.Proofs.YtkhljpbkebnnmaaGreatDoor.Ge
