/- CutA CutB: texts laid together. -/
import Derived.Test.YtkhljpbkebnnmaaDoorMrgI0
/- Walks of cutting: behind, places, measures, small, Check. -/
namespace Go.Proofs.YtkhljpbkebnnmaaDoor.Cu
set_option linter.unusedVariables false
set_option linter.unusedSimpArgs false
open Go.RowKit Go.Proofs.YtkhljpbkebnnmaaDoor.Ev

abbrev I (n : Int) : CV := .v (.int .i64 n)
abbrev A (n : Int) : AV := .c (.v (.int .i64 n))
def inC (n : Int) : List CV := [I n]
instance : EncL inC 1 := ⟨fun _ => rfl, by decide, fun _ => rfl⟩
abbrev LI (l : List Int) : CV := .lst 1 (l.flatMap inC)
def rowC (l : List Int) : List CV := [LI l]
instance : EncL rowC 1 := ⟨fun _ => rfl, by decide, fun _ => rfl⟩
abbrev LL (l : List (List Int)) : CV := .lst 1 (l.flatMap rowC)
structure Line where
  len : Int
  kerf : Int
  pitch : Int
  sizes : List Int
  gain : List (List Int)
  chip : List Int
  dust : List Int
def lineL (l : Line) : List CV := [I l.len, I l.kerf, I l.pitch, LI l.sizes, LL l.gain, LI l.chip, LI l.dust]
def lineC (l : Line) : CV := .agg (lineL l)
abbrev lineB (l : Line) : AB := .cells 37 [.c (I l.len), .c (I l.kerf), .c (I l.pitch), .c (LI l.sizes), .c (LL l.gain), .c (LI l.chip), .c (LI l.dust)]

variable {gl : List (Nat × List CV)}
def behindS (l : Line) (e : Int) : Int := if e = l.len then -1 else min (e + l.kerf) l.len
theorem behind_con (l : Line) (e : Int) (h : fits (e + l.kerf)) : Con Tryd.prog gl 30 [lineC l, I e] (I (behindS l e)) := by
  refine con_of Tryd.func30 rfl (by kernel_rfl) rfl ?_
  simp only [Tryd.ntmps30, Tryd.results30, argEnv, ofC, of1, List.map, lineC, lineL]
  repeat' (first
 | ((with_reducible apply aw_seq))
 | ((with_reducible apply aw_region))
 | ((with_reducible apply thn_normal))
 | ((with_reducible apply thn_ret))
 | ((with_reducible apply aw_skip))
 | ((with_reducible apply aw_ret))
 | ((with_reducible apply ao_nil))
 | ((with_reducible apply r_move); exact rfl; exact rfl)
 | ((with_reducible apply r_assign); exact rfl; exact rfl)
 | ((with_reducible apply r_field_p); exact rfl; exact rfl)
 | ((with_reducible apply r_load_p); exact rfl; exact rfl; exact rfl; exact rfl)
 | ((with_reducible apply r_eql); exact rfl; exact rfl; exact rfl)
 | ((with_reducible apply r_add); exact rfl; exact rfl; exact (by first | assumption | (unfold fits; omega)); exact rfl)
 | ((with_reducible apply r_min); exact rfl; exact rfl; exact rfl)
 | ((with_reducible apply r_box_a); exact rfl; exact rfl)
 | (((with_reducible apply aw_cond); exact rfl) <;> intro hg <;> (first | (exact absurd hg (by decide)) | ((try simp only [decide_eq_true_eq, decide_eq_false_iff_not, Bool.not_eq_true', Bool.not_eq_false', Bool.not_true, Bool.not_false, Bool.not_not, Int.not_lt, Int.not_le, Nat.not_lt, Nat.not_le, gt_iff_lt, ge_iff_le, List.cons.injEq, and_true] at hg); first | (exact absurd trivial hg) | (exfalso; omega) | (have hT : True := hg; clear hT hg) | skip)))
    )
  · exact ret_i rfl (by unfold behindS; rw [if_pos hg])
  · exact ret_i rfl (by unfold behindS; rw [if_neg hg])
theorem places_con (l : Line) (s : Int) (h : 0 ≤ l.len ∧ l.len ≤ 2000 ∧ 1 ≤ s ∧ s ≤ 2000) : Con Tryd.prog gl 46 [lineC l, I s] (I (max 0 (l.len - s + 1))) := by
  refine con_of Tryd.func46 rfl (by kernel_rfl) rfl ?_
  simp only [Tryd.ntmps46, Tryd.results46, argEnv, ofC, of1, List.map, lineC, lineL]
  repeat' (first
 | ((with_reducible apply aw_seq))
 | ((with_reducible apply aw_region))
 | ((with_reducible apply thn_normal))
 | ((with_reducible apply aw_ret))
 | ((with_reducible apply ao_nil))
 | ((with_reducible apply r_move); exact rfl; exact rfl)
 | ((with_reducible apply r_assign); exact rfl; exact rfl)
 | ((with_reducible apply r_field_p); exact rfl; exact rfl)
 | ((with_reducible apply r_load_p); exact rfl; exact rfl; exact rfl; exact rfl)
 | ((with_reducible apply r_add); exact rfl; exact rfl; exact (by first | assumption | (unfold fits; omega)); exact rfl)
 | ((with_reducible apply r_sub); exact rfl; exact rfl; exact (by first | assumption | (unfold fits; omega)); exact rfl)
 | ((with_reducible apply r_max); exact rfl; exact rfl; exact rfl)
 | ((with_reducible apply r_box_a); exact rfl; exact rfl)
    )
  exact ret_i rfl rfl

def headBad (l : Line) : Prop := l.len < 0 ∨ 2000 < l.len ∨ l.kerf < 0 ∨ 20 < l.kerf ∨ l.pitch < 1 ∨ 2000 < l.pitch
instance (l : Line) : Decidable (headBad l) := by unfold headBad; exact inferInstance
def sizeOk (s : Int) : Bool := decide (1 ≤ s) && decide (s ≤ 2000)
def measS (l : Line) : Int := if headBad l then 9 else if 32 < l.sizes.length then 4 else if l.sizes.all sizeOk then 0 else 9
theorem all_of {α : Type} {p : α → Bool} {l : List α} (h : ∀ i (h : i < l.length), p l[i] = true) : l.all p = true := by
  rw [List.all_eq_true]; intro x hx; obtain ⟨i, hi, rfl⟩ := List.mem_iff_getElem.1 hx; exact h i hi
theorem all_not {α : Type} {p : α → Bool} {l : List α} {i : Nat} (hi : i < l.length) (h : p l[i] = false) : l.all p = false := by
  rw [List.all_eq_false]; exact ⟨l[i], List.getElem_mem _, by simp [h]⟩
theorem step_all {α : Type} {p : α → Bool} {l : List α} {j : Nat} (hj : j < l.length) (h : ∀ i (h : i < l.length), i < j → p l[i] = true) (hp : p l[j] = true) : ∀ i (h : i < l.length), i < j + 1 → p l[i] = true := by
  intro i hi hij
  by_cases he : i = j
  · subst he; exact hp
  · exact h i hi (by omega)
theorem meas1 {l : Line} (h : headBad l) : 9 = measS l := by unfold measS; rw [if_pos h]
theorem meas2 {l : Line} (h : ¬ headBad l) (h2 : 32 < l.sizes.length) : 4 = measS l := by unfold measS; rw [if_neg h, if_pos h2]
theorem meas3 {l : Line} (h : ¬ headBad l) (h2 : ¬ 32 < l.sizes.length) {j : Nat} (hj : j < l.sizes.length) (hs : sizeOk l.sizes[j] = false) : 9 = measS l := by unfold measS; rw [if_neg h, if_neg h2, all_not hj hs]; rfl
theorem meas4 {l : Line} (h : ¬ headBad l) (h2 : ¬ 32 < l.sizes.length) (hs : ∀ i (h : i < l.sizes.length), sizeOk l.sizes[i] = true) : 0 = measS l := by unfold measS; rw [if_neg h, if_neg h2, all_of hs]; rfl
theorem meas0 {l : Line} (h : measS l = 0) : ¬ headBad l ∧ l.sizes.length ≤ 32 ∧ ∀ i (h : i < l.sizes.length), 1 ≤ l.sizes[i] ∧ l.sizes[i] ≤ 2000 := by
  unfold measS at h
  split at h
  · simp at h
  split at h
  · simp at h
  split at h
  · rename_i h1 h2 h3
    refine ⟨h1, by omega, fun i hi => ?_⟩
    have := List.all_eq_true.1 h3 _ (List.getElem_mem hi)
    unfold sizeOk at this
    simpa using this
  · simp at h
set_option maxRecDepth 100000 in
set_option maxHeartbeats 4000000 in
theorem meas_con (l : Line) : Con Tryd.prog gl 45 [lineC l] (I (measS l)) := by
  refine con_of Tryd.func45 rfl (by kernel_rfl) rfl ?_
  simp only [Tryd.ntmps45, Tryd.results45, argEnv, ofC, of1, List.map, lineC, lineL]
  repeat' (first
 | ((with_reducible apply aw_seq))
 | ((with_reducible apply aw_region))
 | ((with_reducible apply aw_block))
 | ((with_reducible apply thn_normal))
 | ((with_reducible apply thn_ret))
 | ((with_reducible apply aw_skip))
 | ((with_reducible apply aw_ret))
 | ((with_reducible apply ao_nil))
 | ((with_reducible apply r_move); exact rfl; exact rfl)
 | ((with_reducible apply r_assign); exact rfl; exact rfl)
 | ((with_reducible apply r_field_p); exact rfl; exact rfl)
 | ((with_reducible apply r_load_p); exact rfl; exact rfl; exact rfl; exact rfl)
 | ((with_reducible apply r_lss); exact rfl; exact rfl; exact rfl)
 | ((with_reducible apply r_gtr); exact rfl; exact rfl; exact rfl)
 | ((with_reducible apply r_box_a); exact rfl; exact rfl)
 | ((with_reducible apply r_pick_t); exact rfl; exact rfl; exact rfl)
 | ((with_reducible apply r_pick_f); exact rfl; exact rfl; exact rfl)
 | ((with_reducible apply r_len_f); exact rfl; exact inferInstance; exact rfl)
 | (((with_reducible apply r_guard); exact rfl; exact rfl; exact rfl; exact rfl) <;> intro hg <;> (first | (exact absurd hg (by decide)) | ((try simp only [decide_eq_true_eq, decide_eq_false_iff_not, Bool.not_eq_true', Bool.not_eq_false', Bool.not_true, Bool.not_false, Bool.not_not, Int.not_lt, Int.not_le, Nat.not_lt, Nat.not_le, gt_iff_lt, ge_iff_le, List.cons.injEq, and_true] at hg); first | (exact absurd trivial hg) | (exfalso; omega) | (have hT : True := hg; clear hT hg) | skip)))
 | (((with_reducible apply aw_cond); exact rfl) <;> intro hg <;> (first | (exact absurd hg (by decide)) | ((try simp only [decide_eq_true_eq, decide_eq_false_iff_not, Bool.not_eq_true', Bool.not_eq_false', Bool.not_true, Bool.not_false, Bool.not_not, Int.not_lt, Int.not_le, Nat.not_lt, Nat.not_le, gt_iff_lt, ge_iff_le, List.cons.injEq, and_true] at hg); first | (exact absurd trivial hg) | (exfalso; omega) | (have hT : True := hg; clear hT hg) | skip)))
    )
  all_goals first | exact ret_i rfl (meas1 (by unfold headBad; omega)) | exact ret_i rfl (meas2 (by unfold headBad; omega) (by omega)) | skip
  have hh : ¬ headBad l := by unfold headBad; omega
  have hl : ¬ 32 < l.sizes.length := by omega
  refine aw_loopG (G := Nat) (fun (j : Nat) => j ≤ l.sizes.length ∧ ∀ i (h : i < l.sizes.length), i < j → sizeOk l.sizes[i] = true) (fun (j : Nat) => l.sizes.length - j) (fun (j : Nat) => [(38, .c (LI l.sizes)), (39, A l.sizes.length), (40, A j)]) (fun (j : Nat) => []) 1 0 ?_ (by refine weak_mk rfl ?_ ?_ <;> repeat (first | exact envW_nil | exact heapW_nil | refine envW_cons rfl rfl ?_ | refine heapW_cons rfl rfl rfl ?_)) rfl ?_
  · exact ⟨Nat.zero_le _, fun _ _ h => absurd h (Nat.not_lt_zero _)⟩
  rintro j hI
  try dsimp only at hI
  try dsimp only
  obtain ⟨hj, hall⟩ := hI
  repeat' (first
 | ((with_reducible apply aw_seq))
 | ((with_reducible apply aw_region))
 | ((with_reducible apply aw_block))
 | ((with_reducible apply thn_normal))
 | ((with_reducible apply thn_ret))
 | ((with_reducible apply thn_exit))
 | ((with_reducible apply inb_normal))
 | ((with_reducible apply inb_ret))
 | ((with_reducible apply inb_exit))
 | ((with_reducible apply aw_skip))
 | ((with_reducible apply aw_exit))
 | ((with_reducible apply aw_ret))
 | ((with_reducible apply ao_nil))
 | ((with_reducible apply r_move); exact rfl; exact rfl)
 | ((with_reducible apply r_assign); exact rfl; exact rfl)
 | ((with_reducible apply r_lss); exact rfl; exact rfl; exact rfl)
 | ((with_reducible apply r_gtr); exact rfl; exact rfl; exact rfl)
 | ((with_reducible apply r_add); exact rfl; exact rfl; exact (by first | assumption | (unfold fits; omega)); exact rfl)
 | ((with_reducible apply r_pick_t); exact rfl; exact rfl; exact rfl)
 | ((with_reducible apply r_pick_f); exact rfl; exact rfl; exact rfl)
 | ((with_reducible apply r_index_f); exact rfl; exact inferInstance; exact rfl; exact rfl; (first | assumption | omega); exact rfl)
 | ((with_reducible apply r_load_f0); exact rfl; exact inferInstance; exact List.getElem?_eq_getElem (by first | assumption | omega); exact rfl; exact rfl)
 | (((with_reducible apply r_guard); exact rfl; exact rfl; exact rfl; exact rfl) <;> intro hg <;> (first | (exact absurd hg (by decide)) | ((try simp only [decide_eq_true_eq, decide_eq_false_iff_not, Bool.not_eq_true', Bool.not_eq_false', Bool.not_true, Bool.not_false, Bool.not_not, Int.not_lt, Int.not_le, Nat.not_lt, Nat.not_le, gt_iff_lt, ge_iff_le, List.cons.injEq, and_true] at hg); first | (exact absurd trivial hg) | (exfalso; omega) | (have hT : True := hg; clear hT hg) | skip)))
 | (((with_reducible apply aw_cond); exact rfl) <;> intro hg <;> (first | (exact absurd hg (by decide)) | ((try simp only [decide_eq_true_eq, decide_eq_false_iff_not, Bool.not_eq_true', Bool.not_eq_false', Bool.not_true, Bool.not_false, Bool.not_not, Int.not_lt, Int.not_le, Nat.not_lt, Nat.not_le, gt_iff_lt, ge_iff_le, List.cons.injEq, and_true] at hg); first | (exact absurd trivial hg) | (exfalso; omega) | (have hT : True := hg; clear hT hg) | skip)))
    )
  · exact ret_i rfl (meas3 hh hl (j := j) (by omega) (by unfold sizeOk; simp; omega))
  · skip
    refine ⟨j + 1, ?_, ?_, by refine weak_mk rfl ?_ ?_ <;> repeat (first | exact envW_nil | exact heapW_nil | refine envW_cons rfl rfl ?_ | refine heapW_cons rfl rfl rfl ?_)⟩
    · omega
    · exact ⟨by omega, step_all (by omega) hall (by unfold sizeOk; simp; omega)⟩
  · exact ret_i rfl (meas3 hh hl (j := j) (by omega) (by unfold sizeOk; simp; omega))
  · exact ret_i rfl (meas4 hh hl (fun i hi => hall i hi (by omega)))

def smallN (n : Int) : Bool := decide (-1125899906842624 ≤ n) && decide (n ≤ 1125899906842624)
def smallL (l : List Int) : Bool := l.all smallN
set_option maxRecDepth 100000 in
set_option maxHeartbeats 4000000 in
theorem small_con (ls : List (List Int)) (hn : ls.length ≤ 1000000) (hr : ∀ i (h : i < ls.length), ls[i].length ≤ 1000000) : Con Tryd.prog gl 47 [LL ls] (.v (.bool (ls.all smallL))) := by
  refine con_of Tryd.func47 rfl (by kernel_rfl) rfl ?_
  simp only [Tryd.ntmps47, Tryd.results47, argEnv, ofC, of1, List.map]
  repeat' (first
 | ((with_reducible apply aw_seq))
 | ((with_reducible apply aw_region))
 | ((with_reducible apply aw_block))
 | ((with_reducible apply thn_normal))
 | ((with_reducible apply ao_nil))
 | ((with_reducible apply r_move); exact rfl; exact rfl)
 | ((with_reducible apply r_assign); exact rfl; exact rfl)
 | ((with_reducible apply r_len_f); exact rfl; exact inferInstance; exact rfl)
    )
  refine aw_loopG (G := Nat) (fun (j : Nat) => j ≤ ls.length ∧ ∀ i (h : i < ls.length), i < j → smallL ls[i] = true) (fun (j : Nat) => ls.length - j) (fun (j : Nat) => [(7, .c (LL ls)), (8, A ls.length), (9, A j)]) (fun (j : Nat) => []) 0 0 ?_ (by refine weak_mk rfl ?_ ?_ <;> repeat (first | exact envW_nil | exact heapW_nil | refine envW_cons rfl rfl ?_ | refine heapW_cons rfl rfl rfl ?_)) rfl ?_
  · exact ⟨Nat.zero_le _, fun _ _ h => absurd h (Nat.not_lt_zero _)⟩
  rintro j hI
  try dsimp only at hI
  try dsimp only
  obtain ⟨hj, hall⟩ := hI
  repeat' (first
 | ((with_reducible apply aw_seq))
 | ((with_reducible apply aw_region))
 | ((with_reducible apply aw_block))
 | ((with_reducible apply thn_normal))
 | ((with_reducible apply thn_exit))
 | ((with_reducible apply inb_exit))
 | ((with_reducible apply aw_skip))
 | ((with_reducible apply aw_exit))
 | ((with_reducible apply aw_ret))
 | ((with_reducible apply ao_nil))
 | ((with_reducible apply r_move); exact rfl; exact rfl)
 | ((with_reducible apply r_assign); exact rfl; exact rfl)
 | ((with_reducible apply r_lss); exact rfl; exact rfl; exact rfl)
 | ((with_reducible apply r_len_f); exact rfl; exact inferInstance; exact rfl)
 | ((with_reducible apply r_index_f); exact rfl; exact inferInstance; exact rfl; exact rfl; (first | assumption | omega); exact rfl)
 | ((with_reducible apply r_load_f0); exact rfl; exact inferInstance; exact List.getElem?_eq_getElem (by first | assumption | omega); exact rfl; exact rfl)
 | (((with_reducible apply aw_cond); exact rfl) <;> intro hg <;> (first | (exact absurd hg (by decide)) | ((try simp only [decide_eq_true_eq, decide_eq_false_iff_not, Bool.not_eq_true', Bool.not_eq_false', Bool.not_true, Bool.not_false, Bool.not_not, Int.not_lt, Int.not_le, Nat.not_lt, Nat.not_le, gt_iff_lt, ge_iff_le, List.cons.injEq, and_true] at hg); first | (exact absurd trivial hg) | (exfalso; omega) | (have hT : True := hg; clear hT hg) | skip)))
    )
  · have hj1 : j < ls.length := by omega
    have hlr := hr j hj1
    refine aw_loopG (G := Nat) (fun (i : Nat) => i ≤ ls[j].length ∧ ∀ q (h : q < ls[j].length), q < i → smallN ls[j][q] = true) (fun (i : Nat) => ls[j].length - i) (fun (i : Nat) => [(7, .c (LL ls)), (8, A ls.length), (9, A j), (13, .c (LI ls[j])), (14, A ls[j].length), (15, A i)]) (fun (i : Nat) => []) 0 0 ?_ (by refine weak_mk rfl ?_ ?_ <;> repeat (first | exact envW_nil | exact heapW_nil | refine envW_cons rfl rfl ?_ | refine heapW_cons rfl rfl rfl ?_)) rfl ?_
    · exact ⟨Nat.zero_le _, fun _ _ h => absurd h (Nat.not_lt_zero _)⟩
    rintro i hI
    try dsimp only at hI
    try dsimp only
    obtain ⟨hi, hin⟩ := hI
    repeat' (first
 | ((with_reducible apply aw_seq))
 | ((with_reducible apply aw_region))
 | ((with_reducible apply aw_block))
 | ((with_reducible apply thn_normal))
 | ((with_reducible apply thn_ret))
 | ((with_reducible apply thn_exit))
 | ((with_reducible apply inb_normal))
 | ((with_reducible apply inb_ret))
 | ((with_reducible apply inb_exit))
 | ((with_reducible apply aw_skip))
 | ((with_reducible apply aw_exit))
 | ((with_reducible apply aw_ret))
 | ((with_reducible apply ao_nil))
 | ((with_reducible apply r_move); exact rfl; exact rfl)
 | ((with_reducible apply r_assign); exact rfl; exact rfl)
 | ((with_reducible apply r_lss); exact rfl; exact rfl; exact rfl)
 | ((with_reducible apply r_gtr); exact rfl; exact rfl; exact rfl)
 | ((with_reducible apply r_add); exact rfl; exact rfl; exact (by first | assumption | (unfold fits; omega)); exact rfl)
 | ((with_reducible apply r_pick_t); exact rfl; exact rfl; exact rfl)
 | ((with_reducible apply r_pick_f); exact rfl; exact rfl; exact rfl)
 | ((with_reducible apply r_index_f); exact rfl; exact inferInstance; exact rfl; exact rfl; (first | assumption | omega); exact rfl)
 | ((with_reducible apply r_load_f0); exact rfl; exact inferInstance; exact List.getElem?_eq_getElem (by first | assumption | omega); exact rfl; exact rfl)
 | (((with_reducible apply r_guard); exact rfl; exact rfl; exact rfl; exact rfl) <;> intro hg <;> (first | (exact absurd hg (by decide)) | ((try simp only [decide_eq_true_eq, decide_eq_false_iff_not, Bool.not_eq_true', Bool.not_eq_false', Bool.not_true, Bool.not_false, Bool.not_not, Int.not_lt, Int.not_le, Nat.not_lt, Nat.not_le, gt_iff_lt, ge_iff_le, List.cons.injEq, and_true] at hg); first | (exact absurd trivial hg) | (exfalso; omega) | (have hT : True := hg; clear hT hg) | skip)))
 | (((with_reducible apply aw_cond); exact rfl) <;> intro hg <;> (first | (exact absurd hg (by decide)) | ((try simp only [decide_eq_true_eq, decide_eq_false_iff_not, Bool.not_eq_true', Bool.not_eq_false', Bool.not_true, Bool.not_false, Bool.not_not, Int.not_lt, Int.not_le, Nat.not_lt, Nat.not_le, gt_iff_lt, ge_iff_le, List.cons.injEq, and_true] at hg); first | (exact absurd trivial hg) | (exfalso; omega) | (have hT : True := hg; clear hT hg) | skip)))
      )
    · exact ret_b rfl (all_not hj1 (all_not (i := i) (by omega) (by unfold smallN; simp; omega))).symm
    · skip
      refine ⟨i + 1, ?_, ?_, by refine weak_mk rfl ?_ ?_ <;> repeat (first | exact envW_nil | exact heapW_nil | refine envW_cons rfl rfl ?_ | refine heapW_cons rfl rfl rfl ?_)⟩
      · omega
      · exact ⟨by omega, step_all (by omega) hin (by unfold smallN; simp; omega)⟩
    · exact ret_b rfl (all_not hj1 (all_not (i := i) (by omega) (by unfold smallN; simp; omega))).symm
    · skip
      refine ⟨j + 1, ?_, ?_, by refine weak_mk rfl ?_ ?_ <;> repeat (first | exact envW_nil | exact heapW_nil | refine envW_cons rfl rfl ?_ | refine heapW_cons rfl rfl rfl ?_)⟩
      · omega
      · exact ⟨by omega, step_all hj1 hall (all_of (fun q hq => hin q hq (by omega)))⟩
  · exact ret_b rfl (all_of (fun i hi => hall i hi (by omega))).symm
def rowOk (l : Line) (i : Nat) : Prop := ∀ (h : i < l.gain.length) (h2 : i < l.sizes.length), (l.gain[i].length : Int) = max 0 (l.len - l.sizes[i] + 1)
def shapeOk (l : Line) : Prop := l.gain.length = l.sizes.length ∧ (l.chip.length : Int) = l.len ∧ (l.dust.length : Int) = l.len ∧ ∀ i, i < l.sizes.length → rowOk l i
open Classical in
noncomputable def chk (l : Line) : Int := if measS l ≠ 0 then measS l else if shapeOk l then (if l.gain.all smallL && smallL l.chip && smallL l.dust then 0 else 9) else 19
theorem chk_meas {l : Line} (h : ¬ measS l = 0) : measS l = chk l := by unfold chk; rw [if_pos h]
theorem chk_shape {l : Line} (h : measS l = 0) (h2 : ¬ shapeOk l) : 19 = chk l := by unfold chk; rw [if_neg (by simp [h]), if_neg h2]
theorem chk_small {l : Line} (h : measS l = 0) (h2 : shapeOk l) (b : Bool) (hb : (l.gain.all smallL && smallL l.chip && smallL l.dust) = b) : (if b then 0 else 9) = chk l := by unfold chk; rw [if_neg (show ¬ measS l ≠ 0 from fun hh => hh h), if_pos h2, hb]
theorem chk9a {l : Line} (h : measS l = 0) (hs : shapeOk l) (b : l.gain.all smallL = false) : 9 = chk l := by rw [← chk_small h hs _ rfl, b]; rfl
theorem chk9b {l : Line} (h : measS l = 0) (hs : shapeOk l) (b : [l.chip, l.dust].all smallL = false) : 9 = chk l := by
  rw [← chk_small h hs _ rfl]
  simp only [List.all_cons, List.all_nil, Bool.and_true] at b
  rw [Bool.and_assoc, b, Bool.and_false]; rfl
theorem chk0 {l : Line} (h : measS l = 0) (hs : shapeOk l) (b1 : l.gain.all smallL = true) (b2 : [l.chip, l.dust].all smallL = true) : 0 = chk l := by
  rw [← chk_small h hs _ rfl]
  simp only [List.all_cons, List.all_nil, Bool.and_true] at b2
  rw [Bool.and_assoc, b1, b2]; rfl
theorem shape_len {l : Line} (h : measS l = 0) (hs : shapeOk l) : 0 ≤ l.len ∧ l.len ≤ 2000 ∧ l.gain.length ≤ 32 ∧ l.chip.length ≤ 2000 ∧ l.dust.length ≤ 2000 ∧ ∀ i (h : i < l.gain.length), l.gain[i].length ≤ 2000 := by
  obtain ⟨h1, h2, h3⟩ := meas0 h
  unfold headBad at h1
  obtain ⟨s1, s2, s3, s4⟩ := hs
  refine ⟨by omega, by omega, by omega, by omega, by omega, fun i hi => ?_⟩
  have := s4 i (by omega) hi (by omega)
  have := (h3 i (by omega)).1
  omega
set_option maxRecDepth 100000 in
set_option maxHeartbeats 4000000 in
theorem check_con (l : Line) : Con Tryd.prog gl 27 [lineC l] (I (chk l)) := by
  refine con_of Tryd.func27 rfl (by kernel_rfl) rfl ?_
  simp only [Tryd.ntmps27, Tryd.results27, argEnv, ofC, of1, List.map, lineC, lineL]
  repeat' (first
 | ((with_reducible apply r_call); exact rfl; exact rfl; exact meas_con l; exact rfl; exact rfl)
 | ((with_reducible apply aw_seq))
 | ((with_reducible apply aw_region))
 | ((with_reducible apply aw_block))
 | ((with_reducible apply thn_normal))
 | ((with_reducible apply thn_ret))
 | ((with_reducible apply aw_skip))
 | ((with_reducible apply aw_ret))
 | ((with_reducible apply ao_nil))
 | ((with_reducible apply r_move); exact rfl; exact rfl)
 | ((with_reducible apply r_assign); exact rfl; exact rfl)
 | ((with_reducible apply r_field_p); exact rfl; exact rfl)
 | ((with_reducible apply r_load_p); exact rfl; exact rfl; exact rfl; exact rfl)
 | ((with_reducible apply r_load_pa); exact rfl; exact rfl; exact rfl; exact rfl; exact rfl)
 | ((with_reducible apply r_neq); exact rfl; exact rfl; exact rfl)
 | ((with_reducible apply r_box_a); exact rfl; exact rfl)
 | ((with_reducible apply r_pick_t); exact rfl; exact rfl; exact rfl)
 | ((with_reducible apply r_pick_f); exact rfl; exact rfl; exact rfl)
 | ((with_reducible apply r_len_f); exact rfl; exact inferInstance; exact rfl)
 | (((with_reducible apply r_guard); exact rfl; exact rfl; exact rfl; exact rfl) <;> intro hg <;> (first | (exact absurd hg (by decide)) | ((try simp only [decide_eq_true_eq, decide_eq_false_iff_not, Bool.not_eq_true', Bool.not_eq_false', Bool.not_true, Bool.not_false, Bool.not_not, Int.not_lt, Int.not_le, Nat.not_lt, Nat.not_le, gt_iff_lt, ge_iff_le, List.cons.injEq, and_true] at hg); first | (exact absurd trivial hg) | (exfalso; omega) | (have hT : True := hg; clear hT hg) | skip)))
 | (((with_reducible apply aw_cond); exact rfl) <;> intro hg <;> (first | (exact absurd hg (by decide)) | ((try simp only [decide_eq_true_eq, decide_eq_false_iff_not, Bool.not_eq_true', Bool.not_eq_false', Bool.not_true, Bool.not_false, Bool.not_not, Int.not_lt, Int.not_le, Nat.not_lt, Nat.not_le, gt_iff_lt, ge_iff_le, List.cons.injEq, and_true] at hg); first | (exact absurd trivial hg) | (exfalso; omega) | (have hT : True := hg; clear hT hg) | skip)))
    )
  · exact ret_i rfl (chk_meas hg)
  all_goals have hm : measS l = 0 := by assumption
  all_goals obtain ⟨hm1, hm2, hm3⟩ := meas0 hm
  all_goals (unfold headBad at hm1)
  all_goals first | exact ret_i rfl (chk_shape hm (fun hs => by have h1 := hs.1; have h2 := hs.2.1; have h3 := hs.2.2.1; omega)) | skip
  have hlen : l.gain.length = l.sizes.length := by omega
  refine aw_loopG (G := Nat) (fun (j : Nat) => j ≤ l.gain.length ∧ ∀ i, i < j → rowOk l i) (fun (j : Nat) => l.gain.length - j) (fun (j : Nat) => [(1, .ptr 0 0), (35, .c (LL l.gain)), (36, A l.gain.length), (37, A j)]) (fun (j : Nat) => [(0, some (lineB l))]) 1 0 ?_ (by refine weak_mk rfl ?_ ?_ <;> repeat (first | exact envW_nil | exact heapW_nil | refine envW_cons rfl rfl ?_ | refine heapW_cons rfl rfl rfl ?_)) rfl ?_
  · exact ⟨Nat.zero_le _, fun _ h => absurd h (Nat.not_lt_zero _)⟩
  rintro j hI
  try dsimp only at hI
  try dsimp only
  obtain ⟨hj, hall⟩ := hI
  have hrows : j = l.gain.length → shapeOk l := fun hjl => ⟨hlen, by omega, by omega, fun i hi => hall i (by omega)⟩
  by_cases hjl : j < l.gain.length
  · skip
    repeat' (first
 | ((with_reducible apply r_call); exact rfl; exact rfl; exact places_con l _ ⟨by omega, by omega, (hm3 j (by omega)).1, (hm3 j (by omega)).2⟩; exact rfl; exact rfl)
 | ((with_reducible apply aw_seq))
 | ((with_reducible apply aw_region))
 | ((with_reducible apply aw_block))
 | ((with_reducible apply thn_normal))
 | ((with_reducible apply thn_ret))
 | ((with_reducible apply inb_normal))
 | ((with_reducible apply inb_ret))
 | ((with_reducible apply aw_skip))
 | ((with_reducible apply aw_ret))
 | ((with_reducible apply ao_nil))
 | ((with_reducible apply r_move); exact rfl; exact rfl)
 | ((with_reducible apply r_assign); exact rfl; exact rfl)
 | ((with_reducible apply r_field_p); exact rfl; exact rfl)
 | ((with_reducible apply r_load_p); exact rfl; exact rfl; exact rfl; exact rfl)
 | ((with_reducible apply r_load_pa); exact rfl; exact rfl; exact rfl; exact rfl; exact rfl)
 | ((with_reducible apply r_lss); exact rfl; exact rfl; exact rfl)
 | ((with_reducible apply r_neq); exact rfl; exact rfl; exact rfl)
 | ((with_reducible apply r_add); exact rfl; exact rfl; exact (by first | assumption | (unfold fits; omega)); exact rfl)
 | ((with_reducible apply r_len_f); exact rfl; exact inferInstance; exact rfl)
 | ((with_reducible apply r_index_f); exact rfl; exact inferInstance; exact rfl; exact rfl; (first | assumption | omega); exact rfl)
 | ((with_reducible apply r_load_f0); exact rfl; exact inferInstance; exact List.getElem?_eq_getElem (by first | assumption | omega); exact rfl; exact rfl)
 | (((with_reducible apply aw_cond); exact rfl) <;> intro hg <;> (first | (exact absurd hg (by decide)) | ((try simp only [decide_eq_true_eq, decide_eq_false_iff_not, Bool.not_eq_true', Bool.not_eq_false', Bool.not_true, Bool.not_false, Bool.not_not, Int.not_lt, Int.not_le, Nat.not_lt, Nat.not_le, gt_iff_lt, ge_iff_le, List.cons.injEq, and_true] at hg); first | (exact absurd trivial hg) | (exfalso; omega) | (have hT : True := hg; clear hT hg) | skip)))
 | (refine aw_drawq ?_ ?_; (kernel_rfl))
 | ((with_reducible apply ds_nil))
      )
    · exact ret_i rfl (chk_shape hm (fun hs => hg (hs.2.2.2 j (by omega) hjl (by omega))))
    · skip
      refine ⟨j + 1, ?_, ?_, by refine weak_mk rfl ?_ ?_ <;> repeat (first | exact envW_nil | exact heapW_nil | refine envW_cons rfl rfl ?_ | refine heapW_cons rfl rfl rfl ?_)⟩
      · omega
      · refine ⟨by omega, fun i hi => ?_⟩
        by_cases he : i = j
        · subst he; exact fun _ _ => hg
        · exact hall i (by omega)
  · have hs := hrows (by omega)
    obtain ⟨q1, q2, q3, q4, q5, q6⟩ := shape_len hm hs
    have hr1 := small_con (gl := gl) l.gain (by omega) (fun i hi => by have := q6 i hi; omega)
    have hr2 := small_con (gl := gl) [l.chip, l.dust] (by simp) (fun i hi => by
      simp only [List.length_cons, List.length_nil] at hi
      match i, hi with
      | 0, _ => show l.chip.length ≤ _; omega
      | 1, _ => show l.dust.length ≤ _; omega)
    repeat' (first
 | ((with_reducible apply r_call); exact rfl; exact rfl; exact hr1; exact rfl; exact rfl)
 | ((with_reducible apply r_callv); exact hr2; exact rfl; exact cl_cons (cl_vec rfl rfl) cl_nil; exact rfl; exact rfl)
 | ((with_reducible apply aw_seq))
 | ((with_reducible apply aw_region))
 | ((with_reducible apply thn_normal))
 | ((with_reducible apply thn_ret))
 | ((with_reducible apply thn_exit))
 | ((with_reducible apply inb_exit))
 | ((with_reducible apply aw_skip))
 | ((with_reducible apply aw_exit))
 | ((with_reducible apply aw_ret))
 | ((with_reducible apply ao_nil))
 | ((with_reducible apply r_move); exact rfl; exact rfl)
 | ((with_reducible apply r_assign); exact rfl; exact rfl)
 | ((with_reducible apply r_field_p); exact rfl; exact rfl)
 | ((with_reducible apply r_load_p); exact rfl; exact rfl; exact rfl; exact rfl)
 | ((with_reducible apply r_lss); exact rfl; exact rfl; exact rfl)
 | ((with_reducible apply r_pick_t); exact rfl; exact rfl; exact rfl)
 | ((with_reducible apply r_pick_f); exact rfl; exact rfl; exact rfl)
 | ((with_reducible apply r_not); exact rfl; exact rfl)
 | (((with_reducible apply r_guard); exact rfl; exact rfl; exact rfl; exact rfl) <;> intro hg <;> (first | (exact absurd hg (by decide)) | ((try simp only [decide_eq_true_eq, decide_eq_false_iff_not, Bool.not_eq_true', Bool.not_eq_false', Bool.not_true, Bool.not_false, Bool.not_not, Int.not_lt, Int.not_le, Nat.not_lt, Nat.not_le, gt_iff_lt, ge_iff_le, List.cons.injEq, and_true] at hg); first | (exact absurd trivial hg) | (exfalso; omega) | (have hT : True := hg; clear hT hg) | skip)))
 | (((with_reducible apply aw_cond); exact rfl) <;> intro hg <;> (first | (exact absurd hg (by decide)) | ((try simp only [decide_eq_true_eq, decide_eq_false_iff_not, Bool.not_eq_true', Bool.not_eq_false', Bool.not_true, Bool.not_false, Bool.not_not, Int.not_lt, Int.not_le, Nat.not_lt, Nat.not_le, gt_iff_lt, ge_iff_le, List.cons.injEq, and_true] at hg); first | (exact absurd trivial hg) | (exfalso; omega) | (have hT : True := hg; clear hT hg) | skip)))
 | ((with_reducible apply r_lit); exact rfl; exact rfl; exact rfl; exact rfl; exact rfl; exact rfl; exact rfl)
      )
    all_goals first | exact ret_i rfl (chk9a hm hs (by assumption)) | exact ret_i rfl (chk9b hm hs (by assumption)) | exact ret_i rfl (chk0 hm hs (by assumption) (by assumption))
end Go.Proofs.YtkhljpbkebnnmaaDoor.Cu
/- Walks of cutting: permitted, add. -/
namespace Go.Proofs.YtkhljpbkebnnmaaDoor.Cu
set_option linter.unusedVariables false
set_option linter.unusedSimpArgs false
open Go.RowKit Go.Proofs.YtkhljpbkebnnmaaDoor.Ev
variable {gl : List (Nat × List CV)}

abbrev Span := Int × Int
abbrev Piece := Int × Int
def spC (s : Span) : List CV := [I s.1, I s.2]
instance : EncL spC 2 := ⟨fun _ => rfl, by decide, fun _ => rfl⟩
abbrev LS (l : List Span) : CV := .lst 2 (l.flatMap spC)

def szOf (l : Line) (s : Int) : Int := l.sizes.getD s.toNat 0
def gOf (l : Line) (s p : Int) : Int := (l.gain.getD s.toNat []).getD p.toNat 0
def perm (l : Line) (edge : Int) (x : Piece) : Int :=
  if x.1 < 0 ∨ (l.sizes.length : Int) ≤ x.1 then 9
  else if x.2 < 0 ∨ l.len - szOf l x.1 < x.2 then 20
  else if edge < 0 ∨ (x.2 ≠ edge ∧ (x.2 - l.kerf - edge < l.pitch ∨ (x.2 - l.kerf - edge).tmod l.pitch ≠ 0)) then 11
  else if gOf l x.1 x.2 < 0 then 14 else 0

structure Valid (l : Line) : Prop where
  len : 0 ≤ l.len ∧ l.len ≤ 2000
  kerf : 0 ≤ l.kerf ∧ l.kerf ≤ 20
  pitch : 1 ≤ l.pitch ∧ l.pitch ≤ 2000
  sizes : l.sizes.length ≤ 32
  size : ∀ i (h : i < l.sizes.length), 1 ≤ l.sizes[i] ∧ l.sizes[i] ≤ 2000
  gain : l.gain.length = l.sizes.length
  chip : (l.chip.length : Int) = l.len
  dust : (l.dust.length : Int) = l.len
  row : ∀ i (h : i < l.gain.length) (h2 : i < l.sizes.length), (l.gain[i].length : Int) = max 0 (l.len - l.sizes[i] + 1)
  gains : ∀ i (h : i < l.gain.length) j (h2 : j < l.gain[i].length), -1125899906842624 ≤ l.gain[i][j] ∧ l.gain[i][j] ≤ 1125899906842624
  chips : ∀ i (h : i < l.chip.length), -1125899906842624 ≤ l.chip[i] ∧ l.chip[i] ≤ 1125899906842624
  dusts : ∀ i (h : i < l.dust.length), -1125899906842624 ≤ l.dust[i] ∧ l.dust[i] ≤ 1125899906842624
theorem small_get {l : List Int} (h : smallL l = true) (i : Nat) (hi : i < l.length) : -1125899906842624 ≤ l[i] ∧ l[i] ≤ 1125899906842624 := by
  have := List.all_eq_true.1 h _ (List.getElem_mem hi)
  unfold smallN at this; simpa using this
theorem valid_of {l : Line} (h : chk l = 0) : Valid l := by
  have hm : measS l = 0 := Classical.byContradiction fun hc => by rw [← chk_meas hc] at h; exact hc h
  have hs : shapeOk l := Classical.byContradiction fun hc => by rw [← chk_shape hm hc] at h; cases h
  have hb := chk_small hm hs _ rfl
  rw [h] at hb
  have hb' : (l.gain.all smallL && smallL l.chip && smallL l.dust) = true := by
    cases hq : (l.gain.all smallL && smallL l.chip && smallL l.dust) with
    | true => rfl
    | false => rw [hq] at hb; simp at hb
  simp only [Bool.and_eq_true] at hb'
  obtain ⟨⟨b1, b2⟩, b3⟩ := hb'
  obtain ⟨h1, h2, h3⟩ := meas0 hm
  unfold headBad at h1
  obtain ⟨s1, s2, s3, s4⟩ := hs
  exact ⟨by omega, by omega, by omega, h2, h3, s1, s2, s3, fun i hi hi2 => s4 i hi2 hi hi2, fun i hi j hj => small_get (List.all_eq_true.1 b1 _ (List.getElem_mem hi)) j hj, small_get b2, small_get b3⟩
theorem szOf_eq {l : Line} {s : Int} (h0 : 0 ≤ s) (h : s < l.sizes.length) : ∃ k : Nat, s = (k : Int) ∧ ∃ hk : k < l.sizes.length, szOf l s = l.sizes[k] := by
  refine ⟨s.toNat, by omega, by omega, ?_⟩
  unfold szOf
  rw [List.getD_eq_getElem?_getD, List.getElem?_eq_getElem (by omega)]; rfl
theorem gOf_eq {l : Line} (v : Valid l) {k : Nat} (hk : k < l.sizes.length) {p : Int} (h0 : 0 ≤ p) (h1 : p ≤ l.len - l.sizes[k]) : ∃ j : Nat, p = (j : Int) ∧ ∃ (h2 : k < l.gain.length) (h3 : j < l.gain[k].length), gOf l k p = l.gain[k][j] := by
  have hg := v.gain
  have hr := v.row k (by omega) hk
  refine ⟨p.toNat, by omega, by omega, by omega, ?_⟩
  unfold gOf
  rw [Int.toNat_natCast, List.getD_eq_getElem?_getD, List.getD_eq_getElem?_getD, List.getElem?_eq_getElem (by omega : k < l.gain.length)]
  simp only [Option.getD_some]
  rw [List.getElem?_eq_getElem (by omega)]; rfl

theorem perm9 {l : Line} {e : Int} {s p : Int} (h : s < 0 ∨ (l.sizes.length : Int) ≤ s) : 9 = perm l e (s, p) := by unfold perm; rw [if_pos h]
theorem perm20 {l : Line} {e : Int} {s p : Int} (h : ¬ (s < 0 ∨ (l.sizes.length : Int) ≤ s)) (h2 : p < 0 ∨ l.len - szOf l s < p) : 20 = perm l e (s, p) := by unfold perm; rw [if_neg h, if_pos h2]
theorem perm11 {l : Line} {e : Int} {s p : Int} (h : ¬ (s < 0 ∨ (l.sizes.length : Int) ≤ s)) (h2 : ¬ (p < 0 ∨ l.len - szOf l s < p)) (h3 : e < 0 ∨ (p ≠ e ∧ (p - l.kerf - e < l.pitch ∨ (p - l.kerf - e).tmod l.pitch ≠ 0))) : 11 = perm l e (s, p) := by unfold perm; rw [if_neg h, if_neg h2, if_pos h3]
theorem perm_g {l : Line} {e : Int} {s p : Int} (h : ¬ (s < 0 ∨ (l.sizes.length : Int) ≤ s)) (h2 : ¬ (p < 0 ∨ l.len - szOf l s < p)) (h3 : ¬ (e < 0 ∨ (p ≠ e ∧ (p - l.kerf - e < l.pitch ∨ (p - l.kerf - e).tmod l.pitch ≠ 0)))) : (if gOf l s p < 0 then 14 else 0) = perm l e (s, p) := by unfold perm; rw [if_neg h, if_neg h2, if_neg h3]
set_option maxRecDepth 100000 in
set_option maxHeartbeats 4000000 in
theorem permitted_con (l : Line) (v : Valid l) (e : Int) (he : -1 ≤ e ∧ e ≤ 2000) (s p : Int) : Con Tryd.prog gl 28 [lineC l, I e, .agg [I s, I p]] (I (perm l e (s, p))) := by
  obtain ⟨l1, l2⟩ := v.len
  obtain ⟨k1, k2⟩ := v.kerf
  obtain ⟨p1, p2⟩ := v.pitch
  by_cases h : s < 0 ∨ (l.sizes.length : Int) ≤ s
  · skip
    refine con_of Tryd.func28 rfl (by kernel_rfl) rfl ?_
    simp only [Tryd.ntmps28, Tryd.results28, argEnv, ofC, of1, List.map, lineC, lineL]
    repeat' (first
 | ((with_reducible apply aw_seq))
 | ((with_reducible apply aw_region))
 | ((with_reducible apply thn_normal))
 | ((with_reducible apply thn_ret))
 | ((with_reducible apply aw_ret))
 | ((with_reducible apply ao_nil))
 | ((with_reducible apply r_move); exact rfl; exact rfl)
 | ((with_reducible apply r_assign); exact rfl; exact rfl)
 | ((with_reducible apply r_field_p); exact rfl; exact rfl)
 | ((with_reducible apply r_load_p); exact rfl; exact rfl; exact rfl; exact rfl)
 | ((with_reducible apply r_lss); exact rfl; exact rfl; exact rfl)
 | ((with_reducible apply r_geq); exact rfl; exact rfl; exact rfl)
 | ((with_reducible apply r_box_a); exact rfl; exact rfl)
 | ((with_reducible apply r_pick_t); exact rfl; exact rfl; exact rfl)
 | ((with_reducible apply r_pick_f); exact rfl; exact rfl; exact rfl)
 | ((with_reducible apply r_len_f); exact rfl; exact inferInstance; exact rfl)
 | (((with_reducible apply r_guard); exact rfl; exact rfl; exact rfl; exact rfl) <;> intro hg <;> (first | (exact absurd hg (by decide)) | ((try simp only [decide_eq_true_eq, decide_eq_false_iff_not, Bool.not_eq_true', Bool.not_eq_false', Bool.not_true, Bool.not_false, Bool.not_not, Int.not_lt, Int.not_le, Nat.not_lt, Nat.not_le, gt_iff_lt, ge_iff_le, List.cons.injEq, and_true] at hg); first | (exact absurd trivial hg) | (exfalso; omega) | (have hT : True := hg; clear hT hg) | skip)))
 | (((with_reducible apply aw_cond); exact rfl) <;> intro hg <;> (first | (exact absurd hg (by decide)) | ((try simp only [decide_eq_true_eq, decide_eq_false_iff_not, Bool.not_eq_true', Bool.not_eq_false', Bool.not_true, Bool.not_false, Bool.not_not, Int.not_lt, Int.not_le, Nat.not_lt, Nat.not_le, gt_iff_lt, ge_iff_le, List.cons.injEq, and_true] at hg); first | (exact absurd trivial hg) | (exfalso; omega) | (have hT : True := hg; clear hT hg) | skip)))
      )
    all_goals exact ret_i rfl (perm9 h)
  obtain ⟨k, rfl, hk, hsz⟩ := szOf_eq (l := l) (s := s) (by omega) (by omega)
  have hsk := v.size k hk
  by_cases h2 : p < 0 ∨ l.len - l.sizes[k] < p
  · skip
    refine con_of Tryd.func28 rfl (by kernel_rfl) rfl ?_
    simp only [Tryd.ntmps28, Tryd.results28, argEnv, ofC, of1, List.map, lineC, lineL]
    repeat' (first
 | ((with_reducible apply aw_seq))
 | ((with_reducible apply aw_region))
 | ((with_reducible apply thn_normal))
 | ((with_reducible apply thn_ret))
 | ((with_reducible apply aw_skip))
 | ((with_reducible apply aw_ret))
 | ((with_reducible apply ao_nil))
 | ((with_reducible apply r_move); exact rfl; exact rfl)
 | ((with_reducible apply r_assign); exact rfl; exact rfl)
 | ((with_reducible apply r_field_p); exact rfl; exact rfl)
 | ((with_reducible apply r_load_p); exact rfl; exact rfl; exact rfl; exact rfl)
 | ((with_reducible apply r_lss); exact rfl; exact rfl; exact rfl)
 | ((with_reducible apply r_gtr); exact rfl; exact rfl; exact rfl)
 | ((with_reducible apply r_geq); exact rfl; exact rfl; exact rfl)
 | ((with_reducible apply r_sub); exact rfl; exact rfl; exact (by first | assumption | (unfold fits; omega)); exact rfl)
 | ((with_reducible apply r_box_a); exact rfl; exact rfl)
 | ((with_reducible apply r_pick_t); exact rfl; exact rfl; exact rfl)
 | ((with_reducible apply r_pick_f); exact rfl; exact rfl; exact rfl)
 | ((with_reducible apply r_len_f); exact rfl; exact inferInstance; exact rfl)
 | ((with_reducible apply r_index_f); exact rfl; exact inferInstance; exact rfl; exact rfl; (first | assumption | omega); exact rfl)
 | ((with_reducible apply r_load_f0); exact rfl; exact inferInstance; exact List.getElem?_eq_getElem (by first | assumption | omega); exact rfl; exact rfl)
 | (((with_reducible apply r_guard); exact rfl; exact rfl; exact rfl; exact rfl) <;> intro hg <;> (first | (exact absurd hg (by decide)) | ((try simp only [decide_eq_true_eq, decide_eq_false_iff_not, Bool.not_eq_true', Bool.not_eq_false', Bool.not_true, Bool.not_false, Bool.not_not, Int.not_lt, Int.not_le, Nat.not_lt, Nat.not_le, gt_iff_lt, ge_iff_le, List.cons.injEq, and_true] at hg); first | (exact absurd trivial hg) | (exfalso; omega) | (have hT : True := hg; clear hT hg) | skip)))
 | (((with_reducible apply aw_cond); exact rfl) <;> intro hg <;> (first | (exact absurd hg (by decide)) | ((try simp only [decide_eq_true_eq, decide_eq_false_iff_not, Bool.not_eq_true', Bool.not_eq_false', Bool.not_true, Bool.not_false, Bool.not_not, Int.not_lt, Int.not_le, Nat.not_lt, Nat.not_le, gt_iff_lt, ge_iff_le, List.cons.injEq, and_true] at hg); first | (exact absurd trivial hg) | (exfalso; omega) | (have hT : True := hg; clear hT hg) | skip)))
 | (refine aw_drawq ?_ ?_; (kernel_rfl))
 | ((with_reducible apply ds_nil))
 | (((with_reducible apply rd_guard); exact rfl; exact rfl; exact rfl) <;> intro hg <;> (first | (exact absurd hg (by decide)) | ((try rw [hg]); (try simp only [decide_eq_true_eq, decide_eq_false_iff_not, Bool.not_eq_true', Bool.not_eq_false', Bool.not_true, Bool.not_false, Bool.not_not, Int.not_lt, Int.not_le, Nat.not_lt, Nat.not_le, gt_iff_lt, ge_iff_le, List.cons.injEq, and_true] at hg); first | (exact absurd trivial hg) | (exfalso; omega) | (have hT : True := hg; clear hT hg) | skip)))
      )
    all_goals exact ret_i rfl (perm20 h (by rw [hsz]; exact h2))
  obtain ⟨j, rfl, hg1, hg2, hgo⟩ := gOf_eq v hk (p := p) (by omega) (by omega)
  have h2' : ¬ ((j : Int) < 0 ∨ l.len - szOf l (k : Int) < (j : Int)) := by rw [hsz]; exact h2
  refine con_of Tryd.func28 rfl (by kernel_rfl) rfl ?_
  simp only [Tryd.ntmps28, Tryd.results28, argEnv, ofC, of1, List.map, lineC, lineL]
  repeat' (first
 | ((with_reducible apply r_rem); exact rfl; exact rfl; exact (by omega); exact rfl)
 | ((with_reducible apply aw_seq))
 | ((with_reducible apply aw_region))
 | ((with_reducible apply thn_normal))
 | ((with_reducible apply thn_ret))
 | ((with_reducible apply aw_skip))
 | ((with_reducible apply aw_ret))
 | ((with_reducible apply ao_nil))
 | ((with_reducible apply r_move); exact rfl; exact rfl)
 | ((with_reducible apply r_assign); exact rfl; exact rfl)
 | ((with_reducible apply r_field_p); exact rfl; exact rfl)
 | ((with_reducible apply r_load_p); exact rfl; exact rfl; exact rfl; exact rfl)
 | ((with_reducible apply r_lss); exact rfl; exact rfl; exact rfl)
 | ((with_reducible apply r_gtr); exact rfl; exact rfl; exact rfl)
 | ((with_reducible apply r_geq); exact rfl; exact rfl; exact rfl)
 | ((with_reducible apply r_neq); exact rfl; exact rfl; exact rfl)
 | ((with_reducible apply r_sub); exact rfl; exact rfl; exact (by first | assumption | (unfold fits; omega)); exact rfl)
 | ((with_reducible apply r_box_a); exact rfl; exact rfl)
 | ((with_reducible apply r_pick_t); exact rfl; exact rfl; exact rfl)
 | ((with_reducible apply r_pick_f); exact rfl; exact rfl; exact rfl)
 | ((with_reducible apply r_len_f); exact rfl; exact inferInstance; exact rfl)
 | ((with_reducible apply r_index_f); exact rfl; exact inferInstance; exact rfl; exact rfl; (first | assumption | omega); exact rfl)
 | ((with_reducible apply r_load_f0); exact rfl; exact inferInstance; exact List.getElem?_eq_getElem (by first | assumption | omega); exact rfl; exact rfl)
 | (((with_reducible apply r_guard); exact rfl; exact rfl; exact rfl; exact rfl) <;> intro hg <;> (first | (exact absurd hg (by decide)) | ((try simp only [decide_eq_true_eq, decide_eq_false_iff_not, Bool.not_eq_true', Bool.not_eq_false', Bool.not_true, Bool.not_false, Bool.not_not, Int.not_lt, Int.not_le, Nat.not_lt, Nat.not_le, gt_iff_lt, ge_iff_le, List.cons.injEq, and_true] at hg); first | (exact absurd trivial hg) | (exfalso; omega) | (have hT : True := hg; clear hT hg) | skip)))
 | ((with_reducible apply r_guard_none); exact rfl; exact rfl; exact rfl; exact rfl)
 | (((with_reducible apply aw_cond); exact rfl) <;> intro hg <;> (first | (exact absurd hg (by decide)) | ((try simp only [decide_eq_true_eq, decide_eq_false_iff_not, Bool.not_eq_true', Bool.not_eq_false', Bool.not_true, Bool.not_false, Bool.not_not, Int.not_lt, Int.not_le, Nat.not_lt, Nat.not_le, gt_iff_lt, ge_iff_le, List.cons.injEq, and_true] at hg); first | (exact absurd trivial hg) | (exfalso; omega) | (have hT : True := hg; clear hT hg) | skip)))
 | (refine aw_drawq ?_ ?_; (kernel_rfl))
 | ((with_reducible apply ds_nil))
 | (((with_reducible apply rd_guard); exact rfl; exact rfl; exact rfl) <;> intro hg <;> (first | (exact absurd hg (by decide)) | ((try rw [hg]); (try simp only [decide_eq_true_eq, decide_eq_false_iff_not, Bool.not_eq_true', Bool.not_eq_false', Bool.not_true, Bool.not_false, Bool.not_not, Int.not_lt, Int.not_le, Nat.not_lt, Nat.not_le, gt_iff_lt, ge_iff_le, List.cons.injEq, and_true] at hg); first | (exact absurd trivial hg) | (exfalso; omega) | (have hT : True := hg; clear hT hg) | skip)))
    )
  all_goals first
    | exact ret_i rfl (perm11 h h2' (by generalize ((j : Int) - l.kerf - e).tmod l.pitch = tm at *; omega))
    | exact ret_i rfl (by rw [← perm_g h h2' (by generalize ((j : Int) - l.kerf - e).tmod l.pitch = tm at *; omega), hgo, if_pos (by omega)])
    | exact ret_i rfl (by rw [← perm_g h h2' (by generalize ((j : Int) - l.kerf - e).tmod l.pitch = tm at *; omega), hgo, if_neg (by omega)])

def addS (l : List Span) (a b : Int) : List Span := if b ≤ a then l else l ++ [(a, b)]
theorem fewer_push {heap : List (Nat × Option AB)} {nx b E s : Nat} {l : List CV} {x : AB} (hb : b < nx) : Fewer heap nx ((b, some (.vec E s l)) :: (nx, some x) :: heap) ((b, some (.vec E s l)) :: heap) := by
  refine ⟨fun i hi => ?_, fun i hi => ?_, fun i t l' h => ?_⟩
  · simp only [look_cons]; by_cases h1 : b = i
    · rw [if_pos h1, if_pos h1]
    · rw [if_neg h1, if_neg h1, if_neg (by omega)]
  · simp only [look_cons]; rw [if_neg (by omega)]
  · rw [look_cons] at h; by_cases h1 : b = i
    · rw [if_pos h1] at h; cases h
    · rw [if_neg h1] at h; exact h
theorem fewer_same {heap : List (Nat × Option AB)} {nx b E s : Nat} {l : List CV} (hb : b < nx) (h : Ev.look b heap = some (some (.vec E s l))) : Fewer heap nx heap ((b, some (.vec E s l)) :: heap) := by
  refine ⟨fun i hi => ?_, fun i hi => ?_, fun i t l' h' => ?_⟩
  · rw [look_cons]; by_cases h1 : b = i
    · rw [if_pos h1, ← h1, h]
    · rw [if_neg h1]
  · rw [look_cons, if_neg (by omega)]
  · rw [look_cons] at h'; by_cases h1 : b = i
    · rw [if_pos h1] at h'; cases h'
    · rw [if_neg h1] at h'; exact h'
section
variable {ops : Array Oper} {Q : Exit → St → Prop} {rest : List Oper} {d : Nat} {ty : TypeId} {pos : String} {af : Array Edge} {n : Nat} {env : List (Nat × AV)} {heap : List (Nat × Option AB)} {nx : Nat} {tys : Array TypeId}
theorem add_in {x0 x1 x2 : Operand} {b m : Nat} {a a' : Int} (l : List Span) (hys : evs ⟨n, env, heap, nx, gl⟩ [x0, x1, x2] = some [.vec b m, A a, A a']) (hH : Ev.look b heap = some (some (.vec 54 2 (l.flatMap spC)))) (hm : l.length = m) (hb : m < 1000000) (hlt : Nat.blt b nx = true) (hd : Nat.blt d n = true)
    (h : AOps Tryd.prog ops Q rest ⟨n, (d, .vec b (addS l a a').length) :: env, (b, some (.vec 54 2 ((addS l a a').flatMap spC))) :: heap, nx, gl⟩) : AOps Tryd.prog ops Q (⟨some d, .call ⟨.value (.func 29), #[x0, x1, x2], tys⟩, ty, pos, af, none⟩ :: rest) ⟨n, env, heap, nx, gl⟩ := by
  have hlt' := blt_true hlt
  refine r_inW Tryd.func29 rfl Tryd.results29 (by kernel_rfl) Tryd.ntmps29 hys rfl rfl hd ?_
  have hH' : St.H ⟨17, env, heap, nx, gl⟩ b = some (.vec 54 2 (l.flatMap spC)) := by unfold St.H; rw [hH]
  by_cases hc : a' ≤ a
  · have e : addS l a a' = l := by unfold addS; rw [if_pos hc]
    rw [e] at h
    repeat' (first
 | ((with_reducible apply aw_seq))
 | ((with_reducible apply aw_region))
 | ((with_reducible apply thn_normal))
 | ((with_reducible apply thn_ret))
 | ((with_reducible apply aw_ret))
 | ((with_reducible apply ao_nil))
 | ((with_reducible apply r_move); exact rfl; exact rfl)
 | ((with_reducible apply r_assign); exact rfl; exact rfl)
 | ((with_reducible apply r_geq); exact rfl; exact rfl; exact rfl)
 | (((with_reducible apply aw_cond); exact rfl) <;> intro hg <;> (first | (exact absurd hg (by decide)) | ((try simp only [decide_eq_true_eq, decide_eq_false_iff_not, Bool.not_eq_true', Bool.not_eq_false', Bool.not_true, Bool.not_false, Bool.not_not, Int.not_lt, Int.not_le, Nat.not_lt, Nat.not_le, gt_iff_lt, ge_iff_le, List.cons.injEq, and_true] at hg); first | (exact absurd trivial hg) | (exfalso; omega) | (have hT : True := hg; clear hT hg) | skip)))
      )
    refine back_ret rfl ⟨_, Nat.le_refl _, fewer_same hlt' hH, hlt, ?_⟩
    rw [hm] at h; exact h
  · have e : addS l a a' = l ++ [(a, a')] := by unfold addS; rw [if_neg hc]
    rw [e] at h
    repeat' (first
 | ((with_reducible apply (r_push (x0 := (a, a')))); exact rfl; exact (by unfold St.H; dsimp only; rw [look_cons, if_neg (by omega), hH]); exact inferInstance; exact hm; exact rfl; exact (by unfold St.H; dsimp only; rw [look_cons, if_pos rfl]); exact rfl; exact (by omega); exact (by omega); exact rfl)
 | ((with_reducible apply aw_seq))
 | ((with_reducible apply aw_region))
 | ((with_reducible apply thn_normal))
 | ((with_reducible apply aw_skip))
 | ((with_reducible apply aw_ret))
 | ((with_reducible apply ao_nil))
 | ((with_reducible apply r_move); exact rfl; exact rfl)
 | ((with_reducible apply r_assign); exact rfl; exact rfl)
 | ((with_reducible apply r_geq); exact rfl; exact rfl; exact rfl)
 | ((with_reducible apply r_build); exact rfl; exact rfl; exact rfl)
 | (((with_reducible apply aw_cond); exact rfl) <;> intro hg <;> (first | (exact absurd hg (by decide)) | ((try simp only [decide_eq_true_eq, decide_eq_false_iff_not, Bool.not_eq_true', Bool.not_eq_false', Bool.not_true, Bool.not_false, Bool.not_not, Int.not_lt, Int.not_le, Nat.not_lt, Nat.not_le, gt_iff_lt, ge_iff_le, List.cons.injEq, and_true] at hg); first | (exact absurd trivial hg) | (exfalso; omega) | (have hT : True := hg; clear hT hg) | skip)))
 | ((with_reducible apply r_lit); exact rfl; exact rfl; exact rfl; exact rfl; exact rfl; exact rfl; exact rfl)
      )
    refine back_ret rfl ⟨_, Nat.le_succ _, fewer_push hlt', hlt, ?_⟩
    rw [List.length_append, hm] at h; exact h
end
end Go.Proofs.YtkhljpbkebnnmaaDoor.Cu
