/- CutA CutB CutC CutD CutE CutF CutG CutO CutH CutI CutJ CutK CutL: texts laid together. -/
import Derived.Test.YtkhljpbkebnnmaaGreatDoorMrgI0
import Derived.Test.YtkhljpbkebnnmaaGreatDoorMrgE1
set_option maxRecDepth 100000
set_option maxHeartbeats 64000000
/- Walks of cutting: behind, places, measures, small, Check. -/
namespace Go.Proofs.YtkhljpbkebnnmaaGreatDoor.Cu
set_option linter.unusedVariables false
set_option linter.unusedSimpArgs false
open Go.RowKit Go.Proofs.YtkhljpbkebnnmaaGreatDoor.Ev
abbrev I (n : Int) : CV := .v (.int .i64 n)
abbrev A (n : Int) : AV := .c (.v (.int .i64 n))
def inC (n : Int) : List CV := [I n]
instance : EncL inC 1 := ⟨fun _ => rfl, by decide, fun _ => rfl⟩
abbrev LI (l : List Int) : CV := .lst 1 (l.flatMap inC)
def rowC (l : List Int) : List CV := [LI l]
instance : EncL rowC 1 := ⟨fun _ => rfl, by decide, fun _ => rfl⟩
abbrev LL (l : List (List Int)) : CV := .lst 1 (l.flatMap rowC)
structure Line where
  len : Int
  kerf : Int
  pitch : Int
  sizes : List Int
  gain : List (List Int)
  chip : List Int
  dust : List Int
def lineL (l : Line) : List CV := [I l.len, I l.kerf, I l.pitch, LI l.sizes, LL l.gain, LI l.chip, LI l.dust]
def lineC (l : Line) : CV := .agg (lineL l)
abbrev lineB (l : Line) : AB := .cells 36 [.c (I l.len), .c (I l.kerf), .c (I l.pitch), .c (LI l.sizes), .c (LL l.gain), .c (LI l.chip), .c (LI l.dust)]
variable {gl : List (Nat × List CV)}
def behindS (l : Line) (e : Int) : Int := if e = l.len then -1 else min (e + l.kerf) l.len
theorem behind_con (l : Line) (e : Int) (h : fits (e + l.kerf)) : Con Tryz.prog gl 63 [lineC l, I e] (I (behindS l e)) := by
  refine con_of Tryz.func63 rfl (by kernel_rfl) rfl ?_
  simp only [Tryz.ntmps63, Tryz.results63, argEnv, ofC, of1, List.map, lineC, lineL]
  repeat' (first
 | ((with_reducible apply aw_seq))
 | ((with_reducible apply aw_region))
 | ((with_reducible apply thn_normal))
 | ((with_reducible apply thn_ret))
 | ((with_reducible apply aw_skip))
 | ((with_reducible apply aw_ret))
 | ((with_reducible apply ao_nil))
 | ((with_reducible apply r_move); exact rfl; exact rfl)
 | ((with_reducible apply r_assign); exact rfl; exact rfl)
 | ((with_reducible apply r_field_p); exact rfl; exact rfl)
 | ((with_reducible apply r_load_p); exact rfl; exact rfl; exact rfl; exact rfl)
 | ((with_reducible apply r_eql); exact rfl; exact rfl; exact rfl)
 | ((with_reducible apply r_add); exact rfl; exact rfl; exact (by first | assumption | (unfold fits; omega)); exact rfl)
 | ((with_reducible apply r_min); exact rfl; exact rfl; exact rfl)
 | ((with_reducible apply r_box_a); exact rfl; exact rfl)
 | (((with_reducible apply aw_cond); exact rfl) <;> intro hg <;> (first | (exact absurd hg (by decide)) | ((try simp only [decide_eq_true_eq, decide_eq_false_iff_not, Bool.not_eq_true', Bool.not_eq_false', Bool.not_true, Bool.not_false, Bool.not_not, Int.not_lt, Int.not_le, Nat.not_lt, Nat.not_le, gt_iff_lt, ge_iff_le, List.cons.injEq, and_true] at hg); first | (exact absurd trivial hg) | (exfalso; omega) | (have hT : True := hg; clear hT hg) | skip)))
 )
  · exact ret_i rfl (by unfold behindS; rw [if_pos hg])
  · exact ret_i rfl (by unfold behindS; rw [if_neg hg])
theorem places_con (l : Line) (s : Int) (h : 0 ≤ l.len ∧ l.len ≤ 2000 ∧ 1 ≤ s ∧ s ≤ 2000) : Con Tryz.prog gl 93 [lineC l, I s] (I (max 0 (l.len - s + 1))) := by
  refine con_of Tryz.func93 rfl (by kernel_rfl) rfl ?_
  simp only [Tryz.ntmps93, Tryz.results93, argEnv, ofC, of1, List.map, lineC, lineL]
  repeat' (first
 | ((with_reducible apply aw_seq))
 | ((with_reducible apply aw_region))
 | ((with_reducible apply thn_normal))
 | ((with_reducible apply aw_ret))
 | ((with_reducible apply ao_nil))
 | ((with_reducible apply r_move); exact rfl; exact rfl)
 | ((with_reducible apply r_assign); exact rfl; exact rfl)
 | ((with_reducible apply r_field_p); exact rfl; exact rfl)
 | ((with_reducible apply r_load_p); exact rfl; exact rfl; exact rfl; exact rfl)
 | ((with_reducible apply r_add); exact rfl; exact rfl; exact (by first | assumption | (unfold fits; omega)); exact rfl)
 | ((with_reducible apply r_sub); exact rfl; exact rfl; exact (by first | assumption | (unfold fits; omega)); exact rfl)
 | ((with_reducible apply r_max); exact rfl; exact rfl; exact rfl)
 | ((with_reducible apply r_box_a); exact rfl; exact rfl)
 )
  exact ret_i rfl rfl
def headBad (l : Line) : Prop := l.len < 0 ∨ 2000 < l.len ∨ l.kerf < 0 ∨ 20 < l.kerf ∨ l.pitch < 1 ∨ 2000 < l.pitch
instance (l : Line) : Decidable (headBad l) := by unfold headBad; exact inferInstance
def sizeOk (s : Int) : Bool := decide (1 ≤ s) && decide (s ≤ 2000)
def measS (l : Line) : Int := if headBad l then 9 else if 32 < l.sizes.length then 4 else if l.sizes.all sizeOk then 0 else 9
theorem all_of {α : Type} {p : α → Bool} {l : List α} (h : ∀ i (h : i < l.length), p l[i] = true) : l.all p = true := by
  rw [List.all_eq_true]; intro x hx; obtain ⟨i, hi, rfl⟩ := List.mem_iff_getElem.1 hx; exact h i hi
theorem all_not {α : Type} {p : α → Bool} {l : List α} {i : Nat} (hi : i < l.length) (h : p l[i] = false) : l.all p = false := by
  rw [List.all_eq_false]; exact ⟨l[i], List.getElem_mem _, by simp [h]⟩
theorem step_all {α : Type} {p : α → Bool} {l : List α} {j : Nat} (hj : j < l.length) (h : ∀ i (h : i < l.length), i < j → p l[i] = true) (hp : p l[j] = true) : ∀ i (h : i < l.length), i < j + 1 → p l[i] = true := by
  intro i hi hij
  by_cases he : i = j
  · subst he; exact hp
  · exact h i hi (by omega)
theorem meas1 {l : Line} (h : headBad l) : 9 = measS l := by unfold measS; rw [if_pos h]
theorem meas2 {l : Line} (h : ¬ headBad l) (h2 : 32 < l.sizes.length) : 4 = measS l := by unfold measS; rw [if_neg h, if_pos h2]
theorem meas3 {l : Line} (h : ¬ headBad l) (h2 : ¬ 32 < l.sizes.length) {j : Nat} (hj : j < l.sizes.length) (hs : sizeOk l.sizes[j] = false) : 9 = measS l := by unfold measS; rw [if_neg h, if_neg h2, all_not hj hs]; rfl
theorem meas4 {l : Line} (h : ¬ headBad l) (h2 : ¬ 32 < l.sizes.length) (hs : ∀ i (h : i < l.sizes.length), sizeOk l.sizes[i] = true) : 0 = measS l := by unfold measS; rw [if_neg h, if_neg h2, all_of hs]; rfl
theorem meas0 {l : Line} (h : measS l = 0) : ¬ headBad l ∧ l.sizes.length ≤ 32 ∧ ∀ i (h : i < l.sizes.length), 1 ≤ l.sizes[i] ∧ l.sizes[i] ≤ 2000 := by
  unfold measS at h
  split at h
  · simp at h
  split at h
  · simp at h
  split at h
  · rename_i h1 h2 h3
    refine ⟨h1, by omega, fun i hi => ?_⟩
    have := List.all_eq_true.1 h3 _ (List.getElem_mem hi)
    unfold sizeOk at this
    simpa using this
  · simp at h
theorem meas_con (l : Line) : Con Tryz.prog gl 92 [lineC l] (I (measS l)) := by
  refine con_of Tryz.func92 rfl (by kernel_rfl) rfl ?_
  simp only [Tryz.ntmps92, Tryz.results92, argEnv, ofC, of1, List.map, lineC, lineL]
  repeat' (first
 | ((with_reducible apply aw_seq))
 | ((with_reducible apply aw_region))
 | ((with_reducible apply aw_block))
 | ((with_reducible apply thn_normal))
 | ((with_reducible apply thn_ret))
 | ((with_reducible apply aw_skip))
 | ((with_reducible apply aw_ret))
 | ((with_reducible apply ao_nil))
 | ((with_reducible apply r_move); exact rfl; exact rfl)
 | ((with_reducible apply r_assign); exact rfl; exact rfl)
 | ((with_reducible apply r_field_p); exact rfl; exact rfl)
 | ((with_reducible apply r_load_p); exact rfl; exact rfl; exact rfl; exact rfl)
 | ((with_reducible apply r_lss); exact rfl; exact rfl; exact rfl)
 | ((with_reducible apply r_gtr); exact rfl; exact rfl; exact rfl)
 | ((with_reducible apply r_box_a); exact rfl; exact rfl)
 | ((with_reducible apply r_pick_t); exact rfl; exact rfl; exact rfl)
 | ((with_reducible apply r_pick_f); exact rfl; exact rfl; exact rfl)
 | ((with_reducible apply r_len_f); exact rfl; exact inferInstance; exact rfl)
 | (((with_reducible apply r_guard); exact rfl; exact rfl; exact rfl; exact rfl) <;> intro hg <;> (first | (exact absurd hg (by decide)) | ((try simp only [decide_eq_true_eq, decide_eq_false_iff_not, Bool.not_eq_true', Bool.not_eq_false', Bool.not_true, Bool.not_false, Bool.not_not, Int.not_lt, Int.not_le, Nat.not_lt, Nat.not_le, gt_iff_lt, ge_iff_le, List.cons.injEq, and_true] at hg); first | (exact absurd trivial hg) | (exfalso; omega) | (have hT : True := hg; clear hT hg) | skip)))
 | (((with_reducible apply aw_cond); exact rfl) <;> intro hg <;> (first | (exact absurd hg (by decide)) | ((try simp only [decide_eq_true_eq, decide_eq_false_iff_not, Bool.not_eq_true', Bool.not_eq_false', Bool.not_true, Bool.not_false, Bool.not_not, Int.not_lt, Int.not_le, Nat.not_lt, Nat.not_le, gt_iff_lt, ge_iff_le, List.cons.injEq, and_true] at hg); first | (exact absurd trivial hg) | (exfalso; omega) | (have hT : True := hg; clear hT hg) | skip)))
 )
  all_goals first | exact ret_i rfl (meas1 (by unfold headBad; omega)) | exact ret_i rfl (meas2 (by unfold headBad; omega) (by omega)) | skip
  have hh : ¬ headBad l := by unfold headBad; omega
  have hl : ¬ 32 < l.sizes.length := by omega
  refine aw_loopG (G := Nat) (fun (j : Nat) => j ≤ l.sizes.length ∧ ∀ i (h : i < l.sizes.length), i < j → sizeOk l.sizes[i] = true) (fun (j : Nat) => l.sizes.length - j) (fun (j : Nat) => [(38, .c (LI l.sizes)), (39, A l.sizes.length), (40, A j)]) (fun (j : Nat) => []) 1 0 ?_ (by refine weak_mk rfl ?_ ?_ <;> repeat (first | exact envW_nil | exact heapW_nil | refine envW_cons rfl rfl ?_ | refine heapW_cons rfl rfl rfl ?_)) rfl ?_
  · exact ⟨Nat.zero_le _, fun _ _ h => absurd h (Nat.not_lt_zero _)⟩
  rintro j hI
  try dsimp only at hI
  try dsimp only
  obtain ⟨hj, hall⟩ := hI
  repeat' (first
 | ((with_reducible apply aw_seq))
 | ((with_reducible apply aw_region))
 | ((with_reducible apply aw_block))
 | ((with_reducible apply thn_normal))
 | ((with_reducible apply thn_ret))
 | ((with_reducible apply thn_exit))
 | ((with_reducible apply inb_normal))
 | ((with_reducible apply inb_ret))
 | ((with_reducible apply inb_exit))
 | ((with_reducible apply aw_skip))
 | ((with_reducible apply aw_exit))
 | ((with_reducible apply aw_ret))
 | ((with_reducible apply ao_nil))
 | ((with_reducible apply r_move); exact rfl; exact rfl)
 | ((with_reducible apply r_assign); exact rfl; exact rfl)
 | ((with_reducible apply r_lss); exact rfl; exact rfl; exact rfl)
 | ((with_reducible apply r_gtr); exact rfl; exact rfl; exact rfl)
 | ((with_reducible apply r_add); exact rfl; exact rfl; exact (by first | assumption | (unfold fits; omega)); exact rfl)
 | ((with_reducible apply r_pick_t); exact rfl; exact rfl; exact rfl)
 | ((with_reducible apply r_pick_f); exact rfl; exact rfl; exact rfl)
 | ((with_reducible apply r_index_f); exact rfl; exact inferInstance; exact rfl; exact rfl; (first | assumption | omega); exact rfl)
 | ((with_reducible apply r_load_f0); exact rfl; exact inferInstance; exact List.getElem?_eq_getElem (by first | assumption | omega); exact rfl; exact rfl)
 | (((with_reducible apply r_guard); exact rfl; exact rfl; exact rfl; exact rfl) <;> intro hg <;> (first | (exact absurd hg (by decide)) | ((try simp only [decide_eq_true_eq, decide_eq_false_iff_not, Bool.not_eq_true', Bool.not_eq_false', Bool.not_true, Bool.not_false, Bool.not_not, Int.not_lt, Int.not_le, Nat.not_lt, Nat.not_le, gt_iff_lt, ge_iff_le, List.cons.injEq, and_true] at hg); first | (exact absurd trivial hg) | (exfalso; omega) | (have hT : True := hg; clear hT hg) | skip)))
 | (((with_reducible apply aw_cond); exact rfl) <;> intro hg <;> (first | (exact absurd hg (by decide)) | ((try simp only [decide_eq_true_eq, decide_eq_false_iff_not, Bool.not_eq_true', Bool.not_eq_false', Bool.not_true, Bool.not_false, Bool.not_not, Int.not_lt, Int.not_le, Nat.not_lt, Nat.not_le, gt_iff_lt, ge_iff_le, List.cons.injEq, and_true] at hg); first | (exact absurd trivial hg) | (exfalso; omega) | (have hT : True := hg; clear hT hg) | skip)))
 )
  · exact ret_i rfl (meas3 hh hl (j := j) (by omega) (by unfold sizeOk; simp; omega))
  · skip
    refine ⟨j + 1, ?_, ?_, by refine weak_mk rfl ?_ ?_ <;> repeat (first | exact envW_nil | exact heapW_nil | refine envW_cons rfl rfl ?_ | refine heapW_cons rfl rfl rfl ?_)⟩
    · omega
    · exact ⟨by omega, step_all (by omega) hall (by unfold sizeOk; simp; omega)⟩
  · exact ret_i rfl (meas3 hh hl (j := j) (by omega) (by unfold sizeOk; simp; omega))
  · exact ret_i rfl (meas4 hh hl (fun i hi => hall i hi (by omega)))
def smallN (n : Int) : Bool := decide (-1125899906842624 ≤ n) && decide (n ≤ 1125899906842624)
def smallL (l : List Int) : Bool := l.all smallN
theorem small_con (ls : List (List Int)) (hn : ls.length ≤ 1000000) (hr : ∀ i (h : i < ls.length), ls[i].length ≤ 1000000) : Con Tryz.prog gl 94 [LL ls] (.v (.bool (ls.all smallL))) := by
  refine con_of Tryz.func94 rfl (by kernel_rfl) rfl ?_
  simp only [Tryz.ntmps94, Tryz.results94, argEnv, ofC, of1, List.map]
  repeat' (first
 | ((with_reducible apply aw_seq))
 | ((with_reducible apply aw_region))
 | ((with_reducible apply aw_block))
 | ((with_reducible apply thn_normal))
 | ((with_reducible apply ao_nil))
 | ((with_reducible apply r_move); exact rfl; exact rfl)
 | ((with_reducible apply r_assign); exact rfl; exact rfl)
 | ((with_reducible apply r_len_f); exact rfl; exact inferInstance; exact rfl)
 )
  refine aw_loopG (G := Nat) (fun (j : Nat) => j ≤ ls.length ∧ ∀ i (h : i < ls.length), i < j → smallL ls[i] = true) (fun (j : Nat) => ls.length - j) (fun (j : Nat) => [(7, .c (LL ls)), (8, A ls.length), (9, A j)]) (fun (j : Nat) => []) 0 0 ?_ (by refine weak_mk rfl ?_ ?_ <;> repeat (first | exact envW_nil | exact heapW_nil | refine envW_cons rfl rfl ?_ | refine heapW_cons rfl rfl rfl ?_)) rfl ?_
  · exact ⟨Nat.zero_le _, fun _ _ h => absurd h (Nat.not_lt_zero _)⟩
  rintro j hI
  try dsimp only at hI
  try dsimp only
  obtain ⟨hj, hall⟩ := hI
  repeat' (first
 | ((with_reducible apply aw_seq))
 | ((with_reducible apply aw_region))
 | ((with_reducible apply aw_block))
 | ((with_reducible apply thn_normal))
 | ((with_reducible apply thn_exit))
 | ((with_reducible apply inb_exit))
 | ((with_reducible apply aw_skip))
 | ((with_reducible apply aw_exit))
 | ((with_reducible apply aw_ret))
 | ((with_reducible apply ao_nil))
 | ((with_reducible apply r_move); exact rfl; exact rfl)
 | ((with_reducible apply r_assign); exact rfl; exact rfl)
 | ((with_reducible apply r_lss); exact rfl; exact rfl; exact rfl)
 | ((with_reducible apply r_len_f); exact rfl; exact inferInstance; exact rfl)
 | ((with_reducible apply r_index_f); exact rfl; exact inferInstance; exact rfl; exact rfl; (first | assumption | omega); exact rfl)
 | ((with_reducible apply r_load_f0); exact rfl; exact inferInstance; exact List.getElem?_eq_getElem (by first | assumption | omega); exact rfl; exact rfl)
 | (((with_reducible apply aw_cond); exact rfl) <;> intro hg <;> (first | (exact absurd hg (by decide)) | ((try simp only [decide_eq_true_eq, decide_eq_false_iff_not, Bool.not_eq_true', Bool.not_eq_false', Bool.not_true, Bool.not_false, Bool.not_not, Int.not_lt, Int.not_le, Nat.not_lt, Nat.not_le, gt_iff_lt, ge_iff_le, List.cons.injEq, and_true] at hg); first | (exact absurd trivial hg) | (exfalso; omega) | (have hT : True := hg; clear hT hg) | skip)))
 )
  · have hj1 : j < ls.length := by omega
    have hlr := hr j hj1
    refine aw_loopG (G := Nat) (fun (i : Nat) => i ≤ ls[j].length ∧ ∀ q (h : q < ls[j].length), q < i → smallN ls[j][q] = true) (fun (i : Nat) => ls[j].length - i) (fun (i : Nat) => [(7, .c (LL ls)), (8, A ls.length), (9, A j), (13, .c (LI ls[j])), (14, A ls[j].length), (15, A i)]) (fun (i : Nat) => []) 0 0 ?_ (by refine weak_mk rfl ?_ ?_ <;> repeat (first | exact envW_nil | exact heapW_nil | refine envW_cons rfl rfl ?_ | refine heapW_cons rfl rfl rfl ?_)) rfl ?_
    · exact ⟨Nat.zero_le _, fun _ _ h => absurd h (Nat.not_lt_zero _)⟩
    rintro i hI
    try dsimp only at hI
    try dsimp only
    obtain ⟨hi, hin⟩ := hI
    repeat' (first
 | ((with_reducible apply aw_seq))
 | ((with_reducible apply aw_region))
 | ((with_reducible apply aw_block))
 | ((with_reducible apply thn_normal))
 | ((with_reducible apply thn_ret))
 | ((with_reducible apply thn_exit))
 | ((with_reducible apply inb_normal))
 | ((with_reducible apply inb_ret))
 | ((with_reducible apply inb_exit))
 | ((with_reducible apply aw_skip))
 | ((with_reducible apply aw_exit))
 | ((with_reducible apply aw_ret))
 | ((with_reducible apply ao_nil))
 | ((with_reducible apply r_move); exact rfl; exact rfl)
 | ((with_reducible apply r_assign); exact rfl; exact rfl)
 | ((with_reducible apply r_lss); exact rfl; exact rfl; exact rfl)
 | ((with_reducible apply r_gtr); exact rfl; exact rfl; exact rfl)
 | ((with_reducible apply r_add); exact rfl; exact rfl; exact (by first | assumption | (unfold fits; omega)); exact rfl)
 | ((with_reducible apply r_pick_t); exact rfl; exact rfl; exact rfl)
 | ((with_reducible apply r_pick_f); exact rfl; exact rfl; exact rfl)
 | ((with_reducible apply r_index_f); exact rfl; exact inferInstance; exact rfl; exact rfl; (first | assumption | omega); exact rfl)
 | ((with_reducible apply r_load_f0); exact rfl; exact inferInstance; exact List.getElem?_eq_getElem (by first | assumption | omega); exact rfl; exact rfl)
 | (((with_reducible apply r_guard); exact rfl; exact rfl; exact rfl; exact rfl) <;> intro hg <;> (first | (exact absurd hg (by decide)) | ((try simp only [decide_eq_true_eq, decide_eq_false_iff_not, Bool.not_eq_true', Bool.not_eq_false', Bool.not_true, Bool.not_false, Bool.not_not, Int.not_lt, Int.not_le, Nat.not_lt, Nat.not_le, gt_iff_lt, ge_iff_le, List.cons.injEq, and_true] at hg); first | (exact absurd trivial hg) | (exfalso; omega) | (have hT : True := hg; clear hT hg) | skip)))
 | (((with_reducible apply aw_cond); exact rfl) <;> intro hg <;> (first | (exact absurd hg (by decide)) | ((try simp only [decide_eq_true_eq, decide_eq_false_iff_not, Bool.not_eq_true', Bool.not_eq_false', Bool.not_true, Bool.not_false, Bool.not_not, Int.not_lt, Int.not_le, Nat.not_lt, Nat.not_le, gt_iff_lt, ge_iff_le, List.cons.injEq, and_true] at hg); first | (exact absurd trivial hg) | (exfalso; omega) | (have hT : True := hg; clear hT hg) | skip)))
 )
    · exact ret_b rfl (all_not hj1 (all_not (i := i) (by omega) (by unfold smallN; simp; omega))).symm
    · skip
      refine ⟨i + 1, ?_, ?_, by refine weak_mk rfl ?_ ?_ <;> repeat (first | exact envW_nil | exact heapW_nil | refine envW_cons rfl rfl ?_ | refine heapW_cons rfl rfl rfl ?_)⟩
      · omega
      · exact ⟨by omega, step_all (by omega) hin (by unfold smallN; simp; omega)⟩
    · exact ret_b rfl (all_not hj1 (all_not (i := i) (by omega) (by unfold smallN; simp; omega))).symm
    · skip
      refine ⟨j + 1, ?_, ?_, by refine weak_mk rfl ?_ ?_ <;> repeat (first | exact envW_nil | exact heapW_nil | refine envW_cons rfl rfl ?_ | refine heapW_cons rfl rfl rfl ?_)⟩
      · omega
      · exact ⟨by omega, step_all hj1 hall (all_of (fun q hq => hin q hq (by omega)))⟩
  · exact ret_b rfl (all_of (fun i hi => hall i hi (by omega))).symm
theorem rsmall_con (l : List Int) (hn : l.length ≤ 1000000) : Con Tryz.prog gl 97 [LI l] (.v (.bool (smallL l))) := by
  refine con_of Tryz.func97 rfl (by kernel_rfl) rfl ?_
  simp only [Tryz.ntmps97, Tryz.results97, argEnv, ofC, of1, List.map]
  repeat' (first
 | ((with_reducible apply aw_seq))
 | ((with_reducible apply aw_region))
 | ((with_reducible apply aw_block))
 | ((with_reducible apply thn_normal))
 | ((with_reducible apply ao_nil))
 | ((with_reducible apply r_assign); exact rfl; exact rfl)
 )
  refine aw_loopG (G := Nat) (fun (j : Nat) => j ≤ l.length ∧ ∀ i (h : i < l.length), i < j → smallN l[i] = true) (fun (j : Nat) => l.length - j) (fun (j : Nat) => [(0, .c (LI l)), (3, A j)]) (fun (j : Nat) => []) 0 0 ?_ (by refine weak_mk rfl ?_ ?_ <;> repeat (first | exact envW_nil | exact heapW_nil | refine envW_cons rfl rfl ?_ | refine heapW_cons rfl rfl rfl ?_)) rfl ?_
  · exact ⟨Nat.zero_le _, fun _ _ h => absurd h (Nat.not_lt_zero _)⟩
  rintro j hI
  try dsimp only at hI
  try dsimp only
  obtain ⟨hj, hall⟩ := hI
  repeat' (first
 | ((with_reducible apply aw_seq))
 | ((with_reducible apply aw_region))
 | ((with_reducible apply aw_block))
 | ((with_reducible apply thn_normal))
 | ((with_reducible apply thn_ret))
 | ((with_reducible apply thn_exit))
 | ((with_reducible apply inb_normal))
 | ((with_reducible apply inb_ret))
 | ((with_reducible apply inb_exit))
 | ((with_reducible apply aw_skip))
 | ((with_reducible apply aw_exit))
 | ((with_reducible apply aw_ret))
 | ((with_reducible apply ao_nil))
 | ((with_reducible apply r_move); exact rfl; exact rfl)
 | ((with_reducible apply r_assign); exact rfl; exact rfl)
 | ((with_reducible apply r_lss); exact rfl; exact rfl; exact rfl)
 | ((with_reducible apply r_gtr); exact rfl; exact rfl; exact rfl)
 | ((with_reducible apply r_add); exact rfl; exact rfl; exact (by first | assumption | (unfold fits; omega)); exact rfl)
 | ((with_reducible apply r_pick_t); exact rfl; exact rfl; exact rfl)
 | ((with_reducible apply r_pick_f); exact rfl; exact rfl; exact rfl)
 | ((with_reducible apply r_len_f); exact rfl; exact inferInstance; exact rfl)
 | ((with_reducible apply r_index_f); exact rfl; exact inferInstance; exact rfl; exact rfl; (first | assumption | omega); exact rfl)
 | ((with_reducible apply r_load_f0); exact rfl; exact inferInstance; exact List.getElem?_eq_getElem (by first | assumption | omega); exact rfl; exact rfl)
 | (((with_reducible apply r_guard); exact rfl; exact rfl; exact rfl; exact rfl) <;> intro hg <;> (first | (exact absurd hg (by decide)) | ((try simp only [decide_eq_true_eq, decide_eq_false_iff_not, Bool.not_eq_true', Bool.not_eq_false', Bool.not_true, Bool.not_false, Bool.not_not, Int.not_lt, Int.not_le, Nat.not_lt, Nat.not_le, gt_iff_lt, ge_iff_le, List.cons.injEq, and_true] at hg); first | (exact absurd trivial hg) | (exfalso; omega) | (have hT : True := hg; clear hT hg) | skip)))
 | (((with_reducible apply aw_cond); exact rfl) <;> intro hg <;> (first | (exact absurd hg (by decide)) | ((try simp only [decide_eq_true_eq, decide_eq_false_iff_not, Bool.not_eq_true', Bool.not_eq_false', Bool.not_true, Bool.not_false, Bool.not_not, Int.not_lt, Int.not_le, Nat.not_lt, Nat.not_le, gt_iff_lt, ge_iff_le, List.cons.injEq, and_true] at hg); first | (exact absurd trivial hg) | (exfalso; omega) | (have hT : True := hg; clear hT hg) | skip)))
 )
  · exact ret_b rfl (all_not (i := j) (by omega) (by unfold smallN; simp; omega)).symm
  · skip
    refine ⟨j + 1, ?_, ?_, by refine weak_mk rfl ?_ ?_ <;> repeat (first | exact envW_nil | exact heapW_nil | refine envW_cons rfl rfl ?_ | refine heapW_cons rfl rfl rfl ?_)⟩
    · omega
    · exact ⟨by omega, step_all (by omega) hall (by unfold smallN; simp; omega)⟩
  · exact ret_b rfl (all_not (i := j) (by omega) (by unfold smallN; simp; omega)).symm
  · exact ret_b rfl (all_of (fun i hi => hall i hi (by omega))).symm
def rowOk (l : Line) (i : Nat) : Prop := ∀ (h : i < l.gain.length) (h2 : i < l.sizes.length), (l.gain[i].length : Int) = max 0 (l.len - l.sizes[i] + 1)
def shapeOk (l : Line) : Prop := l.gain.length = l.sizes.length ∧ (l.chip.length : Int) = l.len ∧ (l.dust.length : Int) = l.len ∧ ∀ i, i < l.sizes.length → rowOk l i
open Classical in
noncomputable def chk (l : Line) : Int := if measS l ≠ 0 then measS l else if shapeOk l then (if l.gain.all smallL && smallL l.chip && smallL l.dust then 0 else 9) else 19
theorem chk_meas {l : Line} (h : ¬ measS l = 0) : measS l = chk l := by unfold chk; rw [if_pos h]
theorem chk_shape {l : Line} (h : measS l = 0) (h2 : ¬ shapeOk l) : 19 = chk l := by unfold chk; rw [if_neg (by simp [h]), if_neg h2]
theorem chk_small {l : Line} (h : measS l = 0) (h2 : shapeOk l) (b : Bool) (hb : (l.gain.all smallL && smallL l.chip && smallL l.dust) = b) : (if b then 0 else 9) = chk l := by unfold chk; rw [if_neg (show ¬ measS l ≠ 0 from fun hh => hh h), if_pos h2, hb]
theorem chk9a {l : Line} (h : measS l = 0) (hs : shapeOk l) (b : l.gain.all smallL = false) : 9 = chk l := by rw [← chk_small h hs _ rfl, b]; rfl
theorem chk9b {l : Line} (h : measS l = 0) (hs : shapeOk l) (b : [l.chip, l.dust].all smallL = false) : 9 = chk l := by
  rw [← chk_small h hs _ rfl]
  simp only [List.all_cons, List.all_nil, Bool.and_true] at b
  rw [Bool.and_assoc, b, Bool.and_false]; rfl
theorem chk0 {l : Line} (h : measS l = 0) (hs : shapeOk l) (b1 : l.gain.all smallL = true) (b2 : [l.chip, l.dust].all smallL = true) : 0 = chk l := by
  rw [← chk_small h hs _ rfl]
  simp only [List.all_cons, List.all_nil, Bool.and_true] at b2
  rw [Bool.and_assoc, b1, b2]; rfl
theorem shape_len {l : Line} (h : measS l = 0) (hs : shapeOk l) : 0 ≤ l.len ∧ l.len ≤ 2000 ∧ l.gain.length ≤ 32 ∧ l.chip.length ≤ 2000 ∧ l.dust.length ≤ 2000 ∧ ∀ i (h : i < l.gain.length), l.gain[i].length ≤ 2000 := by
  obtain ⟨h1, h2, h3⟩ := meas0 h
  unfold headBad at h1
  obtain ⟨s1, s2, s3, s4⟩ := hs
  refine ⟨by omega, by omega, by omega, by omega, by omega, fun i hi => ?_⟩
  have := s4 i (by omega) hi (by omega)
  have := (h3 i (by omega)).1
  omega
theorem check_con (l : Line) : Con Tryz.prog gl 61 [lineC l] (I (chk l)) := by
  refine con_of Tryz.func61 rfl (by kernel_rfl) rfl ?_
  simp only [Tryz.ntmps61, Tryz.results61, argEnv, ofC, of1, List.map, lineC, lineL]
  repeat' (first
 | ((with_reducible apply r_call); exact rfl; exact rfl; exact meas_con l; exact rfl; exact rfl)
 | ((with_reducible apply aw_seq))
 | ((with_reducible apply aw_region))
 | ((with_reducible apply aw_block))
 | ((with_reducible apply thn_normal))
 | ((with_reducible apply thn_ret))
 | ((with_reducible apply aw_skip))
 | ((with_reducible apply aw_ret))
 | ((with_reducible apply ao_nil))
 | ((with_reducible apply r_move); exact rfl; exact rfl)
 | ((with_reducible apply r_assign); exact rfl; exact rfl)
 | ((with_reducible apply r_field_p); exact rfl; exact rfl)
 | ((with_reducible apply r_load_p); exact rfl; exact rfl; exact rfl; exact rfl)
 | ((with_reducible apply r_load_pa); exact rfl; exact rfl; exact rfl; exact rfl; exact rfl)
 | ((with_reducible apply r_neq); exact rfl; exact rfl; exact rfl)
 | ((with_reducible apply r_box_a); exact rfl; exact rfl)
 | ((with_reducible apply r_pick_t); exact rfl; exact rfl; exact rfl)
 | ((with_reducible apply r_pick_f); exact rfl; exact rfl; exact rfl)
 | ((with_reducible apply r_len_f); exact rfl; exact inferInstance; exact rfl)
 | (((with_reducible apply r_guard); exact rfl; exact rfl; exact rfl; exact rfl) <;> intro hg <;> (first | (exact absurd hg (by decide)) | ((try simp only [decide_eq_true_eq, decide_eq_false_iff_not, Bool.not_eq_true', Bool.not_eq_false', Bool.not_true, Bool.not_false, Bool.not_not, Int.not_lt, Int.not_le, Nat.not_lt, Nat.not_le, gt_iff_lt, ge_iff_le, List.cons.injEq, and_true] at hg); first | (exact absurd trivial hg) | (exfalso; omega) | (have hT : True := hg; clear hT hg) | skip)))
 | (((with_reducible apply aw_cond); exact rfl) <;> intro hg <;> (first | (exact absurd hg (by decide)) | ((try simp only [decide_eq_true_eq, decide_eq_false_iff_not, Bool.not_eq_true', Bool.not_eq_false', Bool.not_true, Bool.not_false, Bool.not_not, Int.not_lt, Int.not_le, Nat.not_lt, Nat.not_le, gt_iff_lt, ge_iff_le, List.cons.injEq, and_true] at hg); first | (exact absurd trivial hg) | (exfalso; omega) | (have hT : True := hg; clear hT hg) | skip)))
 )
  · exact ret_i rfl (chk_meas hg)
  all_goals have hm : measS l = 0 := by assumption
  all_goals obtain ⟨hm1, hm2, hm3⟩ := meas0 hm
  all_goals (unfold headBad at hm1)
  all_goals first | exact ret_i rfl (chk_shape hm (fun hs => by have h1 := hs.1; have h2 := hs.2.1; have h3 := hs.2.2.1; omega)) | skip
  have hlen : l.gain.length = l.sizes.length := by omega
  refine aw_loopG (G := Nat) (fun (j : Nat) => j ≤ l.gain.length ∧ ∀ i, i < j → rowOk l i) (fun (j : Nat) => l.gain.length - j) (fun (j : Nat) => [(1, .ptr 0 0), (35, .c (LL l.gain)), (36, A l.gain.length), (37, A j)]) (fun (j : Nat) => [(0, some (lineB l))]) 1 0 ?_ (by refine weak_mk rfl ?_ ?_ <;> repeat (first | exact envW_nil | exact heapW_nil | refine envW_cons rfl rfl ?_ | refine heapW_cons rfl rfl rfl ?_)) rfl ?_
  · exact ⟨Nat.zero_le _, fun _ h => absurd h (Nat.not_lt_zero _)⟩
  rintro j hI
  try dsimp only at hI
  try dsimp only
  obtain ⟨hj, hall⟩ := hI
  have hrows : j = l.gain.length → shapeOk l := fun hjl => ⟨hlen, by omega, by omega, fun i hi => hall i (by omega)⟩
  by_cases hjl : j < l.gain.length
  · skip
    repeat' (first
 | ((with_reducible apply r_call); exact rfl; exact rfl; exact places_con l _ ⟨by omega, by omega, (hm3 j (by omega)).1, (hm3 j (by omega)).2⟩; exact rfl; exact rfl)
 | ((with_reducible apply aw_seq))
 | ((with_reducible apply aw_region))
 | ((with_reducible apply aw_block))
 | ((with_reducible apply thn_normal))
 | ((with_reducible apply thn_ret))
 | ((with_reducible apply inb_normal))
 | ((with_reducible apply inb_ret))
 | ((with_reducible apply aw_skip))
 | ((with_reducible apply aw_ret))
 | ((with_reducible apply ao_nil))
 | ((with_reducible apply r_move); exact rfl; exact rfl)
 | ((with_reducible apply r_assign); exact rfl; exact rfl)
 | ((with_reducible apply r_field_p); exact rfl; exact rfl)
 | ((with_reducible apply r_load_p); exact rfl; exact rfl; exact rfl; exact rfl)
 | ((with_reducible apply r_load_pa); exact rfl; exact rfl; exact rfl; exact rfl; exact rfl)
 | ((with_reducible apply r_lss); exact rfl; exact rfl; exact rfl)
 | ((with_reducible apply r_neq); exact rfl; exact rfl; exact rfl)
 | ((with_reducible apply r_add); exact rfl; exact rfl; exact (by first | assumption | (unfold fits; omega)); exact rfl)
 | ((with_reducible apply r_len_f); exact rfl; exact inferInstance; exact rfl)
 | ((with_reducible apply r_index_f); exact rfl; exact inferInstance; exact rfl; exact rfl; (first | assumption | omega); exact rfl)
 | ((with_reducible apply r_load_f0); exact rfl; exact inferInstance; exact List.getElem?_eq_getElem (by first | assumption | omega); exact rfl; exact rfl)
 | (((with_reducible apply aw_cond); exact rfl) <;> intro hg <;> (first | (exact absurd hg (by decide)) | ((try simp only [decide_eq_true_eq, decide_eq_false_iff_not, Bool.not_eq_true', Bool.not_eq_false', Bool.not_true, Bool.not_false, Bool.not_not, Int.not_lt, Int.not_le, Nat.not_lt, Nat.not_le, gt_iff_lt, ge_iff_le, List.cons.injEq, and_true] at hg); first | (exact absurd trivial hg) | (exfalso; omega) | (have hT : True := hg; clear hT hg) | skip)))
 | (refine aw_drawq ?_ ?_; (kernel_rfl))
 | ((with_reducible apply ds_nil))
 )
    · exact ret_i rfl (chk_shape hm (fun hs => hg (hs.2.2.2 j (by omega) hjl (by omega))))
    · skip
      refine ⟨j + 1, ?_, ?_, by refine weak_mk rfl ?_ ?_ <;> repeat (first | exact envW_nil | exact heapW_nil | refine envW_cons rfl rfl ?_ | refine heapW_cons rfl rfl rfl ?_)⟩
      · omega
      · refine ⟨by omega, fun i hi => ?_⟩
        by_cases he : i = j
        · subst he; exact fun _ _ => hg
        · exact hall i (by omega)
  · have hs := hrows (by omega)
    obtain ⟨q1, q2, q3, q4, q5, q6⟩ := shape_len hm hs
    have hr1 := small_con (gl := gl) l.gain (by omega) (fun i hi => by have := q6 i hi; omega)
    have hr2 := small_con (gl := gl) [l.chip, l.dust] (by simp) (fun i hi => by
      simp only [List.length_cons, List.length_nil] at hi
      match i, hi with
      | 0, _ => show l.chip.length ≤ _; omega
      | 1, _ => show l.dust.length ≤ _; omega)
    repeat' (first
 | ((with_reducible apply r_call); exact rfl; exact rfl; exact hr1; exact rfl; exact rfl)
 | ((with_reducible apply r_callv); exact hr2; exact rfl; exact cl_cons (cl_vec rfl rfl) cl_nil; exact rfl; exact rfl)
 | ((with_reducible apply aw_seq))
 | ((with_reducible apply aw_region))
 | ((with_reducible apply thn_normal))
 | ((with_reducible apply thn_ret))
 | ((with_reducible apply thn_exit))
 | ((with_reducible apply inb_exit))
 | ((with_reducible apply aw_skip))
 | ((with_reducible apply aw_exit))
 | ((with_reducible apply aw_ret))
 | ((with_reducible apply ao_nil))
 | ((with_reducible apply r_move); exact rfl; exact rfl)
 | ((with_reducible apply r_assign); exact rfl; exact rfl)
 | ((with_reducible apply r_field_p); exact rfl; exact rfl)
 | ((with_reducible apply r_load_p); exact rfl; exact rfl; exact rfl; exact rfl)
 | ((with_reducible apply r_lss); exact rfl; exact rfl; exact rfl)
 | ((with_reducible apply r_pick_t); exact rfl; exact rfl; exact rfl)
 | ((with_reducible apply r_pick_f); exact rfl; exact rfl; exact rfl)
 | ((with_reducible apply r_not); exact rfl; exact rfl)
 | (((with_reducible apply r_guard); exact rfl; exact rfl; exact rfl; exact rfl) <;> intro hg <;> (first | (exact absurd hg (by decide)) | ((try simp only [decide_eq_true_eq, decide_eq_false_iff_not, Bool.not_eq_true', Bool.not_eq_false', Bool.not_true, Bool.not_false, Bool.not_not, Int.not_lt, Int.not_le, Nat.not_lt, Nat.not_le, gt_iff_lt, ge_iff_le, List.cons.injEq, and_true] at hg); first | (exact absurd trivial hg) | (exfalso; omega) | (have hT : True := hg; clear hT hg) | skip)))
 | (((with_reducible apply aw_cond); exact rfl) <;> intro hg <;> (first | (exact absurd hg (by decide)) | ((try simp only [decide_eq_true_eq, decide_eq_false_iff_not, Bool.not_eq_true', Bool.not_eq_false', Bool.not_true, Bool.not_false, Bool.not_not, Int.not_lt, Int.not_le, Nat.not_lt, Nat.not_le, gt_iff_lt, ge_iff_le, List.cons.injEq, and_true] at hg); first | (exact absurd trivial hg) | (exfalso; omega) | (have hT : True := hg; clear hT hg) | skip)))
 | ((with_reducible apply r_lit); exact rfl; exact rfl; exact rfl; exact rfl; exact rfl; exact rfl; exact rfl)
 )
    all_goals first | exact ret_i rfl (chk9a hm hs (by assumption)) | exact ret_i rfl (chk9b hm hs (by assumption)) | exact ret_i rfl (chk0 hm hs (by assumption) (by assumption))
theorem rcheck_con (l : Line) : Con Tryz.prog gl 64 [lineC l] (I (chk l)) := by
  refine con_of Tryz.func64 rfl (by kernel_rfl) rfl ?_
  simp only [Tryz.ntmps64, Tryz.results64, argEnv, ofC, of1, List.map, lineC, lineL]
  repeat' (first
 | ((with_reducible apply aw_seq))
 | ((with_reducible apply aw_region))
 | ((with_reducible apply aw_block))
 | ((with_reducible apply thn_normal))
 | ((with_reducible apply thn_ret))
 | ((with_reducible apply aw_skip))
 | ((with_reducible apply aw_ret))
 | ((with_reducible apply ao_nil))
 | ((with_reducible apply r_move); exact rfl; exact rfl)
 | ((with_reducible apply r_assign); exact rfl; exact rfl)
 | ((with_reducible apply r_field_p); exact rfl; exact rfl)
 | ((with_reducible apply r_load_p); exact rfl; exact rfl; exact rfl; exact rfl)
 | ((with_reducible apply r_lss); exact rfl; exact rfl; exact rfl)
 | ((with_reducible apply r_gtr); exact rfl; exact rfl; exact rfl)
 | ((with_reducible apply r_box_a); exact rfl; exact rfl)
 | ((with_reducible apply r_pick_t); exact rfl; exact rfl; exact rfl)
 | ((with_reducible apply r_pick_f); exact rfl; exact rfl; exact rfl)
 | ((with_reducible apply r_len_f); exact rfl; exact inferInstance; exact rfl)
 | (((with_reducible apply r_guard); exact rfl; exact rfl; exact rfl; exact rfl) <;> intro hg <;> (first | (exact absurd hg (by decide)) | ((try simp only [decide_eq_true_eq, decide_eq_false_iff_not, Bool.not_eq_true', Bool.not_eq_false', Bool.not_true, Bool.not_false, Bool.not_not, Int.not_lt, Int.not_le, Nat.not_lt, Nat.not_le, gt_iff_lt, ge_iff_le, List.cons.injEq, and_true] at hg); first | (exact absurd trivial hg) | (exfalso; omega) | (have hT : True := hg; clear hT hg) | skip)))
 | (((with_reducible apply aw_cond); exact rfl) <;> intro hg <;> (first | (exact absurd hg (by decide)) | ((try simp only [decide_eq_true_eq, decide_eq_false_iff_not, Bool.not_eq_true', Bool.not_eq_false', Bool.not_true, Bool.not_false, Bool.not_not, Int.not_lt, Int.not_le, Nat.not_lt, Nat.not_le, gt_iff_lt, ge_iff_le, List.cons.injEq, and_true] at hg); first | (exact absurd trivial hg) | (exfalso; omega) | (have hT : True := hg; clear hT hg) | skip)))
 )
  all_goals first | exact ret_i rfl ((meas1 (by unfold headBad; omega)).trans (chk_meas (by rw [← meas1 (by unfold headBad; omega)]; decide))) | exact ret_i rfl ((meas2 (by unfold headBad; omega) (by omega)).trans (chk_meas (by rw [← meas2 (by unfold headBad; omega) (by omega)]; decide))) | skip
  have hh : ¬ headBad l := by unfold headBad; omega
  have hl : ¬ 32 < l.sizes.length := by omega
  refine aw_loopG (G := Nat) (fun (j : Nat) => j ≤ l.sizes.length ∧ ∀ i (h : i < l.sizes.length), i < j → sizeOk l.sizes[i] = true) (fun (j : Nat) => l.sizes.length - j) (fun (j : Nat) => [(1, .ptr 0 0), (3, A j)]) (fun (j : Nat) => [(0, some (lineB l))]) 1 0 ?_ (by refine weak_mk rfl ?_ ?_ <;> repeat (first | exact envW_nil | exact heapW_nil | refine envW_cons rfl rfl ?_ | refine heapW_cons rfl rfl rfl ?_)) rfl ?_
  · exact ⟨Nat.zero_le _, fun _ _ h => absurd h (Nat.not_lt_zero _)⟩
  rintro j hI
  try dsimp only at hI
  try dsimp only
  obtain ⟨hj, hall⟩ := hI
  by_cases hjl : j < l.sizes.length
  · skip
    repeat' (first
 | ((with_reducible apply aw_seq))
 | ((with_reducible apply aw_region))
 | ((with_reducible apply aw_block))
 | ((with_reducible apply thn_normal))
 | ((with_reducible apply thn_ret))
 | ((with_reducible apply inb_normal))
 | ((with_reducible apply inb_ret))
 | ((with_reducible apply aw_skip))
 | ((with_reducible apply aw_ret))
 | ((with_reducible apply ao_nil))
 | ((with_reducible apply r_move); exact rfl; exact rfl)
 | ((with_reducible apply r_assign); exact rfl; exact rfl)
 | ((with_reducible apply r_field_p); exact rfl; exact rfl)
 | ((with_reducible apply r_load_p); exact rfl; exact rfl; exact rfl; exact rfl)
 | ((with_reducible apply r_lss); exact rfl; exact rfl; exact rfl)
 | ((with_reducible apply r_gtr); exact rfl; exact rfl; exact rfl)
 | ((with_reducible apply r_add); exact rfl; exact rfl; exact (by first | assumption | (unfold fits; omega)); exact rfl)
 | ((with_reducible apply r_pick_t); exact rfl; exact rfl; exact rfl)
 | ((with_reducible apply r_pick_f); exact rfl; exact rfl; exact rfl)
 | ((with_reducible apply r_len_f); exact rfl; exact inferInstance; exact rfl)
 | ((with_reducible apply r_index_f); exact rfl; exact inferInstance; exact rfl; exact rfl; (first | assumption | omega); exact rfl)
 | ((with_reducible apply r_load_f0); exact rfl; exact inferInstance; exact List.getElem?_eq_getElem (by first | assumption | omega); exact rfl; exact rfl)
 | (((with_reducible apply r_guard); exact rfl; exact rfl; exact rfl; exact rfl) <;> intro hg <;> (first | (exact absurd hg (by decide)) | ((try simp only [decide_eq_true_eq, decide_eq_false_iff_not, Bool.not_eq_true', Bool.not_eq_false', Bool.not_true, Bool.not_false, Bool.not_not, Int.not_lt, Int.not_le, Nat.not_lt, Nat.not_le, gt_iff_lt, ge_iff_le, List.cons.injEq, and_true] at hg); first | (exact absurd trivial hg) | (exfalso; omega) | (have hT : True := hg; clear hT hg) | skip)))
 | (((with_reducible apply aw_cond); exact rfl) <;> intro hg <;> (first | (exact absurd hg (by decide)) | ((try simp only [decide_eq_true_eq, decide_eq_false_iff_not, Bool.not_eq_true', Bool.not_eq_false', Bool.not_true, Bool.not_false, Bool.not_not, Int.not_lt, Int.not_le, Nat.not_lt, Nat.not_le, gt_iff_lt, ge_iff_le, List.cons.injEq, and_true] at hg); first | (exact absurd trivial hg) | (exfalso; omega) | (have hT : True := hg; clear hT hg) | skip)))
 )
    · exact ret_i rfl ((meas3 hh hl (j := j) (by omega) (by unfold sizeOk; simp; omega)).trans (chk_meas (by rw [← meas3 hh hl (j := j) (by omega) (by unfold sizeOk; simp; omega)]; decide)))
    · skip
      refine ⟨j + 1, ?_, ?_, by refine weak_mk rfl ?_ ?_ <;> repeat (first | exact envW_nil | exact heapW_nil | refine envW_cons rfl rfl ?_ | refine heapW_cons rfl rfl rfl ?_)⟩
      · omega
      · exact ⟨by omega, step_all (by omega) hall (by unfold sizeOk; simp; omega)⟩
    · exact ret_i rfl ((meas3 hh hl (j := j) (by omega) (by unfold sizeOk; simp; omega)).trans (chk_meas (by rw [← meas3 hh hl (j := j) (by omega) (by unfold sizeOk; simp; omega)]; decide)))
  have hm : measS l = 0 := (meas4 hh hl (fun i hi => hall i hi (by omega))).symm
  obtain ⟨hm1, hm2, hm3⟩ := meas0 hm
  repeat' (first
 | ((with_reducible apply aw_seq))
 | ((with_reducible apply aw_region))
 | ((with_reducible apply aw_block))
 | ((with_reducible apply thn_normal))
 | ((with_reducible apply thn_ret))
 | ((with_reducible apply thn_exit))
 | ((with_reducible apply inb_exit))
 | ((with_reducible apply aw_skip))
 | ((with_reducible apply aw_exit))
 | ((with_reducible apply aw_ret))
 | ((with_reducible apply ao_nil))
 | ((with_reducible apply r_move); exact rfl; exact rfl)
 | ((with_reducible apply r_assign); exact rfl; exact rfl)
 | ((with_reducible apply r_field_p); exact rfl; exact rfl)
 | ((with_reducible apply r_load_p); exact rfl; exact rfl; exact rfl; exact rfl)
 | ((with_reducible apply r_lss); exact rfl; exact rfl; exact rfl)
 | ((with_reducible apply r_neq); exact rfl; exact rfl; exact rfl)
 | ((with_reducible apply r_pick_t); exact rfl; exact rfl; exact rfl)
 | ((with_reducible apply r_pick_f); exact rfl; exact rfl; exact rfl)
 | ((with_reducible apply r_len_f); exact rfl; exact inferInstance; exact rfl)
 | (((with_reducible apply r_guard); exact rfl; exact rfl; exact rfl; exact rfl) <;> intro hg <;> (first | (exact absurd hg (by decide)) | ((try simp only [decide_eq_true_eq, decide_eq_false_iff_not, Bool.not_eq_true', Bool.not_eq_false', Bool.not_true, Bool.not_false, Bool.not_not, Int.not_lt, Int.not_le, Nat.not_lt, Nat.not_le, gt_iff_lt, ge_iff_le, List.cons.injEq, and_true] at hg); first | (exact absurd trivial hg) | (exfalso; omega) | (have hT : True := hg; clear hT hg) | skip)))
 | (((with_reducible apply aw_cond); exact rfl) <;> intro hg <;> (first | (exact absurd hg (by decide)) | ((try simp only [decide_eq_true_eq, decide_eq_false_iff_not, Bool.not_eq_true', Bool.not_eq_false', Bool.not_true, Bool.not_false, Bool.not_not, Int.not_lt, Int.not_le, Nat.not_lt, Nat.not_le, gt_iff_lt, ge_iff_le, List.cons.injEq, and_true] at hg); first | (exact absurd trivial hg) | (exfalso; omega) | (have hT : True := hg; clear hT hg) | skip)))
 )
  all_goals first | exact ret_i rfl (chk_shape hm (fun hs => by have h1 := hs.1; have h2 := hs.2.1; have h3 := hs.2.2.1; omega)) | skip
  have hlen : l.gain.length = l.sizes.length := by omega
  unfold headBad at hh
  refine aw_loopG (G := Nat) (fun (j : Nat) => j ≤ l.gain.length ∧ ∀ i, i < j → rowOk l i) (fun (j : Nat) => l.gain.length - j) (fun (j : Nat) => [(1, .ptr 0 0), (4, A j)]) (fun (j : Nat) => [(0, some (lineB l))]) 1 0 ?_ (by refine weak_mk rfl ?_ ?_ <;> repeat (first | exact envW_nil | exact heapW_nil | refine envW_cons rfl rfl ?_ | refine heapW_cons rfl rfl rfl ?_)) rfl ?_
  · exact ⟨Nat.zero_le _, fun _ h => absurd h (Nat.not_lt_zero _)⟩
  clear hall hjl hj
  rintro j hI
  try dsimp only at hI
  try dsimp only
  obtain ⟨hj, hall⟩ := hI
  by_cases hjl : j < l.gain.length
  · have hz := hm3 j (by omega)
    repeat' (first
 | ((with_reducible apply aw_seq))
 | ((with_reducible apply aw_region))
 | ((with_reducible apply aw_block))
 | ((with_reducible apply thn_normal))
 | ((with_reducible apply thn_ret))
 | ((with_reducible apply inb_normal))
 | ((with_reducible apply inb_ret))
 | ((with_reducible apply aw_skip))
 | ((with_reducible apply aw_ret))
 | ((with_reducible apply ao_nil))
 | ((with_reducible apply r_move); exact rfl; exact rfl)
 | ((with_reducible apply r_assign); exact rfl; exact rfl)
 | ((with_reducible apply r_field_p); exact rfl; exact rfl)
 | ((with_reducible apply r_load_p); exact rfl; exact rfl; exact rfl; exact rfl)
 | ((with_reducible apply r_lss); exact rfl; exact rfl; exact rfl)
 | ((with_reducible apply r_neq); exact rfl; exact rfl; exact rfl)
 | ((with_reducible apply r_add); exact rfl; exact rfl; exact (by first | assumption | (unfold fits; omega)); exact rfl)
 | ((with_reducible apply r_sub); exact rfl; exact rfl; exact (by first | assumption | (unfold fits; omega)); exact rfl)
 | ((with_reducible apply r_max); exact rfl; exact rfl; exact rfl)
 | ((with_reducible apply r_len_f); exact rfl; exact inferInstance; exact rfl)
 | ((with_reducible apply r_index_f); exact rfl; exact inferInstance; exact rfl; exact rfl; (first | assumption | omega); exact rfl)
 | ((with_reducible apply r_load_f0); exact rfl; exact inferInstance; exact List.getElem?_eq_getElem (by first | assumption | omega); exact rfl; exact rfl)
 | (((with_reducible apply aw_cond); exact rfl) <;> intro hg <;> (first | (exact absurd hg (by decide)) | ((try simp only [decide_eq_true_eq, decide_eq_false_iff_not, Bool.not_eq_true', Bool.not_eq_false', Bool.not_true, Bool.not_false, Bool.not_not, Int.not_lt, Int.not_le, Nat.not_lt, Nat.not_le, gt_iff_lt, ge_iff_le, List.cons.injEq, and_true] at hg); first | (exact absurd trivial hg) | (exfalso; omega) | (have hT : True := hg; clear hT hg) | skip)))
 | (refine aw_drawq ?_ ?_; (kernel_rfl))
 | ((with_reducible apply ds_nil))
 )
    · exact ret_i rfl (chk_shape hm (fun hs => hg (hs.2.2.2 j (by omega) hjl (by omega))))
    · skip
      refine ⟨j + 1, ?_, ?_, by refine weak_mk rfl ?_ ?_ <;> repeat (first | exact envW_nil | exact heapW_nil | refine envW_cons rfl rfl ?_ | refine heapW_cons rfl rfl rfl ?_)⟩
      · omega
      · refine ⟨by omega, fun i hi => ?_⟩
        by_cases he : i = j
        · subst he; exact fun _ _ => hg
        · exact hall i (by omega)
  have hs : shapeOk l := ⟨hlen, by omega, by omega, fun i hi => hall i (by omega)⟩
  obtain ⟨q1, q2, q3, q4, q5, q6⟩ := shape_len hm hs
  have hr1 := rsmall_con (gl := gl) l.chip (by omega)
  have hr2 := rsmall_con (gl := gl) l.dust (by omega)
  repeat' (first
 | ((with_reducible apply r_call); exact rfl; exact rfl; (first | exact hr1 | exact hr2); exact rfl; exact rfl)
 | ((with_reducible apply aw_seq))
 | ((with_reducible apply aw_region))
 | ((with_reducible apply aw_block))
 | ((with_reducible apply thn_normal))
 | ((with_reducible apply thn_exit))
 | ((with_reducible apply inb_exit))
 | ((with_reducible apply aw_exit))
 | ((with_reducible apply ao_nil))
 | ((with_reducible apply r_move); exact rfl; exact rfl)
 | ((with_reducible apply r_assign); exact rfl; exact rfl)
 | ((with_reducible apply r_field_p); exact rfl; exact rfl)
 | ((with_reducible apply r_load_p); exact rfl; exact rfl; exact rfl; exact rfl)
 | ((with_reducible apply r_lss); exact rfl; exact rfl; exact rfl)
 | ((with_reducible apply r_pick_t); exact rfl; exact rfl; exact rfl)
 | ((with_reducible apply r_pick_f); exact rfl; exact rfl; exact rfl)
 | ((with_reducible apply r_len_f); exact rfl; exact inferInstance; exact rfl)
 | (((with_reducible apply r_guard); exact rfl; exact rfl; exact rfl; exact rfl) <;> intro hg <;> (first | (exact absurd hg (by decide)) | ((try simp only [decide_eq_true_eq, decide_eq_false_iff_not, Bool.not_eq_true', Bool.not_eq_false', Bool.not_true, Bool.not_false, Bool.not_not, Int.not_lt, Int.not_le, Nat.not_lt, Nat.not_le, gt_iff_lt, ge_iff_le, List.cons.injEq, and_true] at hg); first | (exact absurd trivial hg) | (exfalso; omega) | (have hT : True := hg; clear hT hg) | skip)))
 | (((with_reducible apply aw_cond); exact rfl) <;> intro hg <;> (first | (exact absurd hg (by decide)) | ((try simp only [decide_eq_true_eq, decide_eq_false_iff_not, Bool.not_eq_true', Bool.not_eq_false', Bool.not_true, Bool.not_false, Bool.not_not, Int.not_lt, Int.not_le, Nat.not_lt, Nat.not_le, gt_iff_lt, ge_iff_le, List.cons.injEq, and_true] at hg); first | (exact absurd trivial hg) | (exfalso; omega) | (have hT : True := hg; clear hT hg) | skip)))
 )
  · skip
    refine aw_loopG (G := Nat × Bool) (fun ((j, b) : Nat × Bool) => j ≤ l.gain.length ∧ b = ((smallL l.chip && smallL l.dust) && (l.gain.take j).all smallL)) (fun ((j, b) : Nat × Bool) => l.gain.length - j) (fun ((j, b) : Nat × Bool) => [(1, .ptr 0 0), (5, .c (.v (.bool b))), (6, A j)]) (fun ((j, b) : Nat × Bool) => [(0, some (lineB l))]) 1 (0, smallL l.dust) ?_ (by refine weak_mk rfl ?_ ?_ <;> repeat (first | exact envW_nil | exact heapW_nil | refine envW_cons rfl rfl ?_ | refine heapW_cons rfl rfl rfl ?_)) rfl ?_
    · exact ⟨Nat.zero_le _, by simp_all⟩
    rintro ⟨j, b⟩ hI
    try dsimp only at hI
    try dsimp only
    obtain ⟨hj, hb⟩ := hI
    by_cases hjl : j < l.gain.length
    · have hr3 := rsmall_con (gl := gl) l.gain[j] (by have := q6 j hjl; omega)
      have htk : (l.gain.take (j + 1)).all smallL = ((l.gain.take j).all smallL && smallL l.gain[j]) := by
        rw [List.take_succ_eq_append_getElem hjl, List.all_append]; simp
      repeat' (first
 | ((with_reducible apply r_call); exact rfl; exact rfl; exact hr3; exact rfl; exact rfl)
 | ((with_reducible apply aw_seq))
 | ((with_reducible apply aw_region))
 | ((with_reducible apply aw_block))
 | ((with_reducible apply thn_normal))
 | ((with_reducible apply inb_normal))
 | ((with_reducible apply aw_skip))
 | ((with_reducible apply ao_nil))
 | ((with_reducible apply r_move); exact rfl; exact rfl)
 | ((with_reducible apply r_assign); exact rfl; exact rfl)
 | ((with_reducible apply r_field_p); exact rfl; exact rfl)
 | ((with_reducible apply r_load_p); exact rfl; exact rfl; exact rfl; exact rfl)
 | ((with_reducible apply r_lss); exact rfl; exact rfl; exact rfl)
 | ((with_reducible apply r_add); exact rfl; exact rfl; exact (by first | assumption | (unfold fits; omega)); exact rfl)
 | ((with_reducible apply r_pick_t); exact rfl; exact rfl; exact rfl)
 | ((with_reducible apply r_pick_f); exact rfl; exact rfl; exact rfl)
 | ((with_reducible apply r_len_f); exact rfl; exact inferInstance; exact rfl)
 | ((with_reducible apply r_index_f); exact rfl; exact inferInstance; exact rfl; exact rfl; (first | assumption | omega); exact rfl)
 | ((with_reducible apply r_load_f0); exact rfl; exact inferInstance; exact List.getElem?_eq_getElem (by first | assumption | omega); exact rfl; exact rfl)
 | (((with_reducible apply r_guard); exact rfl; exact rfl; exact rfl; exact rfl) <;> intro hg <;> (first | (exact absurd hg (by decide)) | ((try simp only [decide_eq_true_eq, decide_eq_false_iff_not, Bool.not_eq_true', Bool.not_eq_false', Bool.not_true, Bool.not_false, Bool.not_not, Int.not_lt, Int.not_le, Nat.not_lt, Nat.not_le, gt_iff_lt, ge_iff_le, List.cons.injEq, and_true] at hg); first | (exact absurd trivial hg) | (exfalso; omega) | (have hT : True := hg; clear hT hg) | skip)))
 | (((with_reducible apply aw_cond); exact rfl) <;> intro hg <;> (first | (exact absurd hg (by decide)) | ((try simp only [decide_eq_true_eq, decide_eq_false_iff_not, Bool.not_eq_true', Bool.not_eq_false', Bool.not_true, Bool.not_false, Bool.not_not, Int.not_lt, Int.not_le, Nat.not_lt, Nat.not_le, gt_iff_lt, ge_iff_le, List.cons.injEq, and_true] at hg); first | (exact absurd trivial hg) | (exfalso; omega) | (have hT : True := hg; clear hT hg) | skip)))
 )
      · skip
        refine ⟨(j + 1, smallL l.gain[j]), ?_, ?_, by refine weak_mk rfl ?_ ?_ <;> repeat (first | exact envW_nil | exact heapW_nil | refine envW_cons rfl rfl ?_ | refine heapW_cons rfl rfl rfl ?_)⟩
        · show l.gain.length - (j + 1) < l.gain.length - j; omega
        · exact ⟨by show j + 1 ≤ _; omega, by show _ = _; rw [htk, ← Bool.and_assoc, ← hb]; simp_all⟩
      · skip
        refine ⟨(j + 1, false), ?_, ?_, by refine weak_mk rfl ?_ ?_ <;> repeat (first | exact envW_nil | exact heapW_nil | refine envW_cons rfl rfl ?_ | refine heapW_cons rfl rfl rfl ?_)⟩
        · show l.gain.length - (j + 1) < l.gain.length - j; omega
        · exact ⟨by show j + 1 ≤ _; omega, by show _ = _; rw [htk, ← Bool.and_assoc, ← hb]; simp_all⟩
    · have he : (l.gain.take j).all smallL = l.gain.all smallL := by rw [List.take_of_length_le (by omega)]
      rw [he] at hb
      have hc := chk_small hm hs b (by rw [hb]; cases smallL l.chip <;> cases smallL l.dust <;> simp)
      repeat' (first
 | ((with_reducible apply aw_seq))
 | ((with_reducible apply aw_region))
 | ((with_reducible apply thn_normal))
 | ((with_reducible apply thn_ret))
 | ((with_reducible apply thn_exit))
 | ((with_reducible apply inb_exit))
 | ((with_reducible apply aw_skip))
 | ((with_reducible apply aw_exit))
 | ((with_reducible apply aw_ret))
 | ((with_reducible apply ao_nil))
 | ((with_reducible apply r_move); exact rfl; exact rfl)
 | ((with_reducible apply r_assign); exact rfl; exact rfl)
 | ((with_reducible apply r_field_p); exact rfl; exact rfl)
 | ((with_reducible apply r_load_p); exact rfl; exact rfl; exact rfl; exact rfl)
 | ((with_reducible apply r_lss); exact rfl; exact rfl; exact rfl)
 | ((with_reducible apply r_not); exact rfl; exact rfl)
 | ((with_reducible apply r_len_f); exact rfl; exact inferInstance; exact rfl)
 | (((with_reducible apply aw_cond); exact rfl) <;> intro hg <;> (first | (exact absurd hg (by decide)) | ((try simp only [decide_eq_true_eq, decide_eq_false_iff_not, Bool.not_eq_true', Bool.not_eq_false', Bool.not_true, Bool.not_false, Bool.not_not, Int.not_lt, Int.not_le, Nat.not_lt, Nat.not_le, gt_iff_lt, ge_iff_le, List.cons.injEq, and_true] at hg); first | (exact absurd trivial hg) | (exfalso; omega) | (have hT : True := hg; clear hT hg) | skip)))
 )
      · exact ret_i rfl (by rw [← hc]; simp_all)
      · exact ret_i rfl (by rw [← hc]; simp_all)
  · skip
    refine aw_loopG (G := Nat × Bool) (fun ((j, b) : Nat × Bool) => j ≤ l.gain.length ∧ b = ((smallL l.chip && smallL l.dust) && (l.gain.take j).all smallL)) (fun ((j, b) : Nat × Bool) => l.gain.length - j) (fun ((j, b) : Nat × Bool) => [(1, .ptr 0 0), (5, .c (.v (.bool b))), (6, A j)]) (fun ((j, b) : Nat × Bool) => [(0, some (lineB l))]) 1 (0, false) ?_ (by refine weak_mk rfl ?_ ?_ <;> repeat (first | exact envW_nil | exact heapW_nil | refine envW_cons rfl rfl ?_ | refine heapW_cons rfl rfl rfl ?_)) rfl ?_
    · exact ⟨Nat.zero_le _, by simp_all⟩
    rintro ⟨j, b⟩ hI
    try dsimp only at hI
    try dsimp only
    obtain ⟨hj, hb⟩ := hI
    by_cases hjl : j < l.gain.length
    · have hr3 := rsmall_con (gl := gl) l.gain[j] (by have := q6 j hjl; omega)
      have htk : (l.gain.take (j + 1)).all smallL = ((l.gain.take j).all smallL && smallL l.gain[j]) := by
        rw [List.take_succ_eq_append_getElem hjl, List.all_append]; simp
      repeat' (first
 | ((with_reducible apply r_call); exact rfl; exact rfl; exact hr3; exact rfl; exact rfl)
 | ((with_reducible apply aw_seq))
 | ((with_reducible apply aw_region))
 | ((with_reducible apply aw_block))
 | ((with_reducible apply thn_normal))
 | ((with_reducible apply inb_normal))
 | ((with_reducible apply aw_skip))
 | ((with_reducible apply ao_nil))
 | ((with_reducible apply r_move); exact rfl; exact rfl)
 | ((with_reducible apply r_assign); exact rfl; exact rfl)
 | ((with_reducible apply r_field_p); exact rfl; exact rfl)
 | ((with_reducible apply r_load_p); exact rfl; exact rfl; exact rfl; exact rfl)
 | ((with_reducible apply r_lss); exact rfl; exact rfl; exact rfl)
 | ((with_reducible apply r_add); exact rfl; exact rfl; exact (by first | assumption | (unfold fits; omega)); exact rfl)
 | ((with_reducible apply r_pick_t); exact rfl; exact rfl; exact rfl)
 | ((with_reducible apply r_pick_f); exact rfl; exact rfl; exact rfl)
 | ((with_reducible apply r_len_f); exact rfl; exact inferInstance; exact rfl)
 | ((with_reducible apply r_index_f); exact rfl; exact inferInstance; exact rfl; exact rfl; (first | assumption | omega); exact rfl)
 | ((with_reducible apply r_load_f0); exact rfl; exact inferInstance; exact List.getElem?_eq_getElem (by first | assumption | omega); exact rfl; exact rfl)
 | (((with_reducible apply r_guard); exact rfl; exact rfl; exact rfl; exact rfl) <;> intro hg <;> (first | (exact absurd hg (by decide)) | ((try simp only [decide_eq_true_eq, decide_eq_false_iff_not, Bool.not_eq_true', Bool.not_eq_false', Bool.not_true, Bool.not_false, Bool.not_not, Int.not_lt, Int.not_le, Nat.not_lt, Nat.not_le, gt_iff_lt, ge_iff_le, List.cons.injEq, and_true] at hg); first | (exact absurd trivial hg) | (exfalso; omega) | (have hT : True := hg; clear hT hg) | skip)))
 | (((with_reducible apply aw_cond); exact rfl) <;> intro hg <;> (first | (exact absurd hg (by decide)) | ((try simp only [decide_eq_true_eq, decide_eq_false_iff_not, Bool.not_eq_true', Bool.not_eq_false', Bool.not_true, Bool.not_false, Bool.not_not, Int.not_lt, Int.not_le, Nat.not_lt, Nat.not_le, gt_iff_lt, ge_iff_le, List.cons.injEq, and_true] at hg); first | (exact absurd trivial hg) | (exfalso; omega) | (have hT : True := hg; clear hT hg) | skip)))
 )
      · skip
        refine ⟨(j + 1, smallL l.gain[j]), ?_, ?_, by refine weak_mk rfl ?_ ?_ <;> repeat (first | exact envW_nil | exact heapW_nil | refine envW_cons rfl rfl ?_ | refine heapW_cons rfl rfl rfl ?_)⟩
        · show l.gain.length - (j + 1) < l.gain.length - j; omega
        · exact ⟨by show j + 1 ≤ _; omega, by show _ = _; rw [htk, ← Bool.and_assoc, ← hb]; simp_all⟩
      · skip
        refine ⟨(j + 1, false), ?_, ?_, by refine weak_mk rfl ?_ ?_ <;> repeat (first | exact envW_nil | exact heapW_nil | refine envW_cons rfl rfl ?_ | refine heapW_cons rfl rfl rfl ?_)⟩
        · show l.gain.length - (j + 1) < l.gain.length - j; omega
        · exact ⟨by show j + 1 ≤ _; omega, by show _ = _; rw [htk, ← Bool.and_assoc, ← hb]; simp_all⟩
    · have he : (l.gain.take j).all smallL = l.gain.all smallL := by rw [List.take_of_length_le (by omega)]
      rw [he] at hb
      have hc := chk_small hm hs b (by rw [hb]; cases smallL l.chip <;> cases smallL l.dust <;> simp)
      repeat' (first
 | ((with_reducible apply aw_seq))
 | ((with_reducible apply aw_region))
 | ((with_reducible apply thn_normal))
 | ((with_reducible apply thn_ret))
 | ((with_reducible apply thn_exit))
 | ((with_reducible apply inb_exit))
 | ((with_reducible apply aw_skip))
 | ((with_reducible apply aw_exit))
 | ((with_reducible apply aw_ret))
 | ((with_reducible apply ao_nil))
 | ((with_reducible apply r_move); exact rfl; exact rfl)
 | ((with_reducible apply r_assign); exact rfl; exact rfl)
 | ((with_reducible apply r_field_p); exact rfl; exact rfl)
 | ((with_reducible apply r_load_p); exact rfl; exact rfl; exact rfl; exact rfl)
 | ((with_reducible apply r_lss); exact rfl; exact rfl; exact rfl)
 | ((with_reducible apply r_not); exact rfl; exact rfl)
 | ((with_reducible apply r_len_f); exact rfl; exact inferInstance; exact rfl)
 | (((with_reducible apply aw_cond); exact rfl) <;> intro hg <;> (first | (exact absurd hg (by decide)) | ((try simp only [decide_eq_true_eq, decide_eq_false_iff_not, Bool.not_eq_true', Bool.not_eq_false', Bool.not_true, Bool.not_false, Bool.not_not, Int.not_lt, Int.not_le, Nat.not_lt, Nat.not_le, gt_iff_lt, ge_iff_le, List.cons.injEq, and_true] at hg); first | (exact absurd trivial hg) | (exfalso; omega) | (have hT : True := hg; clear hT hg) | skip)))
 )
      · exact ret_i rfl (by rw [← hc]; simp_all)
      · exact ret_i rfl (by rw [← hc]; simp_all)
end Go.Proofs.YtkhljpbkebnnmaaGreatDoor.Cu
/- Walks of cutting: permitted, add. -/
namespace Go.Proofs.YtkhljpbkebnnmaaGreatDoor.Cu
set_option linter.unusedVariables false
set_option linter.unusedSimpArgs false
open Go.RowKit Go.Proofs.YtkhljpbkebnnmaaGreatDoor.Ev
variable {gl : List (Nat × List CV)}
abbrev Span := Int × Int
abbrev Piece := Int × Int
def spC (s : Span) : List CV := [I s.1, I s.2]
instance : EncL spC 2 := ⟨fun _ => rfl, by decide, fun _ => rfl⟩
abbrev LS (l : List Span) : CV := .lst 2 (l.flatMap spC)
def szOf (l : Line) (s : Int) : Int := l.sizes.getD s.toNat 0
def gOf (l : Line) (s p : Int) : Int := (l.gain.getD s.toNat []).getD p.toNat 0
def perm (l : Line) (edge : Int) (x : Piece) : Int :=
  if x.1 < 0 ∨ (l.sizes.length : Int) ≤ x.1 then 9
  else if x.2 < 0 ∨ l.len - szOf l x.1 < x.2 then 20
  else if edge < 0 ∨ (x.2 ≠ edge ∧ (x.2 - l.kerf - edge < l.pitch ∨ (x.2 - l.kerf - edge).tmod l.pitch ≠ 0)) then 11
  else if gOf l x.1 x.2 < 0 then 14 else 0
structure Valid (l : Line) : Prop where
  len : 0 ≤ l.len ∧ l.len ≤ 2000
  kerf : 0 ≤ l.kerf ∧ l.kerf ≤ 20
  pitch : 1 ≤ l.pitch ∧ l.pitch ≤ 2000
  sizes : l.sizes.length ≤ 32
  size : ∀ i (h : i < l.sizes.length), 1 ≤ l.sizes[i] ∧ l.sizes[i] ≤ 2000
  gain : l.gain.length = l.sizes.length
  chip : (l.chip.length : Int) = l.len
  dust : (l.dust.length : Int) = l.len
  row : ∀ i (h : i < l.gain.length) (h2 : i < l.sizes.length), (l.gain[i].length : Int) = max 0 (l.len - l.sizes[i] + 1)
  gains : ∀ i (h : i < l.gain.length) j (h2 : j < l.gain[i].length), -1125899906842624 ≤ l.gain[i][j] ∧ l.gain[i][j] ≤ 1125899906842624
  chips : ∀ i (h : i < l.chip.length), -1125899906842624 ≤ l.chip[i] ∧ l.chip[i] ≤ 1125899906842624
  dusts : ∀ i (h : i < l.dust.length), -1125899906842624 ≤ l.dust[i] ∧ l.dust[i] ≤ 1125899906842624
theorem small_get {l : List Int} (h : smallL l = true) (i : Nat) (hi : i < l.length) : -1125899906842624 ≤ l[i] ∧ l[i] ≤ 1125899906842624 := by
  have := List.all_eq_true.1 h _ (List.getElem_mem hi)
  unfold smallN at this; simpa using this
theorem valid_of {l : Line} (h : chk l = 0) : Valid l := by
  have hm : measS l = 0 := Classical.byContradiction fun hc => by rw [← chk_meas hc] at h; exact hc h
  have hs : shapeOk l := Classical.byContradiction fun hc => by rw [← chk_shape hm hc] at h; cases h
  have hb := chk_small hm hs _ rfl
  rw [h] at hb
  have hb' : (l.gain.all smallL && smallL l.chip && smallL l.dust) = true := by
    cases hq : (l.gain.all smallL && smallL l.chip && smallL l.dust) with
    | true => rfl
    | false => rw [hq] at hb; simp at hb
  simp only [Bool.and_eq_true] at hb'
  obtain ⟨⟨b1, b2⟩, b3⟩ := hb'
  obtain ⟨h1, h2, h3⟩ := meas0 hm
  unfold headBad at h1
  obtain ⟨s1, s2, s3, s4⟩ := hs
  exact ⟨by omega, by omega, by omega, h2, h3, s1, s2, s3, fun i hi hi2 => s4 i hi2 hi hi2, fun i hi j hj => small_get (List.all_eq_true.1 b1 _ (List.getElem_mem hi)) j hj, small_get b2, small_get b3⟩
theorem szOf_eq {l : Line} {s : Int} (h0 : 0 ≤ s) (h : s < l.sizes.length) : ∃ k : Nat, s = (k : Int) ∧ ∃ hk : k < l.sizes.length, szOf l s = l.sizes[k] := by
  refine ⟨s.toNat, by omega, by omega, ?_⟩
  unfold szOf
  rw [List.getD_eq_getElem?_getD, List.getElem?_eq_getElem (by omega)]; rfl
theorem gOf_eq {l : Line} (v : Valid l) {k : Nat} (hk : k < l.sizes.length) {p : Int} (h0 : 0 ≤ p) (h1 : p ≤ l.len - l.sizes[k]) : ∃ j : Nat, p = (j : Int) ∧ ∃ (h2 : k < l.gain.length) (h3 : j < l.gain[k].length), gOf l k p = l.gain[k][j] := by
  have hg := v.gain
  have hr := v.row k (by omega) hk
  refine ⟨p.toNat, by omega, by omega, by omega, ?_⟩
  unfold gOf
  rw [Int.toNat_natCast, List.getD_eq_getElem?_getD, List.getD_eq_getElem?_getD, List.getElem?_eq_getElem (by omega : k < l.gain.length)]
  simp only [Option.getD_some]
  rw [List.getElem?_eq_getElem (by omega)]; rfl
theorem perm9 {l : Line} {e : Int} {s p : Int} (h : s < 0 ∨ (l.sizes.length : Int) ≤ s) : 9 = perm l e (s, p) := by unfold perm; rw [if_pos h]
theorem perm20 {l : Line} {e : Int} {s p : Int} (h : ¬ (s < 0 ∨ (l.sizes.length : Int) ≤ s)) (h2 : p < 0 ∨ l.len - szOf l s < p) : 20 = perm l e (s, p) := by unfold perm; rw [if_neg h, if_pos h2]
theorem perm11 {l : Line} {e : Int} {s p : Int} (h : ¬ (s < 0 ∨ (l.sizes.length : Int) ≤ s)) (h2 : ¬ (p < 0 ∨ l.len - szOf l s < p)) (h3 : e < 0 ∨ (p ≠ e ∧ (p - l.kerf - e < l.pitch ∨ (p - l.kerf - e).tmod l.pitch ≠ 0))) : 11 = perm l e (s, p) := by unfold perm; rw [if_neg h, if_neg h2, if_pos h3]
theorem perm_g {l : Line} {e : Int} {s p : Int} (h : ¬ (s < 0 ∨ (l.sizes.length : Int) ≤ s)) (h2 : ¬ (p < 0 ∨ l.len - szOf l s < p)) (h3 : ¬ (e < 0 ∨ (p ≠ e ∧ (p - l.kerf - e < l.pitch ∨ (p - l.kerf - e).tmod l.pitch ≠ 0)))) : (if gOf l s p < 0 then 14 else 0) = perm l e (s, p) := by unfold perm; rw [if_neg h, if_neg h2, if_neg h3]
theorem permitted_con (l : Line) (v : Valid l) (e : Int) (he : -1 ≤ e ∧ e ≤ 2000) (s p : Int) : Con Tryz.prog gl 67 [lineC l, I e, .agg [I s, I p]] (I (perm l e (s, p))) := by
  obtain ⟨l1, l2⟩ := v.len
  obtain ⟨k1, k2⟩ := v.kerf
  obtain ⟨p1, p2⟩ := v.pitch
  by_cases h : s < 0 ∨ (l.sizes.length : Int) ≤ s
  · skip
    refine con_of Tryz.func67 rfl (by kernel_rfl) rfl ?_
    simp only [Tryz.ntmps67, Tryz.results67, argEnv, ofC, of1, List.map, lineC, lineL]
    repeat' (first
 | ((with_reducible apply aw_seq))
 | ((with_reducible apply aw_region))
 | ((with_reducible apply thn_normal))
 | ((with_reducible apply thn_ret))
 | ((with_reducible apply aw_ret))
 | ((with_reducible apply ao_nil))
 | ((with_reducible apply r_move); exact rfl; exact rfl)
 | ((with_reducible apply r_assign); exact rfl; exact rfl)
 | ((with_reducible apply r_field_p); exact rfl; exact rfl)
 | ((with_reducible apply r_load_p); exact rfl; exact rfl; exact rfl; exact rfl)
 | ((with_reducible apply r_lss); exact rfl; exact rfl; exact rfl)
 | ((with_reducible apply r_geq); exact rfl; exact rfl; exact rfl)
 | ((with_reducible apply r_box_a); exact rfl; exact rfl)
 | ((with_reducible apply r_pick_t); exact rfl; exact rfl; exact rfl)
 | ((with_reducible apply r_pick_f); exact rfl; exact rfl; exact rfl)
 | ((with_reducible apply r_len_f); exact rfl; exact inferInstance; exact rfl)
 | (((with_reducible apply r_guard); exact rfl; exact rfl; exact rfl; exact rfl) <;> intro hg <;> (first | (exact absurd hg (by decide)) | ((try simp only [decide_eq_true_eq, decide_eq_false_iff_not, Bool.not_eq_true', Bool.not_eq_false', Bool.not_true, Bool.not_false, Bool.not_not, Int.not_lt, Int.not_le, Nat.not_lt, Nat.not_le, gt_iff_lt, ge_iff_le, List.cons.injEq, and_true] at hg); first | (exact absurd trivial hg) | (exfalso; omega) | (have hT : True := hg; clear hT hg) | skip)))
 | (((with_reducible apply aw_cond); exact rfl) <;> intro hg <;> (first | (exact absurd hg (by decide)) | ((try simp only [decide_eq_true_eq, decide_eq_false_iff_not, Bool.not_eq_true', Bool.not_eq_false', Bool.not_true, Bool.not_false, Bool.not_not, Int.not_lt, Int.not_le, Nat.not_lt, Nat.not_le, gt_iff_lt, ge_iff_le, List.cons.injEq, and_true] at hg); first | (exact absurd trivial hg) | (exfalso; omega) | (have hT : True := hg; clear hT hg) | skip)))
 )
    all_goals exact ret_i rfl (perm9 h)
  obtain ⟨k, rfl, hk, hsz⟩ := szOf_eq (l := l) (s := s) (by omega) (by omega)
  have hsk := v.size k hk
  by_cases h2 : p < 0 ∨ l.len - l.sizes[k] < p
  · skip
    refine con_of Tryz.func67 rfl (by kernel_rfl) rfl ?_
    simp only [Tryz.ntmps67, Tryz.results67, argEnv, ofC, of1, List.map, lineC, lineL]
    repeat' (first
 | ((with_reducible apply aw_seq))
 | ((with_reducible apply aw_region))
 | ((with_reducible apply thn_normal))
 | ((with_reducible apply thn_ret))
 | ((with_reducible apply aw_skip))
 | ((with_reducible apply aw_ret))
 | ((with_reducible apply ao_nil))
 | ((with_reducible apply r_move); exact rfl; exact rfl)
 | ((with_reducible apply r_assign); exact rfl; exact rfl)
 | ((with_reducible apply r_field_p); exact rfl; exact rfl)
 | ((with_reducible apply r_load_p); exact rfl; exact rfl; exact rfl; exact rfl)
 | ((with_reducible apply r_lss); exact rfl; exact rfl; exact rfl)
 | ((with_reducible apply r_gtr); exact rfl; exact rfl; exact rfl)
 | ((with_reducible apply r_geq); exact rfl; exact rfl; exact rfl)
 | ((with_reducible apply r_sub); exact rfl; exact rfl; exact (by first | assumption | (unfold fits; omega)); exact rfl)
 | ((with_reducible apply r_box_a); exact rfl; exact rfl)
 | ((with_reducible apply r_pick_t); exact rfl; exact rfl; exact rfl)
 | ((with_reducible apply r_pick_f); exact rfl; exact rfl; exact rfl)
 | ((with_reducible apply r_len_f); exact rfl; exact inferInstance; exact rfl)
 | ((with_reducible apply r_index_f); exact rfl; exact inferInstance; exact rfl; exact rfl; (first | assumption | omega); exact rfl)
 | ((with_reducible apply r_load_f0); exact rfl; exact inferInstance; exact List.getElem?_eq_getElem (by first | assumption | omega); exact rfl; exact rfl)
 | (((with_reducible apply r_guard); exact rfl; exact rfl; exact rfl; exact rfl) <;> intro hg <;> (first | (exact absurd hg (by decide)) | ((try simp only [decide_eq_true_eq, decide_eq_false_iff_not, Bool.not_eq_true', Bool.not_eq_false', Bool.not_true, Bool.not_false, Bool.not_not, Int.not_lt, Int.not_le, Nat.not_lt, Nat.not_le, gt_iff_lt, ge_iff_le, List.cons.injEq, and_true] at hg); first | (exact absurd trivial hg) | (exfalso; omega) | (have hT : True := hg; clear hT hg) | skip)))
 | (((with_reducible apply aw_cond); exact rfl) <;> intro hg <;> (first | (exact absurd hg (by decide)) | ((try simp only [decide_eq_true_eq, decide_eq_false_iff_not, Bool.not_eq_true', Bool.not_eq_false', Bool.not_true, Bool.not_false, Bool.not_not, Int.not_lt, Int.not_le, Nat.not_lt, Nat.not_le, gt_iff_lt, ge_iff_le, List.cons.injEq, and_true] at hg); first | (exact absurd trivial hg) | (exfalso; omega) | (have hT : True := hg; clear hT hg) | skip)))
 | (refine aw_drawq ?_ ?_; (kernel_rfl))
 | ((with_reducible apply ds_nil))
 | (((with_reducible apply rd_guard); exact rfl; exact rfl; exact rfl) <;> intro hg <;> (first | (exact absurd hg (by decide)) | ((try rw [hg]); (try simp only [decide_eq_true_eq, decide_eq_false_iff_not, Bool.not_eq_true', Bool.not_eq_false', Bool.not_true, Bool.not_false, Bool.not_not, Int.not_lt, Int.not_le, Nat.not_lt, Nat.not_le, gt_iff_lt, ge_iff_le, List.cons.injEq, and_true] at hg); first | (exact absurd trivial hg) | (exfalso; omega) | (have hT : True := hg; clear hT hg) | skip)))
 )
    all_goals exact ret_i rfl (perm20 h (by rw [hsz]; exact h2))
  obtain ⟨j, rfl, hg1, hg2, hgo⟩ := gOf_eq v hk (p := p) (by omega) (by omega)
  have h2' : ¬ ((j : Int) < 0 ∨ l.len - szOf l (k : Int) < (j : Int)) := by rw [hsz]; exact h2
  refine con_of Tryz.func67 rfl (by kernel_rfl) rfl ?_
  simp only [Tryz.ntmps67, Tryz.results67, argEnv, ofC, of1, List.map, lineC, lineL]
  repeat' (first
 | ((with_reducible apply r_rem); exact rfl; exact rfl; exact (by omega); exact rfl)
 | ((with_reducible apply aw_seq))
 | ((with_reducible apply aw_region))
 | ((with_reducible apply thn_normal))
 | ((with_reducible apply thn_ret))
 | ((with_reducible apply aw_skip))
 | ((with_reducible apply aw_ret))
 | ((with_reducible apply ao_nil))
 | ((with_reducible apply r_move); exact rfl; exact rfl)
 | ((with_reducible apply r_assign); exact rfl; exact rfl)
 | ((with_reducible apply r_field_p); exact rfl; exact rfl)
 | ((with_reducible apply r_load_p); exact rfl; exact rfl; exact rfl; exact rfl)
 | ((with_reducible apply r_lss); exact rfl; exact rfl; exact rfl)
 | ((with_reducible apply r_gtr); exact rfl; exact rfl; exact rfl)
 | ((with_reducible apply r_geq); exact rfl; exact rfl; exact rfl)
 | ((with_reducible apply r_neq); exact rfl; exact rfl; exact rfl)
 | ((with_reducible apply r_sub); exact rfl; exact rfl; exact (by first | assumption | (unfold fits; omega)); exact rfl)
 | ((with_reducible apply r_box_a); exact rfl; exact rfl)
 | ((with_reducible apply r_pick_t); exact rfl; exact rfl; exact rfl)
 | ((with_reducible apply r_pick_f); exact rfl; exact rfl; exact rfl)
 | ((with_reducible apply r_len_f); exact rfl; exact inferInstance; exact rfl)
 | ((with_reducible apply r_index_f); exact rfl; exact inferInstance; exact rfl; exact rfl; (first | assumption | omega); exact rfl)
 | ((with_reducible apply r_load_f0); exact rfl; exact inferInstance; exact List.getElem?_eq_getElem (by first | assumption | omega); exact rfl; exact rfl)
 | (((with_reducible apply r_guard); exact rfl; exact rfl; exact rfl; exact rfl) <;> intro hg <;> (first | (exact absurd hg (by decide)) | ((try simp only [decide_eq_true_eq, decide_eq_false_iff_not, Bool.not_eq_true', Bool.not_eq_false', Bool.not_true, Bool.not_false, Bool.not_not, Int.not_lt, Int.not_le, Nat.not_lt, Nat.not_le, gt_iff_lt, ge_iff_le, List.cons.injEq, and_true] at hg); first | (exact absurd trivial hg) | (exfalso; omega) | (have hT : True := hg; clear hT hg) | skip)))
 | ((with_reducible apply r_guard_none); exact rfl; exact rfl; exact rfl; exact rfl)
 | (((with_reducible apply aw_cond); exact rfl) <;> intro hg <;> (first | (exact absurd hg (by decide)) | ((try simp only [decide_eq_true_eq, decide_eq_false_iff_not, Bool.not_eq_true', Bool.not_eq_false', Bool.not_true, Bool.not_false, Bool.not_not, Int.not_lt, Int.not_le, Nat.not_lt, Nat.not_le, gt_iff_lt, ge_iff_le, List.cons.injEq, and_true] at hg); first | (exact absurd trivial hg) | (exfalso; omega) | (have hT : True := hg; clear hT hg) | skip)))
 | (refine aw_drawq ?_ ?_; (kernel_rfl))
 | ((with_reducible apply ds_nil))
 | (((with_reducible apply rd_guard); exact rfl; exact rfl; exact rfl) <;> intro hg <;> (first | (exact absurd hg (by decide)) | ((try rw [hg]); (try simp only [decide_eq_true_eq, decide_eq_false_iff_not, Bool.not_eq_true', Bool.not_eq_false', Bool.not_true, Bool.not_false, Bool.not_not, Int.not_lt, Int.not_le, Nat.not_lt, Nat.not_le, gt_iff_lt, ge_iff_le, List.cons.injEq, and_true] at hg); first | (exact absurd trivial hg) | (exfalso; omega) | (have hT : True := hg; clear hT hg) | skip)))
 )
  all_goals first
    | exact ret_i rfl (perm11 h h2' (by generalize ((j : Int) - l.kerf - e).tmod l.pitch = tm at *; omega))
    | exact ret_i rfl (by rw [← perm_g h h2' (by generalize ((j : Int) - l.kerf - e).tmod l.pitch = tm at *; omega), hgo, if_pos (by omega)])
    | exact ret_i rfl (by rw [← perm_g h h2' (by generalize ((j : Int) - l.kerf - e).tmod l.pitch = tm at *; omega), hgo, if_neg (by omega)])
def addS (l : List Span) (a b : Int) : List Span := if b ≤ a then l else l ++ [(a, b)]
theorem fewer_push {heap : List (Nat × Option AB)} {nx b E s : Nat} {l : List CV} {x : AB} (hb : b < nx) : Fewer heap nx ((b, some (.vec E s l)) :: (nx, some x) :: heap) ((b, some (.vec E s l)) :: heap) := by
  refine ⟨fun i hi => ?_, fun i hi => ?_, fun i t l' h => ?_⟩
  · simp only [look_cons]; by_cases h1 : b = i
    · rw [if_pos h1, if_pos h1]
    · rw [if_neg h1, if_neg h1, if_neg (by omega)]
  · simp only [look_cons]; rw [if_neg (by omega)]
  · rw [look_cons] at h; by_cases h1 : b = i
    · rw [if_pos h1] at h; cases h
    · rw [if_neg h1] at h; exact h
theorem fewer_same {heap : List (Nat × Option AB)} {nx b E s : Nat} {l : List CV} (hb : b < nx) (h : Ev.look b heap = some (some (.vec E s l))) : Fewer heap nx heap ((b, some (.vec E s l)) :: heap) := by
  refine ⟨fun i hi => ?_, fun i hi => ?_, fun i t l' h' => ?_⟩
  · rw [look_cons]; by_cases h1 : b = i
    · rw [if_pos h1, ← h1, h]
    · rw [if_neg h1]
  · rw [look_cons, if_neg (by omega)]
  · rw [look_cons] at h'; by_cases h1 : b = i
    · rw [if_pos h1] at h'; cases h'
    · rw [if_neg h1] at h'; exact h'
section
variable {ops : Array Oper} {Q : Exit → St → Prop} {rest : List Oper} {d : Nat} {ty : TypeId} {pos : String} {af : Array Edge} {n : Nat} {env : List (Nat × AV)} {heap : List (Nat × Option AB)} {nx : Nat} {tys : Array TypeId}
theorem add_in {x0 x1 x2 : Operand} {b m : Nat} {a a' : Int} (l : List Span) (hys : evs ⟨n, env, heap, nx, gl⟩ [x0, x1, x2] = some [.vec b m, A a, A a']) (hH : Ev.look b heap = some (some (.vec 68 2 (l.flatMap spC)))) (hm : l.length = m) (hb : m < 1000000) (hlt : Nat.blt b nx = true) (hd : Nat.blt d n = true)
    (h : AOps Tryz.prog ops Q rest ⟨n, (d, .vec b (addS l a a').length) :: env, (b, some (.vec 68 2 ((addS l a a').flatMap spC))) :: heap, nx, gl⟩) : AOps Tryz.prog ops Q (⟨some d, .call ⟨.value (.func 68), #[x0, x1, x2], tys⟩, ty, pos, af, none⟩ :: rest) ⟨n, env, heap, nx, gl⟩ := by
  have hlt' := blt_true hlt
  refine r_inW Tryz.func68 rfl Tryz.results68 (by kernel_rfl) Tryz.ntmps68 hys rfl rfl hd ?_
  have hH' : St.H ⟨17, env, heap, nx, gl⟩ b = some (.vec 68 2 (l.flatMap spC)) := by unfold St.H; rw [hH]
  by_cases hc : a' ≤ a
  · have e : addS l a a' = l := by unfold addS; rw [if_pos hc]
    rw [e] at h
    repeat' (first
 | ((with_reducible apply aw_seq))
 | ((with_reducible apply aw_region))
 | ((with_reducible apply thn_normal))
 | ((with_reducible apply thn_ret))
 | ((with_reducible apply aw_ret))
 | ((with_reducible apply ao_nil))
 | ((with_reducible apply r_move); exact rfl; exact rfl)
 | ((with_reducible apply r_assign); exact rfl; exact rfl)
 | ((with_reducible apply r_geq); exact rfl; exact rfl; exact rfl)
 | (((with_reducible apply aw_cond); exact rfl) <;> intro hg <;> (first | (exact absurd hg (by decide)) | ((try simp only [decide_eq_true_eq, decide_eq_false_iff_not, Bool.not_eq_true', Bool.not_eq_false', Bool.not_true, Bool.not_false, Bool.not_not, Int.not_lt, Int.not_le, Nat.not_lt, Nat.not_le, gt_iff_lt, ge_iff_le, List.cons.injEq, and_true] at hg); first | (exact absurd trivial hg) | (exfalso; omega) | (have hT : True := hg; clear hT hg) | skip)))
 )
    refine back_ret rfl ⟨_, Nat.le_refl _, fewer_same hlt' hH, hlt, ?_⟩
    rw [hm] at h; exact h
  · have e : addS l a a' = l ++ [(a, a')] := by unfold addS; rw [if_neg hc]
    rw [e] at h
    repeat' (first
 | ((with_reducible apply (r_push (x0 := (a, a')))); exact rfl; exact (by unfold St.H; dsimp only; rw [look_cons, if_neg (by omega), hH]); exact inferInstance; exact hm; exact rfl; exact (by unfold St.H; dsimp only; rw [look_cons, if_pos rfl]); exact rfl; exact (by omega); exact (by omega); exact rfl)
 | ((with_reducible apply aw_seq))
 | ((with_reducible apply aw_region))
 | ((with_reducible apply thn_normal))
 | ((with_reducible apply aw_skip))
 | ((with_reducible apply aw_ret))
 | ((with_reducible apply ao_nil))
 | ((with_reducible apply r_move); exact rfl; exact rfl)
 | ((with_reducible apply r_assign); exact rfl; exact rfl)
 | ((with_reducible apply r_geq); exact rfl; exact rfl; exact rfl)
 | ((with_reducible apply r_build); exact rfl; exact rfl; exact rfl)
 | (((with_reducible apply aw_cond); exact rfl) <;> intro hg <;> (first | (exact absurd hg (by decide)) | ((try simp only [decide_eq_true_eq, decide_eq_false_iff_not, Bool.not_eq_true', Bool.not_eq_false', Bool.not_true, Bool.not_false, Bool.not_not, Int.not_lt, Int.not_le, Nat.not_lt, Nat.not_le, gt_iff_lt, ge_iff_le, List.cons.injEq, and_true] at hg); first | (exact absurd trivial hg) | (exfalso; omega) | (have hT : True := hg; clear hT hg) | skip)))
 | ((with_reducible apply r_lit); exact rfl; exact rfl; exact rfl; exact rfl; exact rfl; exact rfl; exact rfl)
 )
    refine back_ret rfl ⟨_, Nat.le_succ _, fewer_push hlt', hlt, ?_⟩
    rw [List.length_append, hm] at h; exact h
end
end Go.Proofs.YtkhljpbkebnnmaaGreatDoor.Cu
/- Walks of cutting: Cuts in both. -/
namespace Go.Proofs.YtkhljpbkebnnmaaGreatDoor.Cu
set_option linter.unusedVariables false
set_option linter.unusedSimpArgs false
open Go.RowKit Go.Proofs.YtkhljpbkebnnmaaGreatDoor.Ev
variable {gl : List (Nat × List CV)}
def pcC (x : Piece) : List CV := [I x.1, I x.2]
instance : EncL pcC 2 := ⟨fun _ => rfl, by decide, fun _ => rfl⟩
abbrev LP (l : List Piece) : CV := .lst 2 (l.flatMap pcC)
theorem addS_len (l : List Span) (a b : Int) : (addS l a b).length ≤ l.length + 1 := by unfold addS; split <;> simp
abbrev CutR := Int × List Span × List Span
def cutsGo (l : Line) : List Piece → Int → List Span → List Span → CutR
  | [], e, d, c => (0, d, if 0 ≤ e then addS c e l.len else c)
  | x :: xs, e, d, c =>
    if perm l e x ≠ 0 then (perm l e x, [], [])
    else cutsGo l xs (behindS l (x.2 + szOf l x.1)) (addS (if e < x.2 then addS d (x.2 - l.kerf) x.2 else d) (x.2 + szOf l x.1) (behindS l (x.2 + szOf l x.1))) (if e < x.2 then addS c e (x.2 - l.kerf) else c)
noncomputable def cutsS (l : Line) (p : List Piece) : CutR := if chk l ≠ 0 then (chk l, [], []) else cutsGo l p 0 [] []
def cutC (r : CutR) : CV := .tup [LS r.2.1, LS r.2.2, I r.1]
theorem perm0 {l : Line} {e s p : Int} (h : perm l e (s, p) = 0) : 0 ≤ s ∧ s < l.sizes.length ∧ 0 ≤ p ∧ p ≤ l.len - szOf l s ∧ 0 ≤ e ∧ (p = e ∨ (l.pitch ≤ p - l.kerf - e ∧ (p - l.kerf - e).tmod l.pitch = 0)) ∧ 0 ≤ gOf l s p := by
  unfold perm at h
  dsimp only at h
  split at h
  · simp at h
  split at h
  · simp at h
  split at h
  · simp at h
  split at h
  · simp at h
  rename_i h1 h2 h3 h4
  generalize (p - l.kerf - e).tmod l.pitch = tm at *
  refine ⟨by omega, by omega, by omega, by omega, by omega, by omega, by omega⟩
theorem behind_le {l : Line} {e : Int} (v : Valid l) (h0 : 0 ≤ e) : -1 ≤ behindS l e ∧ behindS l e ≤ l.len := by
  have := v.len; have := v.kerf
  unfold behindS; split <;> omega
theorem drop_cons {α : Type} (l : List α) (j : Nat) (h : j < l.length) : l.drop j = l[j] :: l.drop (j + 1) := List.drop_eq_getElem_cons h
theorem go_err {l : Line} {p : List Piece} {j : Nat} {e : Int} {d c : List Span} (hj : j < p.length) (h : ¬ perm l e (p[j].1, p[j].2) = 0) : cutsGo l (p.drop j) e d c = (perm l e (p[j].1, p[j].2), [], []) := by
  rw [drop_cons p j hj]; unfold cutsGo; rw [if_pos h]
theorem go_ok {l : Line} {p : List Piece} {j : Nat} {e : Int} {d c d' c' : List Span} (hj : j < p.length) (h : perm l e (p[j].1, p[j].2) = 0) (hd : d' = addS (if e < p[j].2 then addS d (p[j].2 - l.kerf) p[j].2 else d) (p[j].2 + szOf l p[j].1) (behindS l (p[j].2 + szOf l p[j].1))) (hc : c' = if e < p[j].2 then addS c e (p[j].2 - l.kerf) else c) : cutsGo l (p.drop j) e d c = cutsGo l (p.drop (j + 1)) (behindS l (p[j].2 + szOf l p[j].1)) d' c' := by
  rw [drop_cons p j hj, hd, hc]
  conv => lhs; unfold cutsGo
  rw [if_neg (show ¬ perm l e p[j] ≠ 0 from fun hh => hh h)]
theorem szOf_nat {l : Line} {k : Nat} (hk : k < l.sizes.length) : szOf l (k : Int) = l.sizes[k] := by
  unfold szOf; rw [Int.toNat_natCast, List.getD_eq_getElem?_getD, List.getElem?_eq_getElem hk]; rfl
theorem cuts_con (l : Line) (p : List Piece) (hp : p.length ≤ 100000) : Con Tryz.prog gl 38 [lineC l, LP p] (cutC (cutsS l p)) := by
  refine con_of Tryz.func38 rfl (by kernel_rfl) rfl ?_
  simp only [Tryz.ntmps38, Tryz.results38, argEnv, ofC, of1, List.map, lineC, lineL]
  repeat' (first
 | ((with_reducible apply r_call); exact rfl; exact rfl; exact check_con l; exact rfl; exact rfl)
 | ((with_reducible apply aw_seq))
 | ((with_reducible apply aw_region))
 | ((with_reducible apply aw_block))
 | ((with_reducible apply thn_normal))
 | ((with_reducible apply thn_ret))
 | ((with_reducible apply aw_skip))
 | ((with_reducible apply aw_ret))
 | ((with_reducible apply ao_nil))
 | ((with_reducible apply r_move); exact rfl; exact rfl)
 | ((with_reducible apply r_assign); exact rfl; exact rfl)
 | ((with_reducible apply r_load_pa); exact rfl; exact rfl; exact rfl; exact rfl; exact rfl)
 | ((with_reducible apply r_neq); exact rfl; exact rfl; exact rfl)
 | ((with_reducible apply r_box_a); exact rfl; exact rfl)
 | ((with_reducible apply r_len_f); exact rfl; exact inferInstance; exact rfl)
 | (((with_reducible apply aw_cond); exact rfl) <;> intro hg <;> (first | (exact absurd hg (by decide)) | ((try simp only [decide_eq_true_eq, decide_eq_false_iff_not, Bool.not_eq_true', Bool.not_eq_false', Bool.not_true, Bool.not_false, Bool.not_not, Int.not_lt, Int.not_le, Nat.not_lt, Nat.not_le, gt_iff_lt, ge_iff_le, List.cons.injEq, and_true] at hg); first | (exact absurd trivial hg) | (exfalso; omega) | (have hT : True := hg; clear hT hg) | skip)))
 )
  · have e : cutsS l p = (chk l, [], []) := by unfold cutsS; rw [if_pos hg]
    rw [e]
    exact ret2 (.cons (.tmp rfl cl_none) (.cons (.tmp rfl cl_none) (.cons (.tmp rfl cl_c) .nil)))
  have v := valid_of hg
  have e : cutsS l p = cutsGo l p 0 [] [] := by unfold cutsS; rw [if_neg (fun hh => hh hg)]
  rw [e]
  obtain ⟨l1, l2⟩ := v.len
  obtain ⟨k1, k2⟩ := v.kerf
  obtain ⟨p1, p2⟩ := v.pitch
  refine aw_nilvec 4 68 2 rfl rfl ?_
  refine aw_nilvec 5 68 2 rfl rfl ?_
  refine aw_loopG (G := Nat × Int × List Span × List Span) (fun ((j, ed, d, c) : Nat × Int × List Span × List Span) => j ≤ p.length ∧ -1 ≤ ed ∧ ed ≤ l.len ∧ d.length ≤ 2 * j ∧ c.length ≤ j ∧ cutsGo l p 0 [] [] = cutsGo l (p.drop j) ed d c) (fun ((j, ed, d, c) : Nat × Int × List Span × List Span) => p.length - j) (fun ((j, ed, d, c) : Nat × Int × List Span × List Span) => [(2, .ptr 0 0), (4, .vec 1 d.length), (5, .vec 2 c.length), (8, A ed), (18, .c (LP p)), (19, A p.length), (20, A j)]) (fun ((j, ed, d, c) : Nat × Int × List Span × List Span) => [(0, some (lineB l)), (1, some (.vec 68 2 (d.flatMap spC))), (2, some (.vec 68 2 (c.flatMap spC)))]) 3 (0, 0, [], []) ?_ (by refine weak_mk rfl ?_ ?_ <;> repeat (first | exact envW_nil | exact heapW_nil | refine envW_cons rfl rfl ?_ | refine heapW_cons rfl rfl rfl ?_)) rfl ?_
  · exact ⟨Nat.zero_le _, by decide, l1, by simp, by simp, by simp⟩
  rintro ⟨j, ed, d, c⟩ hI
  try dsimp only at hI
  try dsimp only
  obtain ⟨hj, he1, he2, hd, hc, hgo⟩ := hI
  by_cases hjl : j < p.length
  · by_cases hpm : perm l ed (p[j].1, p[j].2) = 0
    · obtain ⟨q1, q2, q3, q4, q5, q6, q7⟩ := perm0 hpm
      have hk : p[j].1 = ((p[j].1.toNat : Nat) : Int) := by omega
      have hk2 : p[j].1.toNat < l.sizes.length := by omega
      have hsz : szOf l p[j].1 = l.sizes[p[j].1.toNat] := by
        conv => lhs; rw [hk]
        exact szOf_nat hk2
      have hs12 := v.size _ hk2
      have hbl := behind_le (l := l) (e := p[j].2 + szOf l p[j].1) v (by omega)
      repeat' (first
 | ((with_reducible apply r_call); exact rfl; exact rfl; exact permitted_con l v ed ⟨by omega, by omega⟩ p[j].1 p[j].2; exact rfl; exact rfl)
 | ((with_reducible apply r_call); exact rfl; exact rfl; exact behind_con l _ (by unfold fits; omega); exact rfl; exact rfl)
 | ((with_reducible apply add_in); exact rfl; exact rfl; exact rfl; (first | omega | exact Nat.lt_of_le_of_lt (addS_len _ _ _) (by omega)); exact rfl; exact rfl)
 | ((with_reducible apply aw_seq))
 | ((with_reducible apply aw_region))
 | ((with_reducible apply aw_block))
 | ((with_reducible apply thn_normal))
 | ((with_reducible apply inb_normal))
 | ((with_reducible apply aw_skip))
 | ((with_reducible apply ao_nil))
 | ((with_reducible apply r_move); exact rfl; exact rfl)
 | ((with_reducible apply r_assign); exact rfl; exact rfl)
 | ((with_reducible apply r_field_p); exact rfl; exact rfl)
 | ((with_reducible apply r_load_p); exact rfl; exact rfl; exact rfl; exact rfl)
 | ((with_reducible apply r_load_pa); exact rfl; exact rfl; exact rfl; exact rfl; exact rfl)
 | ((with_reducible apply r_lss); exact rfl; exact rfl; exact rfl)
 | ((with_reducible apply r_gtr); exact rfl; exact rfl; exact rfl)
 | ((with_reducible apply r_neq); exact rfl; exact rfl; exact rfl)
 | ((with_reducible apply r_add); exact rfl; exact rfl; exact (by first | assumption | (unfold fits; omega)); exact rfl)
 | ((with_reducible apply r_sub); exact rfl; exact rfl; exact (by first | assumption | (unfold fits; omega)); exact rfl)
 | ((with_reducible apply r_index_f); exact rfl; exact inferInstance; exact rfl; exact rfl; (first | assumption | omega); exact rfl)
 | ((with_reducible apply r_index_f); exact rfl; exact inferInstance; exact rfl; exact (Int.toNat_of_nonneg (by omega)).symm; (first | assumption | omega); exact rfl)
 | ((with_reducible apply r_load_f0); exact rfl; exact inferInstance; exact List.getElem?_eq_getElem (by first | assumption | omega); exact rfl; exact rfl)
 | ((with_reducible apply r_load_fa0); exact rfl; exact inferInstance; exact List.getElem?_eq_getElem (by first | assumption | omega); exact rfl; exact rfl; exact rfl)
 | ((with_reducible apply r_store_pa); exact rfl; exact rfl; exact rfl; exact rfl; exact rfl; exact rfl)
 | ((with_reducible apply r_alloc); exact rfl)
 | (((with_reducible apply aw_cond); exact rfl) <;> intro hg <;> (first | (exact absurd hg (by decide)) | ((try simp only [decide_eq_true_eq, decide_eq_false_iff_not, Bool.not_eq_true', Bool.not_eq_false', Bool.not_true, Bool.not_false, Bool.not_not, Int.not_lt, Int.not_le, Nat.not_lt, Nat.not_le, gt_iff_lt, ge_iff_le, List.cons.injEq, and_true] at hg); first | (exact absurd trivial hg) | (exfalso; omega) | (have hT : True := hg; clear hT hg) | skip)))
 | (refine aw_drawq ?_ ?_; (kernel_rfl))
 | ((with_reducible apply ds_nil))
 )
      · skip
        refine ⟨(j + 1, behindS l (p[j].2 + l.sizes[p[j].1.toNat]), addS (addS d (p[j].2 - l.kerf) p[j].2) (p[j].2 + l.sizes[p[j].1.toNat]) (behindS l (p[j].2 + l.sizes[p[j].1.toNat])), addS c ed (p[j].2 - l.kerf)), ?_, ?_, by refine weak_mk rfl ?_ ?_ <;> repeat (first | exact envW_nil | exact heapW_nil | refine envW_cons rfl rfl ?_ | refine heapW_cons rfl rfl rfl ?_)⟩
        · show p.length - (j + 1) < p.length - j; omega
        · have key := go_ok (c := c) (d := d) hjl hpm rfl rfl
          rw [if_pos hg, if_pos hg, hsz] at key
          rw [hsz] at hbl
          have a1 := addS_len (addS d (p[j].2 - l.kerf) p[j].2) (p[j].2 + l.sizes[p[j].1.toNat]) (behindS l (p[j].2 + l.sizes[p[j].1.toNat]))
          have a2 := addS_len d (p[j].2 - l.kerf) p[j].2
          have a3 := addS_len c ed (p[j].2 - l.kerf)
          refine ⟨?_, ?_, ?_, ?_, ?_, ?_⟩
          · show j + 1 ≤ _; omega
          · exact hbl.1
          · exact hbl.2
          · show (addS _ _ _).length ≤ 2 * (j + 1); omega
          · show (addS c ed (p[j].2 - l.kerf)).length ≤ j + 1; omega
          · rw [hgo]; exact key
      · skip
        refine ⟨(j + 1, behindS l (p[j].2 + l.sizes[p[j].1.toNat]), addS (d) (p[j].2 + l.sizes[p[j].1.toNat]) (behindS l (p[j].2 + l.sizes[p[j].1.toNat])), c), ?_, ?_, by refine weak_mk rfl ?_ ?_ <;> repeat (first | exact envW_nil | exact heapW_nil | refine envW_cons rfl rfl ?_ | refine heapW_cons rfl rfl rfl ?_)⟩
        · show p.length - (j + 1) < p.length - j; omega
        · have key := go_ok (c := c) (d := d) hjl hpm rfl rfl
          rw [if_neg (by omega), if_neg (by omega), hsz] at key
          rw [hsz] at hbl
          have a1 := addS_len (d) (p[j].2 + l.sizes[p[j].1.toNat]) (behindS l (p[j].2 + l.sizes[p[j].1.toNat]))
          have a2 := addS_len d (p[j].2 - l.kerf) p[j].2
          have a3 := addS_len c ed (p[j].2 - l.kerf)
          refine ⟨?_, ?_, ?_, ?_, ?_, ?_⟩
          · show j + 1 ≤ _; omega
          · exact hbl.1
          · exact hbl.2
          · show (addS _ _ _).length ≤ 2 * (j + 1); omega
          · show c.length ≤ j + 1; omega
          · rw [hgo]; exact key
    · skip
      repeat' (first
 | ((with_reducible apply r_call); exact rfl; exact rfl; exact permitted_con l v ed ⟨by omega, by omega⟩ p[j].1 p[j].2; exact rfl; exact rfl)
 | ((with_reducible apply aw_seq))
 | ((with_reducible apply aw_region))
 | ((with_reducible apply aw_block))
 | ((with_reducible apply thn_normal))
 | ((with_reducible apply thn_ret))
 | ((with_reducible apply inb_ret))
 | ((with_reducible apply aw_skip))
 | ((with_reducible apply aw_ret))
 | ((with_reducible apply ao_nil))
 | ((with_reducible apply r_move); exact rfl; exact rfl)
 | ((with_reducible apply r_assign); exact rfl; exact rfl)
 | ((with_reducible apply r_load_pa); exact rfl; exact rfl; exact rfl; exact rfl; exact rfl)
 | ((with_reducible apply r_lss); exact rfl; exact rfl; exact rfl)
 | ((with_reducible apply r_neq); exact rfl; exact rfl; exact rfl)
 | ((with_reducible apply r_index_f); exact rfl; exact inferInstance; exact rfl; exact rfl; (first | assumption | omega); exact rfl)
 | ((with_reducible apply r_load_fa0); exact rfl; exact inferInstance; exact List.getElem?_eq_getElem (by first | assumption | omega); exact rfl; exact rfl; exact rfl)
 | ((with_reducible apply r_store_pa); exact rfl; exact rfl; exact rfl; exact rfl; exact rfl; exact rfl)
 | ((with_reducible apply r_alloc); exact rfl)
 | (((with_reducible apply aw_cond); exact rfl) <;> intro hg <;> (first | (exact absurd hg (by decide)) | ((try simp only [decide_eq_true_eq, decide_eq_false_iff_not, Bool.not_eq_true', Bool.not_eq_false', Bool.not_true, Bool.not_false, Bool.not_not, Int.not_lt, Int.not_le, Nat.not_lt, Nat.not_le, gt_iff_lt, ge_iff_le, List.cons.injEq, and_true] at hg); first | (exact absurd trivial hg) | (exfalso; omega) | (have hT : True := hg; clear hT hg) | skip)))
 )
      rw [hgo, go_err hjl hpm]
      exact ret2 (.cons (.tmp rfl cl_none) (.cons (.tmp rfl cl_none) (.cons (.tmp rfl cl_c) .nil)))
  · have hnil : p.drop j = [] := List.drop_eq_nil_of_le (by omega)
    rw [hnil] at hgo
    repeat' (first
 | ((with_reducible apply add_in); exact rfl; exact rfl; exact rfl; (first | omega | exact Nat.lt_of_le_of_lt (addS_len _ _ _) (by omega)); exact rfl; exact rfl)
 | ((with_reducible apply aw_seq))
 | ((with_reducible apply aw_region))
 | ((with_reducible apply thn_normal))
 | ((with_reducible apply thn_exit))
 | ((with_reducible apply inb_exit))
 | ((with_reducible apply aw_skip))
 | ((with_reducible apply aw_exit))
 | ((with_reducible apply aw_ret))
 | ((with_reducible apply ao_nil))
 | ((with_reducible apply r_move); exact rfl; exact rfl)
 | ((with_reducible apply r_assign); exact rfl; exact rfl)
 | ((with_reducible apply r_field_p); exact rfl; exact rfl)
 | ((with_reducible apply r_load_p); exact rfl; exact rfl; exact rfl; exact rfl)
 | ((with_reducible apply r_lss); exact rfl; exact rfl; exact rfl)
 | ((with_reducible apply r_geq); exact rfl; exact rfl; exact rfl)
 | (((with_reducible apply aw_cond); exact rfl) <;> intro hg <;> (first | (exact absurd hg (by decide)) | ((try simp only [decide_eq_true_eq, decide_eq_false_iff_not, Bool.not_eq_true', Bool.not_eq_false', Bool.not_true, Bool.not_false, Bool.not_not, Int.not_lt, Int.not_le, Nat.not_lt, Nat.not_le, gt_iff_lt, ge_iff_le, List.cons.injEq, and_true] at hg); first | (exact absurd trivial hg) | (exfalso; omega) | (have hT : True := hg; clear hT hg) | skip)))
 )
    · have hr : cutsGo l p 0 [] [] = (0, d, addS c ed l.len) := by rw [hgo]; unfold cutsGo; rw [if_pos hg]
      rw [hr]
      exact ret2 (.cons (.tmp rfl (cl_vec rfl (flat_len EncL.len _))) (.cons (.tmp rfl (cl_vec rfl (flat_len EncL.len _))) (.cons (.tmp rfl cl_c) .nil)))
    · have hr : cutsGo l p 0 [] [] = (0, d, c) := by rw [hgo]; unfold cutsGo; rw [if_neg (by omega)]
      rw [hr]
      exact ret2 (.cons (.tmp rfl (cl_vec rfl (flat_len EncL.len _))) (.cons (.tmp rfl (cl_vec rfl (flat_len EncL.len _))) (.cons (.tmp rfl cl_c) .nil)))
end Go.Proofs.YtkhljpbkebnnmaaGreatDoor.Cu
/- Walks of cutting: total, sum, Value in both. -/
namespace Go.Proofs.YtkhljpbkebnnmaaGreatDoor.Cu
set_option linter.unusedVariables false
set_option linter.unusedSimpArgs false
open Go.RowKit Go.Proofs.YtkhljpbkebnnmaaGreatDoor.Ev
variable {gl : List (Nat × List CV)}
def pre (l : List Int) (k : Nat) : Int := (l.take k).sum
theorem pre_succ (l : List Int) (k : Nat) (h : k < l.length) : pre l (k + 1) = pre l k + l[k] := by
  unfold pre; rw [List.take_succ_eq_append_getElem h, List.sum_append]; simp
def Bd (l : List Int) : Prop := ∀ i (h : i < l.length), -1125899906842624 ≤ l[i] ∧ l[i] ≤ 1125899906842624
theorem pre_bd {l : List Int} (h : Bd l) (a : Nat) : ∀ n, a + n ≤ l.length → -1125899906842624 * (n : Int) ≤ pre l (a + n) - pre l a ∧ pre l (a + n) - pre l a ≤ 1125899906842624 * (n : Int)
  | 0, _ => by simp
  | n + 1, hn => by
    have ih := pre_bd h a n (by omega)
    have h1 := h (a + n) (by omega)
    rw [show a + (n + 1) = (a + n) + 1 by omega, pre_succ l (a + n) (by omega)]
    omega
theorem pre_bd' {l : List Int} (h : Bd l) (a b : Nat) (hab : a ≤ b) (hb : b ≤ l.length) : -1125899906842624 * ((b : Int) - a) ≤ pre l b - pre l a ∧ pre l b - pre l a ≤ 1125899906842624 * ((b : Int) - a) := by
  have := pre_bd h a (b - a) (by omega)
  rw [show a + (b - a) = b by omega] at this
  have e : ((b - a : Nat) : Int) = (b : Int) - a := by omega
  rw [e] at this; exact this
def spV (l : List Int) (s : Span) : Int := pre l s.2.toNat - pre l s.1.toNat
def sumSp (l : List Int) (ss : List Span) : Int := (ss.map (spV l)).sum
def tot (ss : List Span) : Int := (ss.map fun s => s.2 - s.1).sum
structure SpsOk (n : Nat) (ss : List Span) : Prop where
  sp : ∀ i (h : i < ss.length), 0 ≤ ss[i].1 ∧ ss[i].1 ≤ ss[i].2 ∧ ss[i].2 ≤ n
  tot : tot ss ≤ 4000
end Go.Proofs.YtkhljpbkebnnmaaGreatDoor.Cu
/- Walks of cutting: Value in both. -/
namespace Go.Proofs.YtkhljpbkebnnmaaGreatDoor.Cu
set_option linter.unusedVariables false
set_option linter.unusedSimpArgs false
open Go.RowKit Go.Proofs.YtkhljpbkebnnmaaGreatDoor.Ev
variable {gl : List (Nat × List CV)}
def AllSp (n : Int) (l : List Span) : Prop := ∀ s ∈ l, 0 ≤ s.1 ∧ s.1 < s.2 ∧ s.2 ≤ n
theorem tot_add (l : List Span) (a b : Int) : tot (addS l a b) = tot l + max 0 (b - a) := by
  unfold addS
  split
  · omega
  · unfold tot; rw [List.map_append, List.sum_append]; simp; omega
theorem allSp_add {n : Int} {l : List Span} (h : AllSp n l) {a b : Int} (h0 : 0 ≤ a) (h1 : b ≤ n) : AllSp n (addS l a b) := by
  unfold addS
  split
  · exact h
  · intro s hs
    rcases List.mem_append.1 hs with hs | hs
    · exact h s hs
    · simp only [List.mem_singleton] at hs; subst hs; exact ⟨h0, by show a < b; omega, h1⟩
structure GoInv (l : Line) (e : Int) (d c : List Span) (n : Int) : Prop where
  hd : AllSp l.len d
  hc : AllSp l.len c
  he : -1 ≤ e ∧ e ≤ l.len
  ht : tot d + tot c + n ≤ if e < 0 then l.len else e
theorem go_inv {l : Line} (v : Valid l) : ∀ (p : List Piece) (e : Int) (d c : List Span) (n : Int) (D C : List Span), GoInv l e d c n → cutsGo l p e d c = (0, D, C) → AllSp l.len D ∧ AllSp l.len C ∧ tot D + tot C + (n + p.length) ≤ l.len ∧ ∀ x ∈ p, ∃ e', perm l e' x = 0
  | [], e, d, c, n, D, C, h, hg => by
    obtain ⟨h1, h2, h3, h4⟩ := h
    unfold cutsGo at hg
    simp only [Prod.mk.injEq, true_and] at hg
    obtain ⟨rfl, rfl⟩ := hg
    have hl := v.len
    refine ⟨h1, ?_, ?_, fun x hx => by simp at hx⟩
    · split
      · exact allSp_add h2 (by omega) (Int.le_refl _)
      · exact h2
    · split
      · rename_i he
        rw [if_neg (by omega)] at h4
        rw [tot_add]; simp; omega
      · rw [if_pos (by omega)] at h4
        simp; omega
  | x :: p, e, d, c, n, D, C, h, hg => by
    obtain ⟨h1, h2, h3, h4⟩ := h
    unfold cutsGo at hg
    by_cases hp : perm l e x = 0
    · rw [if_neg (fun hh => hh hp)] at hg
      obtain ⟨q1, q2, q3, q4, q5, q6, q7⟩ := perm0 (l := l) (e := e) (s := x.1) (p := x.2) hp
      rw [if_neg (by omega)] at h4
      have hl := v.len
      have hk := v.kerf
      have hpi := v.pitch
      obtain ⟨k, hk1, hk2, hk3⟩ := szOf_eq (l := l) (s := x.1) q1 q2
      have hsz := v.size k hk2
      rw [← hk3] at hsz
      generalize szOf l x.1 = sz at *
      have hbe : (x.2 + sz = l.len ∧ behindS l (x.2 + sz) = -1) ∨ (x.2 + sz ≠ l.len ∧ behindS l (x.2 + sz) = min (x.2 + sz + l.kerf) l.len) := by
        unfold behindS
        by_cases hc : x.2 + sz = l.len
        · exact .inl ⟨hc, if_pos hc⟩
        · exact .inr ⟨hc, if_neg hc⟩
      generalize behindS l (x.2 + sz) = be at *
      generalize (x.2 - l.kerf - e).tmod l.pitch = tm at *
      have ih := go_inv v p be (addS (if e < x.2 then addS d (x.2 - l.kerf) x.2 else d) (x.2 + sz) be) (if e < x.2 then addS c e (x.2 - l.kerf) else c) (n + 1) D C ⟨?_, ?_, by omega, ?_⟩ hg
      · obtain ⟨i1, i2, i3, i4⟩ := ih
        refine ⟨i1, i2, by simp only [List.length_cons]; omega, fun y hy => ?_⟩
        rcases List.mem_cons.1 hy with rfl | hy
        · exact ⟨e, hp⟩
        · exact i4 y hy
      · refine allSp_add ?_ (by omega) (by omega)
        split
        · exact allSp_add h1 (by omega) (by omega)
        · exact h1
      · split
        · exact allSp_add h2 (by omega) (by omega)
        · exact h2
      · rw [tot_add]
        split
        · rw [tot_add, tot_add]
          split <;> omega
        · split <;> omega
    · rw [if_pos hp] at hg
      simp only [Prod.mk.injEq] at hg
      exact absurd hg.1 hp
theorem cuts_ok {l : Line} (v : Valid l) {p : List Piece} {D C : List Span} (h : cutsGo l p 0 [] [] = (0, D, C)) : AllSp l.len D ∧ AllSp l.len C ∧ tot D + tot C + p.length ≤ l.len ∧ ∀ x ∈ p, ∃ e', perm l e' x = 0 := by
  have := go_inv v p 0 [] [] 0 D C ⟨fun s hs => by simp at hs, fun s hs => by simp at hs, by have := v.len; omega, by simp [tot]⟩ h
  simpa using this
theorem tot_nn {n : Int} {ss : List Span} (h : AllSp n ss) : (ss.length : Int) ≤ tot ss := by
  induction ss with
  | nil => simp [tot]
  | cons s ss ih =>
    have h1 := h s (by simp)
    have h2 := ih (fun t ht => h t (by simp [ht]))
    unfold tot at h2 ⊢
    simp only [List.map_cons, List.sum_cons, List.length_cons]
    omega
def gsum (l : Line) (p : List Piece) : Int := (p.map fun x => gOf l x.1 x.2).sum
noncomputable def valS (l : Line) (p : List Piece) : Int × Int :=
  if (cutsS l p).1 ≠ 0 then (0, (cutsS l p).1) else (sumSp l.dust (cutsS l p).2.1 + sumSp l.chip (cutsS l p).2.2 + gsum l p, 0)
end Go.Proofs.YtkhljpbkebnnmaaGreatDoor.Cu
/- Walks of cutting: Value in both. -/
namespace Go.Proofs.YtkhljpbkebnnmaaGreatDoor.Cu
set_option linter.unusedVariables false
set_option linter.unusedSimpArgs false
open Go.RowKit Go.Proofs.YtkhljpbkebnnmaaGreatDoor.Ev
variable {gl : List (Nat × List CV)}
theorem valS_ok {l : Line} {p : List Piece} {D C : List Span} (h : cutsS l p = (0, D, C)) : valS l p = (sumSp l.dust D + sumSp l.chip C + gsum l p, 0) := by
  unfold valS; rw [h]; rw [if_neg (by simp)]
theorem cutsS_ok {l : Line} {p : List Piece} {D C : List Span} (h : cutsS l p = (0, D, C)) : chk l = 0 ∧ cutsGo l p 0 [] [] = (0, D, C) := by
  unfold cutsS at h
  split at h
  · rename_i hc
    simp only [Prod.mk.injEq] at h
    exact absurd h.1 hc
  · rename_i hc
    exact ⟨by simpa using hc, h⟩
structure Good (l : Line) (p : List Piece) (D C : List Span) : Prop where
  v : Valid l
  d : SpsOk l.dust.length D
  c : SpsOk l.chip.length C
  bd : Bd l.dust
  bc : Bd l.chip
  ld : l.dust.length ≤ 2000
  lc : l.chip.length ≤ 2000
  nd : D.length ≤ 2000
  nc : C.length ≤ 2000
  sd : -1125899906842624 * 2000 ≤ sumSp l.dust D ∧ sumSp l.dust D ≤ 1125899906842624 * 2000
  sc : -1125899906842624 * 2000 ≤ sumSp l.chip C ∧ sumSp l.chip C ≤ 1125899906842624 * 2000
  np : p.length ≤ 2000
  pm : ∀ x ∈ p, ∃ e, perm l e x = 0
end Go.Proofs.YtkhljpbkebnnmaaGreatDoor.Cu
/- Walks of cutting: the functions that compare, on equal things. -/
namespace Go.Proofs.YtkhljpbkebnnmaaGreatDoor.Cu
set_option linter.unusedVariables false
set_option linter.unusedSimpArgs false
open Go.RowKit Go.Proofs.YtkhljpbkebnnmaaGreatDoor.Ev
variable {gl : List (Nat × List CV)}
abbrev T : CV := .v (.bool true)
theorem samePieces_con (l : List Piece) (hn : l.length ≤ 1000000) : Con Tryz.prog gl 17 [LP l, LP l] T := by
  refine con_of Tryz.func17 rfl (by kernel_rfl) rfl ?_
  simp only [Tryz.ntmps17, Tryz.results17, argEnv, ofC, of1, List.map]
  repeat' (first
 | ((with_reducible apply aw_seq))
 | ((with_reducible apply aw_region))
 | ((with_reducible apply aw_block))
 | ((with_reducible apply thn_normal))
 | ((with_reducible apply aw_skip))
 | ((with_reducible apply ao_nil))
 | ((with_reducible apply r_move); exact rfl; exact rfl)
 | ((with_reducible apply r_assign); exact rfl; exact rfl)
 | ((with_reducible apply r_neq); exact rfl; exact rfl; exact rfl)
 | ((with_reducible apply r_len_f); exact rfl; exact inferInstance; exact rfl)
 | (((with_reducible apply aw_cond); exact rfl) <;> intro hg <;> (first | (exact absurd hg (by decide)) | ((try simp only [decide_eq_true_eq, decide_eq_false_iff_not, Bool.not_eq_true', Bool.not_eq_false', Bool.not_true, Bool.not_false, Bool.not_not, Int.not_lt, Int.not_le, Nat.not_lt, Nat.not_le, gt_iff_lt, ge_iff_le, List.cons.injEq, and_true] at hg); first | (exact absurd trivial hg) | (exfalso; omega) | (have hT : True := hg; clear hT hg) | skip)))
 )
  refine aw_loopG (G := Nat) (fun (j : Nat) => j ≤ l.length) (fun (j : Nat) => l.length - j) (fun (j : Nat) => [(0, .c (LP l)), (1, .c (LP l)), (5, A j)]) (fun (j : Nat) => []) 0 0 ?_ (by refine weak_mk rfl ?_ ?_ <;> repeat (first | exact envW_nil | exact heapW_nil | refine envW_cons rfl rfl ?_ | refine heapW_cons rfl rfl rfl ?_)) rfl ?_
  · exact Nat.zero_le _
  rintro j hI
  try dsimp only at hI
  try dsimp only
  by_cases hjl : j < l.length
  · skip
    repeat' (first
 | ((with_reducible apply aw_seq))
 | ((with_reducible apply aw_region))
 | ((with_reducible apply aw_block))
 | ((with_reducible apply thn_normal))
 | ((with_reducible apply inb_normal))
 | ((with_reducible apply aw_skip))
 | ((with_reducible apply ao_nil))
 | ((with_reducible apply r_move); exact rfl; exact rfl)
 | ((with_reducible apply r_assign); exact rfl; exact rfl)
 | ((with_reducible apply r_lss); exact rfl; exact rfl; exact rfl)
 | ((with_reducible apply r_add); exact rfl; exact rfl; exact (by first | assumption | (unfold fits; omega)); exact rfl)
 | ((with_reducible apply r_len_f); exact rfl; exact inferInstance; exact rfl)
 | ((with_reducible apply r_index_f); exact rfl; exact inferInstance; exact rfl; exact rfl; (first | assumption | omega); exact rfl)
 | ((with_reducible apply r_load_fa0); exact rfl; exact inferInstance; exact List.getElem?_eq_getElem (by first | assumption | omega); exact rfl; exact rfl; exact rfl)
 | (((with_reducible apply aw_cond); exact rfl) <;> intro hg <;> (first | (exact absurd hg (by decide)) | ((try simp only [decide_eq_true_eq, decide_eq_false_iff_not, Bool.not_eq_true', Bool.not_eq_false', Bool.not_true, Bool.not_false, Bool.not_not, Int.not_lt, Int.not_le, Nat.not_lt, Nat.not_le, gt_iff_lt, ge_iff_le, List.cons.injEq, and_true] at hg); first | (exact absurd trivial hg) | (exfalso; omega) | (have hT : True := hg; clear hT hg) | skip)))
 | (refine aw_drawq ?_ ?_; (kernel_rfl))
 | ((with_reducible apply ds_nil))
 | ((with_reducible apply r_neqs); exact rfl; exact rfl; exact rfl; exact rfl; exact rfl; exact rfl; exact rfl)
 )
    refine ⟨j + 1, ?_, ?_, by refine weak_mk rfl ?_ ?_ <;> repeat (first | exact envW_nil | exact heapW_nil | refine envW_cons rfl rfl ?_ | refine heapW_cons rfl rfl rfl ?_)⟩
    · show _ - (j + 1) < _ - j; omega
    · show j + 1 ≤ _; omega
  · skip
    repeat' (first
 | ((with_reducible apply aw_seq))
 | ((with_reducible apply aw_region))
 | ((with_reducible apply thn_normal))
 | ((with_reducible apply thn_exit))
 | ((with_reducible apply inb_exit))
 | ((with_reducible apply aw_exit))
 | ((with_reducible apply aw_ret))
 | ((with_reducible apply ao_nil))
 | ((with_reducible apply r_move); exact rfl; exact rfl)
 | ((with_reducible apply r_assign); exact rfl; exact rfl)
 | ((with_reducible apply r_lss); exact rfl; exact rfl; exact rfl)
 | ((with_reducible apply r_len_f); exact rfl; exact inferInstance; exact rfl)
 | (((with_reducible apply aw_cond); exact rfl) <;> intro hg <;> (first | (exact absurd hg (by decide)) | ((try simp only [decide_eq_true_eq, decide_eq_false_iff_not, Bool.not_eq_true', Bool.not_eq_false', Bool.not_true, Bool.not_false, Bool.not_not, Int.not_lt, Int.not_le, Nat.not_lt, Nat.not_le, gt_iff_lt, ge_iff_le, List.cons.injEq, and_true] at hg); first | (exact absurd trivial hg) | (exfalso; omega) | (have hT : True := hg; clear hT hg) | skip)))
 )
    exact ret_b rfl rfl
end Go.Proofs.YtkhljpbkebnnmaaGreatDoor.Cu
/- Walks of cutting: Clone, repeat, Uniform. -/
namespace Go.Proofs.YtkhljpbkebnnmaaGreatDoor.Cu
set_option linter.unusedVariables false
set_option linter.unusedSimpArgs false
open Go.RowKit Go.Proofs.YtkhljpbkebnnmaaGreatDoor.Ev
variable {gl : List (Nat × List CV)}
theorem clone_con (l : List Int) (hn : l.length ≤ 100000) : Con Tryz.prog gl 27 [LI l] (LI l) := by
  refine con_of Tryz.func27 rfl (by kernel_rfl) rfl ?_
  simp only [Tryz.ntmps27, Tryz.results27, argEnv, ofC, of1, List.map]
  repeat' (first
 | ((with_reducible apply r_eqnil); exact rfl; exact rfl; exact rfl; intro nb hnb)
 | ((with_reducible apply (r_appendl (enc := inC) (l := []) (l2 := l))); exact rfl; exact rfl; exact inferInstance; exact rfl; exact rfl; exact (by omega); exact (by omega); exact rfl)
 | ((with_reducible apply aw_seq))
 | ((with_reducible apply aw_region))
 | ((with_reducible apply thn_normal))
 | ((with_reducible apply thn_ret))
 | ((with_reducible apply aw_skip))
 | ((with_reducible apply aw_ret))
 | ((with_reducible apply ao_nil))
 | ((with_reducible apply r_move); exact rfl; exact rfl)
 | ((with_reducible apply r_assign); exact rfl; exact rfl)
 | (((with_reducible apply aw_cond); exact rfl) <;> intro hg <;> (first | (exact absurd hg (by decide)) | ((try simp only [decide_eq_true_eq, decide_eq_false_iff_not, Bool.not_eq_true', Bool.not_eq_false', Bool.not_true, Bool.not_false, Bool.not_not, Int.not_lt, Int.not_le, Nat.not_lt, Nat.not_le, gt_iff_lt, ge_iff_le, List.cons.injEq, and_true] at hg); first | (exact absurd trivial hg) | (exfalso; omega) | (have hT : True := hg; clear hT hg) | skip)))
 | ((with_reducible apply r_lit0); exact rfl)
 )
  · have : l = [] := by
      cases l with
      | nil => rfl
      | cons a l => have := hnb (by simp [inC]); subst this; cases hg
    subst this
    exact ret1 (.tmp rfl cl_none)
  · exact ret1 (.tmp rfl (cl_vec rfl (by rw [flat_len EncL.len]; simp)))
def zeroL : Line := ⟨0, 0, 0, [], [], [], []⟩
end Go.Proofs.YtkhljpbkebnnmaaGreatDoor.Cu
/- Walks of cutting: the sums from the left, in both. -/
namespace Go.Proofs.YtkhljpbkebnnmaaGreatDoor.Cu
set_option linter.unusedVariables false
set_option linter.unusedSimpArgs false
open Go.RowKit Go.Proofs.YtkhljpbkebnnmaaGreatDoor.Ev
variable {gl : List (Nat × List CV)}
def sumsS (l : List Int) : List Int := (List.range (l.length + 1)).map (pre l)
@[simp] theorem sumsS_len (l : List Int) : (sumsS l).length = l.length + 1 := by simp [sumsS]
theorem sumsS_get (l : List Int) (k : Nat) (h : k < (sumsS l).length) : (sumsS l)[k] = pre l k := by simp [sumsS]
theorem sumsS_of {l s : List Int} (hn : s.length = l.length + 1) (h : ∀ i (hi : i < s.length), s[i] = pre l i) : s = sumsS l := by
  refine List.ext_getElem (by simp [hn]) (fun i h1 h2 => ?_)
  rw [h i h1, sumsS_get]
theorem pre_le {l : List Int} (hb : Bd l) (hn : l.length ≤ 2000) {k : Nat} (hk : k ≤ l.length) : -1125899906842624 * 2000 ≤ pre l k ∧ pre l k ≤ 1125899906842624 * 2000 := by
  have := pre_bd hb 0 k (by omega)
  rw [Nat.zero_add, show pre l 0 = 0 from rfl] at this
  omega
theorem sums_con (l : List Int) (hb : Bd l) (hn : l.length ≤ 2000) : Con Tryz.prog gl 95 [LI l] (LI (sumsS l)) := by
  refine con_of Tryz.func95 rfl (by kernel_rfl) rfl ?_
  simp only [Tryz.ntmps95, Tryz.results95, argEnv, ofC, of1, List.map]
  repeat' (first
 | ((with_reducible apply r_make (enc := inC) (0 : Int) (l.length + 1)); exact inferInstance; exact rfl; exact rfl; exact rfl; exact rfl; exact rfl; omega; omega; exact rfl)
 | ((with_reducible apply aw_seq))
 | ((with_reducible apply aw_region))
 | ((with_reducible apply aw_block))
 | ((with_reducible apply thn_normal))
 | ((with_reducible apply ao_nil))
 | ((with_reducible apply r_move); exact rfl; exact rfl)
 | ((with_reducible apply r_assign); exact rfl; exact rfl)
 | ((with_reducible apply r_add); exact rfl; exact rfl; exact (by first | assumption | (unfold fits; omega)); exact rfl)
 | ((with_reducible apply r_len_f); exact rfl; exact inferInstance; exact rfl)
 )
  refine aw_loopG (G := Nat × List Int) (fun ((j, s) : Nat × List Int) => j ≤ l.length ∧ s.length = l.length + 1 ∧ ∀ i (h : i < s.length), i ≤ j → s[i] = pre l i) (fun ((j, s) : Nat × List Int) => l.length - j) (fun ((j, s) : Nat × List Int) => [(3, .vec 0 (l.length + 1)), (10, .c (LI l)), (11, A l.length), (12, A j)]) (fun ((j, s) : Nat × List Int) => [(0, some (.vec 3 1 (s.flatMap inC)))]) 1 (0, List.replicate (l.length + 1) 0) ?_ (by refine weak_mk rfl ?_ ?_ <;> repeat (first | exact envW_nil | exact heapW_nil | refine envW_cons rfl rfl ?_ | refine heapW_cons rfl rfl rfl ?_)) rfl ?_
  · refine ⟨Nat.zero_le _, by simp, fun i h hi => ?_⟩
    obtain rfl : i = 0 := Nat.le_zero.1 hi
    simp [pre]
  rintro ⟨j, s⟩ hI
  try dsimp only at hI
  try dsimp only
  obtain ⟨hj, hs, hall⟩ := hI
  by_cases hjl : j < l.length
  · have h1 := hall j (by omega) (Nat.le_refl _)
    have h2 := pre_le hb hn hj
    have h3 := hb j hjl
    have h4 := pre_succ l j hjl
    repeat' (first
 | ((with_reducible apply r_store_v (enc := inC) (s[j] + l[j])); exact rfl; exact rfl; exact inferInstance; (first | exact rfl | assumption); (first | assumption | omega); exact rfl; exact rfl; exact rfl; exact rfl)
 | ((with_reducible apply aw_seq))
 | ((with_reducible apply aw_region))
 | ((with_reducible apply aw_block))
 | ((with_reducible apply thn_normal))
 | ((with_reducible apply inb_normal))
 | ((with_reducible apply aw_skip))
 | ((with_reducible apply ao_nil))
 | ((with_reducible apply r_move); exact rfl; exact rfl)
 | ((with_reducible apply r_assign); exact rfl; exact rfl)
 | ((with_reducible apply r_lss); exact rfl; exact rfl; exact rfl)
 | ((with_reducible apply r_add); exact rfl; exact rfl; exact (by first | assumption | (unfold fits; omega)); exact rfl)
 | ((with_reducible apply r_index_f); exact rfl; exact inferInstance; exact rfl; exact rfl; (first | assumption | omega); exact rfl)
 | ((with_reducible apply r_load_f0); exact rfl; exact inferInstance; exact List.getElem?_eq_getElem (by first | assumption | omega); exact rfl; exact rfl)
 | ((with_reducible apply r_index_vf); exact rfl; exact rfl; exact inferInstance; (first | exact rfl | assumption | omega); exact rfl; exact rfl; (first | assumption | omega); exact rfl)
 | ((with_reducible apply r_index_vf); exact rfl; exact rfl; exact inferInstance; (first | exact rfl | assumption | omega); exact rfl; exact (Int.toNat_of_nonneg (by omega)).symm; (first | assumption | omega); exact rfl)
 | ((with_reducible apply r_load_vf0); exact rfl; exact rfl; exact inferInstance; (first | exact rfl | assumption | omega); exact List.getElem?_eq_getElem (by first | assumption | omega); exact rfl; exact rfl)
 | (((with_reducible apply aw_cond); exact rfl) <;> intro hg <;> (first | (exact absurd hg (by decide)) | ((try simp only [decide_eq_true_eq, decide_eq_false_iff_not, Bool.not_eq_true', Bool.not_eq_false', Bool.not_true, Bool.not_false, Bool.not_not, Int.not_lt, Int.not_le, Nat.not_lt, Nat.not_le, gt_iff_lt, ge_iff_le, List.cons.injEq, and_true] at hg); first | (exact absurd trivial hg) | (exfalso; omega) | (have hT : True := hg; clear hT hg) | skip)))
 )
    refine ⟨(j + 1, s.set (j + 1) (s[j] + l[j])), ?_, ?_, by refine weak_mk rfl ?_ ?_ <;> repeat (first | exact envW_nil | exact heapW_nil | refine envW_cons rfl rfl ?_ | refine heapW_cons rfl rfl rfl ?_)⟩
    · show _ - (j + 1) < _ - j; omega
    · refine ⟨by show j + 1 ≤ _; omega, by simp [hs], fun i h hi => ?_⟩
      by_cases e : i = j + 1
      · subst e; rw [List.getElem_set_self, h1, h4]
      · rw [List.getElem_set_ne (by omega)]
        exact hall i (by simpa using h) (by have : i ≤ j + 1 := hi; omega)
  · skip
    repeat' (first
 | ((with_reducible apply aw_seq))
 | ((with_reducible apply aw_region))
 | ((with_reducible apply thn_normal))
 | ((with_reducible apply thn_exit))
 | ((with_reducible apply inb_exit))
 | ((with_reducible apply aw_exit))
 | ((with_reducible apply aw_ret))
 | ((with_reducible apply ao_nil))
 | ((with_reducible apply r_move); exact rfl; exact rfl)
 | ((with_reducible apply r_assign); exact rfl; exact rfl)
 | ((with_reducible apply r_lss); exact rfl; exact rfl; exact rfl)
 | (((with_reducible apply aw_cond); exact rfl) <;> intro hg <;> (first | (exact absurd hg (by decide)) | ((try simp only [decide_eq_true_eq, decide_eq_false_iff_not, Bool.not_eq_true', Bool.not_eq_false', Bool.not_true, Bool.not_false, Bool.not_not, Int.not_lt, Int.not_le, Nat.not_lt, Nat.not_le, gt_iff_lt, ge_iff_le, List.cons.injEq, and_true] at hg); first | (exact absurd trivial hg) | (exfalso; omega) | (have hT : True := hg; clear hT hg) | skip)))
 )
    have : s = sumsS l := sumsS_of hs (fun i hi => hall i hi (by omega))
    rw [← this]
    exact ret1 (.tmp rfl (cl_vec rfl (by rw [flat_len EncL.len, hs])))
theorem prefix_con (l : List Int) (hb : Bd l) (hn : l.length ≤ 2000) : Con Tryz.prog gl 65 [LI l] (LI (sumsS l)) := by
  refine con_of Tryz.func65 rfl (by kernel_rfl) rfl ?_
  simp only [Tryz.ntmps65, Tryz.results65, argEnv, ofC, of1, List.map]
  repeat' (first
 | ((with_reducible apply aw_seq))
 | ((with_reducible apply aw_region))
 | ((with_reducible apply aw_block))
 | ((with_reducible apply thn_normal))
 | ((with_reducible apply ao_nil))
 | ((with_reducible apply r_assign); exact rfl; exact rfl)
 | ((with_reducible apply r_lit); exact rfl; exact rfl; exact rfl; exact rfl; exact rfl; exact rfl; exact rfl)
 )
  refine aw_loopG (G := Nat × List Int) (fun ((j, s) : Nat × List Int) => j ≤ l.length ∧ s.length = j + 1 ∧ ∀ i (h : i < s.length), s[i] = pre l i) (fun ((j, s) : Nat × List Int) => l.length - j) (fun ((j, s) : Nat × List Int) => [(0, .c (LI l)), (3, .vec 0 (j + 1)), (4, A j)]) (fun ((j, s) : Nat × List Int) => [(0, some (.vec 3 1 (s.flatMap inC)))]) 1 (0, [0]) ?_ (by refine weak_mk rfl ?_ ?_ <;> repeat (first | exact envW_nil | exact heapW_nil | refine envW_cons rfl rfl ?_ | refine heapW_cons rfl rfl rfl ?_)) rfl ?_
  · refine ⟨Nat.zero_le _, by simp, fun i h => ?_⟩
    obtain rfl : i = 0 := by simpa using h
    simp [pre]
  rintro ⟨j, s⟩ hI
  try dsimp only at hI
  try dsimp only
  obtain ⟨hj, hs, hall⟩ := hI
  by_cases hjl : j < l.length
  · have h1 := hall j (by omega)
    have h2 := pre_le hb hn hj
    have h3 := hb j hjl
    have h4 := pre_succ l j hjl
    repeat' (first
 | (refine aw_drawt 11 ?_ ?_; (kernel_rfl); (simp only [List.take_succ_cons, List.take_zero, List.drop_succ_cons, List.drop_zero]))
 | ((with_reducible apply (r_appendl (enc := inC) (l2 := [s[j] + l[j]]))); exact rfl; exact rfl; exact inferInstance; exact hs; exact rfl; exact (by show j + 1 + 1 < _; omega); exact (by show (j + 1 + 1) * 8 ≤ _; omega); exact rfl)
 | ((with_reducible apply aw_seq))
 | ((with_reducible apply aw_region))
 | ((with_reducible apply aw_block))
 | ((with_reducible apply thn_normal))
 | ((with_reducible apply inb_normal))
 | ((with_reducible apply aw_skip))
 | ((with_reducible apply ao_nil))
 | ((with_reducible apply r_move); exact rfl; exact rfl)
 | ((with_reducible apply r_assign); exact rfl; exact rfl)
 | ((with_reducible apply r_lss); exact rfl; exact rfl; exact rfl)
 | ((with_reducible apply r_add); exact rfl; exact rfl; exact (by first | assumption | (unfold fits; omega)); exact rfl)
 | ((with_reducible apply r_len_f); exact rfl; exact inferInstance; exact rfl)
 | ((with_reducible apply r_index_f); exact rfl; exact inferInstance; exact rfl; exact rfl; (first | assumption | omega); exact rfl)
 | ((with_reducible apply r_load_f0); exact rfl; exact inferInstance; exact List.getElem?_eq_getElem (by first | assumption | omega); exact rfl; exact rfl)
 | ((with_reducible apply r_index_vf); exact rfl; exact rfl; exact inferInstance; (first | exact rfl | assumption | omega); exact rfl; exact rfl; (first | assumption | omega); exact rfl)
 | ((with_reducible apply r_load_vf0); exact rfl; exact rfl; exact inferInstance; (first | exact rfl | assumption | omega); exact List.getElem?_eq_getElem (by first | assumption | omega); exact rfl; exact rfl)
 | (((with_reducible apply aw_cond); exact rfl) <;> intro hg <;> (first | (exact absurd hg (by decide)) | ((try simp only [decide_eq_true_eq, decide_eq_false_iff_not, Bool.not_eq_true', Bool.not_eq_false', Bool.not_true, Bool.not_false, Bool.not_not, Int.not_lt, Int.not_le, Nat.not_lt, Nat.not_le, gt_iff_lt, ge_iff_le, List.cons.injEq, and_true] at hg); first | (exact absurd trivial hg) | (exfalso; omega) | (have hT : True := hg; clear hT hg) | skip)))
 | ((with_reducible apply ds_nil))
 | ((with_reducible apply r_litq); exact rfl; exact rfl; exact rfl; exact rfl; exact rfl; exact rfl; exact rfl)
 )
    refine ⟨(j + 1, s ++ [s[j] + l[j]]), ?_, ?_, by refine weak_mk rfl ?_ ?_ <;> repeat (first | exact envW_nil | exact heapW_nil | refine envW_cons rfl rfl ?_ | refine heapW_cons rfl rfl rfl ?_)⟩
    · show _ - (j + 1) < _ - j; omega
    · refine ⟨by show j + 1 ≤ _; omega, by simp [hs], fun i h => ?_⟩
      dsimp only
      by_cases e : i < s.length
      · rw [List.getElem_append_left e]; exact hall i e
      · have : i = s.length := by
          have : i < (s ++ [s[j] + l[j]]).length := h
          simp at this; omega
        subst this
        simp only [List.getElem_concat_length]
        rw [h1, ← h4]; congr 1; omega
  · skip
    repeat' (first
 | ((with_reducible apply aw_seq))
 | ((with_reducible apply aw_region))
 | ((with_reducible apply thn_normal))
 | ((with_reducible apply thn_exit))
 | ((with_reducible apply inb_exit))
 | ((with_reducible apply aw_exit))
 | ((with_reducible apply aw_ret))
 | ((with_reducible apply ao_nil))
 | ((with_reducible apply r_move); exact rfl; exact rfl)
 | ((with_reducible apply r_assign); exact rfl; exact rfl)
 | ((with_reducible apply r_lss); exact rfl; exact rfl; exact rfl)
 | ((with_reducible apply r_len_f); exact rfl; exact inferInstance; exact rfl)
 | (((with_reducible apply aw_cond); exact rfl) <;> intro hg <;> (first | (exact absurd hg (by decide)) | ((try simp only [decide_eq_true_eq, decide_eq_false_iff_not, Bool.not_eq_true', Bool.not_eq_false', Bool.not_true, Bool.not_false, Bool.not_not, Int.not_lt, Int.not_le, Nat.not_lt, Nat.not_le, gt_iff_lt, ge_iff_le, List.cons.injEq, and_true] at hg); first | (exact absurd trivial hg) | (exfalso; omega) | (have hT : True := hg; clear hT hg) | skip)))
 )
    have : s = sumsS l := sumsS_of (by omega) (fun i hi => hall i hi)
    rw [← this]
    exact ret1 (.tmp rfl (cl_vec rfl (by rw [flat_len EncL.len, hs])))
end Go.Proofs.YtkhljpbkebnnmaaGreatDoor.Cu
/- The best pieces, in plain Lean: no program here. -/
namespace Go.Proofs.YtkhljpbkebnnmaaGreatDoor.Cu
set_option linter.unusedVariables false
set_option linter.unusedSimpArgs false
open Go.RowKit Go.Proofs.YtkhljpbkebnnmaaGreatDoor.Ev
abbrev Ch := Int × Int × Int
def dp (l : Line) (k : Int) : Int := pre l.dust k.toNat
def cp (l : Line) (k : Int) : Int := pre l.chip k.toNat
def OkP (l : Line) (i : Nat) (p : Int) : Prop := p + szOf l i ≤ l.len ∧ 0 ≤ gOf l i p
instance (l : Line) (i : Nat) (p : Int) : Decidable (OkP l i p) := by unfold OkP; infer_instance
def candV (l : Line) (V : Int → Int) (i : Nat) (p : Int) : Int :=
  gOf l i p + (if 0 ≤ behindS l (p + szOf l i) then dp l (behindS l (p + szOf l i)) - dp l (p + szOf l i) + V (behindS l (p + szOf l i)) else 0)
def stS (l : Line) (V : Int → Int) (p : Int) : Nat → Ch
  | 0 => (-1, -1, 0)
  | k + 1 => if OkP l k p ∧ ((stS l V p k).1 < 0 ∨ (stS l V p k).2.2 < candV l V k p) then ((k : Int), p, candV l V k p) else stS l V p k
def grp (l : Line) (V : Int → Int) (paid p : Int) : Nat → Ch → Ch
  | 0, b => b
  | k + 1, b => if OkP l k p ∧ (grp l V paid p k b).2.2 < paid + candV l V k p then ((k : Int), p, paid + candV l V k p) else grp l V paid p k b
def atP (l : Line) (e : Int) (m : Nat) : Int := e + m * l.pitch + l.kerf
def paidP (l : Line) (e q : Int) : Int := cp l (q - l.kerf) - cp l e + dp l q - dp l (q - l.kerf)
def posS (l : Line) (V : Int → Int) (e : Int) : Nat → Ch
  | 0 => grp l V 0 e l.sizes.length (-1, -1, cp l l.len - cp l e)
  | m + 1 => if atP l e (m + 1) ≤ l.len then grp l V (paidP l e (atP l e (m + 1))) (atP l e (m + 1)) l.sizes.length (posS l V e m) else posS l V e m
def chooseS (l : Line) (V : Int → Int) (e : Int) : Ch := posS l V e l.len.toNat
def Tb (l : Line) : Nat → Int → Ch
  | 0, _ => (-1, -1, 0)
  | n + 1, e => chooseS l (fun e' => (Tb l n e').2.2) e
def TT (l : Line) (e : Int) : Ch := Tb l (l.len.toNat + 1) e
def TV (l : Line) (e : Int) : Int := (TT l e).2.2
theorem atP_succ (l : Line) (e : Int) (m : Nat) : atP l e (m + 1) = atP l e m + l.pitch := by
  unfold atP
  rw [show ((m + 1 : Nat) : Int) = (m : Int) + 1 by omega, Int.add_mul]; omega
theorem atP_ge {l : Line} (v : Valid l) (e : Int) : ∀ m : Nat, e + l.kerf + m ≤ atP l e m
  | 0 => by unfold atP; omega
  | m + 1 => by
    have := atP_ge v e m
    have := v.pitch
    rw [atP_succ]; omega
theorem stS_sgn (l : Line) (V : Int → Int) (p : Int) : ∀ k, stS l V p k = (-1, -1, 0) ∨ (0 ≤ (stS l V p k).1 ∧ (stS l V p k).1 < k ∧ (stS l V p k).2.1 = p ∧ OkP l (stS l V p k).1.toNat p ∧ (stS l V p k).2.2 = candV l V (stS l V p k).1.toNat p)
  | 0 => .inl rfl
  | k + 1 => by
    unfold stS
    split
    · rename_i h
      exact .inr ⟨by simp, by simp; omega, rfl, by simpa using h.1, by simp⟩
    · rcases stS_sgn l V p k with h | ⟨h1, h2, h3⟩
      · exact .inl h
      · exact .inr ⟨h1, by omega, h3⟩
theorem grp_st (l : Line) (V : Int → Int) (paid p : Int) (b : Ch) : ∀ k, grp l V paid p k b = if 0 ≤ (stS l V p k).1 ∧ b.2.2 < (stS l V p k).2.2 + paid then ((stS l V p k).1, p, (stS l V p k).2.2 + paid) else b
  | 0 => by simp [grp, stS]
  | k + 1 => by
    unfold grp stS
    rw [grp_st l V paid p b k]
    have hs := stS_sgn l V p k
    generalize stS l V p k = s at *
    generalize candV l V k p = c at *
    by_cases ho : OkP l k p
    · simp only [ho, true_and]
      by_cases h2 : s.1 < 0 ∨ s.2.2 < c
      · rw [if_pos h2]
        dsimp only
        by_cases h1 : 0 ≤ s.1 ∧ b.2.2 < s.2.2 + paid
        · rw [if_pos h1, if_pos (by show s.2.2 + paid < paid + c; omega), if_pos (by omega), Int.add_comm]
        · rw [if_neg h1]
          by_cases h3 : b.2.2 < paid + c
          · rw [if_pos h3, if_pos (by omega), Int.add_comm]
          · rw [if_neg h3, if_neg (by omega)]
      · rw [if_neg h2]
        by_cases h1 : 0 ≤ s.1 ∧ b.2.2 < s.2.2 + paid
        · rw [if_pos h1, if_neg (by show ¬ s.2.2 + paid < paid + c; omega)]
        · rw [if_neg h1, if_neg (by omega)]
    · simp only [ho, false_and, if_false]
theorem posS_succ (l : Line) (V : Int → Int) (e : Int) (m : Nat) : posS l V e (m + 1) = if atP l e (m + 1) ≤ l.len then grp l V (paidP l e (atP l e (m + 1))) (atP l e (m + 1)) l.sizes.length (posS l V e m) else posS l V e m := rfl
theorem posS_stop {l : Line} (v : Valid l) (V : Int → Int) (e : Int) {m : Nat} (h : l.len < atP l e (m + 1)) : ∀ k, posS l V e (m + k) = posS l V e m
  | 0 => rfl
  | k + 1 => by
    have hm : ∀ j : Nat, atP l e (m + 1) ≤ atP l e (m + 1 + j) := by
      intro j
      induction j with
      | zero => exact Int.le_refl _
      | succ j ih => have := v.pitch; rw [show m + 1 + (j + 1) = (m + 1 + j) + 1 by omega, atP_succ l e (m + 1 + j)]; omega
    have := hm k
    rw [show m + (k + 1) = (m + k) + 1 by omega, posS_succ, if_neg (by rw [show m + k + 1 = m + 1 + k by omega]; omega)]
    exact posS_stop v V e h k
theorem posS_end {l : Line} (v : Valid l) (V : Int → Int) {e : Int} (he : 0 ≤ e) {m : Nat} (h : l.len < atP l e (m + 1)) : posS l V e m = chooseS l V e := by
  have h2 : l.len < atP l e (l.len.toNat + 1) := by
    have := atP_ge v e (l.len.toNat + 1)
    have := v.kerf; have := v.len
    omega
  unfold chooseS
  rw [← posS_stop v V e h l.len.toNat, ← posS_stop v V e h2 m, Nat.add_comm]
theorem beh_cases {l : Line} (v : Valid l) {q : Int} (h0 : 0 ≤ q) (h1 : q ≤ l.len) : (q = l.len ∧ behindS l q = -1) ∨ (q < l.len ∧ q ≤ behindS l q ∧ behindS l q ≤ l.len ∧ behindS l q = min (q + l.kerf) l.len) := by
  unfold behindS
  have := v.kerf
  by_cases hc : q = l.len
  · exact .inl ⟨hc, if_pos hc⟩
  · rw [if_neg hc]; exact .inr ⟨by omega, by omega, by omega, rfl⟩
theorem sz_pos {l : Line} (v : Valid l) {i : Nat} (h : i < l.sizes.length) : 1 ≤ szOf l i := by
  rw [szOf_nat h]; exact (v.size i h).1
theorem candV_congr {l : Line} (v : Valid l) {V V' : Int → Int} {e p : Int} (he : 0 ≤ e) (hp : e ≤ p) (h : ∀ x, e < x → x ≤ l.len → V x = V' x) {i : Nat} (hi : i < l.sizes.length) (ho : OkP l i p) : candV l V i p = candV l V' i p := by
  have hs := sz_pos v hi
  unfold candV
  rcases beh_cases v (q := p + szOf l i) (by omega) ho.1 with ⟨_, hb⟩ | ⟨_, h1, h2, _⟩
  · rw [hb]; simp
  · rw [h _ (by omega) h2]
theorem stS_congr {l : Line} (v : Valid l) {V V' : Int → Int} {e p : Int} (he : 0 ≤ e) (hp : e ≤ p) (h : ∀ x, e < x → x ≤ l.len → V x = V' x) : ∀ k, k ≤ l.sizes.length → stS l V p k = stS l V' p k
  | 0, _ => rfl
  | k + 1, hk => by
    unfold stS
    rw [stS_congr v he hp h k (by omega)]
    by_cases ho : OkP l k p
    · rw [candV_congr v he hp h (by omega) ho]
    · rw [if_neg (fun hh => ho hh.1), if_neg (fun hh => ho hh.1)]
theorem grp_congr {l : Line} (v : Valid l) {V V' : Int → Int} {e p : Int} (he : 0 ≤ e) (hp : e ≤ p) (h : ∀ x, e < x → x ≤ l.len → V x = V' x) (paid : Int) (b : Ch) : grp l V paid p l.sizes.length b = grp l V' paid p l.sizes.length b := by
  rw [grp_st, grp_st, stS_congr v he hp h _ (Nat.le_refl _)]
theorem posS_congr {l : Line} (v : Valid l) {V V' : Int → Int} {e : Int} (he : 0 ≤ e) (h : ∀ x, e < x → x ≤ l.len → V x = V' x) : ∀ m, posS l V e m = posS l V' e m
  | 0 => by unfold posS; exact grp_congr v he (Int.le_refl _) h _ _
  | m + 1 => by
    have := atP_ge v e (m + 1)
    have := v.kerf
    unfold posS
    rw [posS_congr v he h m, grp_congr v he (by omega) h]
theorem T_fuel {l : Line} (v : Valid l) : ∀ (n m : Nat) (e : Int), 0 ≤ e → e ≤ l.len → l.len - e < n → l.len - e < m → Tb l n e = Tb l m e
  | 0, _, e, _, _, _, _ => by omega
  | n + 1, 0, e, _, _, _, _ => by omega
  | n + 1, m + 1, e, h0, h1, h2, h3 => by
    unfold Tb chooseS
    exact posS_congr v h0 (fun x hx hx2 => by
      show (Tb l n x).2.2 = (Tb l m x).2.2
      rw [T_fuel v n m x (by omega) hx2 (by omega) (by omega)]) _
theorem TT_eq {l : Line} (v : Valid l) {e : Int} (h0 : 0 ≤ e) (h1 : e ≤ l.len) : TT l e = chooseS l (TV l) e := by
  unfold TT
  rw [T_fuel v (l.len.toNat + 1) (l.len.toNat + 1 + 1) e h0 h1 (by omega) (by omega)]
  rfl
def VB (l : Line) (V : Int → Int) (e : Int) : Prop := ∀ x, e < x → x ≤ l.len → -1125899906842624 * (l.len - x) ≤ V x ∧ V x ≤ 1125899906842624 * (l.len - x)
theorem gOf_bd {l : Line} (v : Valid l) {i : Nat} (hi : i < l.sizes.length) {p : Int} (h0 : 0 ≤ p) (h1 : p + szOf l i ≤ l.len) : -1125899906842624 ≤ gOf l i p ∧ gOf l i p ≤ 1125899906842624 := by
  rw [szOf_nat hi] at h1
  obtain ⟨j, rfl, h2, h3, h4⟩ := gOf_eq v hi h0 (by omega)
  rw [h4]; exact v.gains _ h2 _ h3
theorem dp_bd {l : Line} (v : Valid l) {a b : Int} (h0 : 0 ≤ a) (h1 : a ≤ b) (h2 : b ≤ l.len) : -1125899906842624 * (b - a) ≤ dp l b - dp l a ∧ dp l b - dp l a ≤ 1125899906842624 * (b - a) := by
  have hd := v.dust
  have := pre_bd' v.dusts a.toNat b.toNat (by omega) (by omega)
  unfold dp
  rw [show (a.toNat : Int) = a by omega, show (b.toNat : Int) = b by omega] at this
  exact this
theorem cp_bd {l : Line} (v : Valid l) {a b : Int} (h0 : 0 ≤ a) (h1 : a ≤ b) (h2 : b ≤ l.len) : -1125899906842624 * (b - a) ≤ cp l b - cp l a ∧ cp l b - cp l a ≤ 1125899906842624 * (b - a) := by
  have hd := v.chip
  have := pre_bd' v.chips a.toNat b.toNat (by omega) (by omega)
  unfold cp
  rw [show (a.toNat : Int) = a by omega, show (b.toNat : Int) = b by omega] at this
  exact this
theorem candV_bd {l : Line} (v : Valid l) {V : Int → Int} {e p : Int} (he : 0 ≤ e) (hp : e ≤ p) (h : VB l V e) {i : Nat} (hi : i < l.sizes.length) (ho : OkP l i p) : -1125899906842624 * (l.len - p) ≤ candV l V i p ∧ candV l V i p ≤ 1125899906842624 * (l.len - p) := by
  have hs := sz_pos v hi
  have hg := gOf_bd v hi (by omega) ho.1
  have ho1 := ho.1
  unfold candV
  rcases beh_cases v (q := p + szOf l i) (by omega) ho.1 with ⟨_, hb⟩ | ⟨_, h1, h2, _⟩
  · rw [hb, if_neg (by omega)]; omega
  · rw [if_pos (by omega)]
    have h3 := dp_bd v (by omega) h1 h2
    have h4 := h _ (by omega) h2
    omega
theorem stS_bd {l : Line} (v : Valid l) {V : Int → Int} {e p : Int} (he : 0 ≤ e) (hp : e ≤ p) (hpl : p ≤ l.len) (h : VB l V e) {k : Nat} (hk : k ≤ l.sizes.length) : -1125899906842624 * (l.len - p) ≤ (stS l V p k).2.2 ∧ (stS l V p k).2.2 ≤ 1125899906842624 * (l.len - p) := by
  rcases stS_sgn l V p k with h1 | ⟨h1, h2, h3, h4, h5⟩
  · rw [h1]; dsimp only; omega
  · rw [h5]; exact candV_bd v he hp h (by omega) h4
theorem paidP_bd {l : Line} (v : Valid l) {e q : Int} (he : 0 ≤ e) (h1 : e ≤ q - l.kerf) (h2 : q ≤ l.len) : -1125899906842624 * (q - e) ≤ paidP l e q ∧ paidP l e q ≤ 1125899906842624 * (q - e) := by
  have := v.kerf
  have a1 := cp_bd v he h1 (by omega)
  have a2 := dp_bd v (a := q - l.kerf) (b := q) (by omega) (by omega) h2
  unfold paidP
  omega
theorem posS_bd {l : Line} (v : Valid l) {V : Int → Int} {e : Int} (he : 0 ≤ e) (hel : e ≤ l.len) (h : VB l V e) : ∀ m, -1125899906842624 * (l.len - e) ≤ (posS l V e m).2.2 ∧ (posS l V e m).2.2 ≤ 1125899906842624 * (l.len - e)
  | 0 => by
    have := stS_bd v he (Int.le_refl _) hel h (Nat.le_refl _)
    have := cp_bd v he hel (Int.le_refl _)
    unfold posS
    rw [grp_st]
    split <;> dsimp only <;> omega
  | m + 1 => by
    have ih := posS_bd v he hel h m
    unfold posS
    split
    · rename_i hq
      have h1 := atP_ge v e (m + 1)
      have := v.kerf
      generalize atP l e (m + 1) = q at *
      have h2 := stS_bd v he (p := q) (by omega) hq h (Nat.le_refl _)
      have h3 := paidP_bd v he (q := q) (by omega) hq
      rw [grp_st]
      split
      · dsimp only; omega
      · exact ih
    · exact ih
theorem T_bd {l : Line} (v : Valid l) : ∀ (n : Nat) (e : Int), 0 ≤ e → e ≤ l.len → -1125899906842624 * (l.len - e) ≤ (Tb l n e).2.2 ∧ (Tb l n e).2.2 ≤ 1125899906842624 * (l.len - e)
  | 0, e, h0, h1 => by unfold Tb; dsimp only; omega
  | n + 1, e, h0, h1 => posS_bd v h0 h1 (fun x hx hx2 => T_bd v n x (by omega) hx2) _
theorem TV_bd {l : Line} (v : Valid l) {e : Int} (he : 0 ≤ e) : VB l (TV l) e := fun x hx hx2 => T_bd v _ x (by omega) hx2
theorem posS_sgn (l : Line) (V : Int → Int) (e : Int) : ∀ m, ((posS l V e m).1 = -1 ∧ (posS l V e m).2.1 = -1) ∨ ∃ q, (q = e ∨ ∃ j : Nat, 1 ≤ j ∧ q = atP l e j ∧ q ≤ l.len) ∧ 0 ≤ (posS l V e m).1 ∧ (posS l V e m).1 < l.sizes.length ∧ (posS l V e m).2.1 = q ∧ OkP l (posS l V e m).1.toNat q
  | 0 => by
    unfold posS
    rw [grp_st]
    split
    · rename_i h
      rcases stS_sgn l V e l.sizes.length with h1 | ⟨h1, h2, h3, h4, h5⟩
      · rw [h1] at h; simp at h
      · exact .inr ⟨e, .inl rfl, h1, h2, rfl, h4⟩
    · exact .inl ⟨rfl, rfl⟩
  | m + 1 => by
    unfold posS
    split
    · rename_i hq
      rw [grp_st]
      split
      · rename_i h
        rcases stS_sgn l V (atP l e (m + 1)) l.sizes.length with h1 | ⟨h1, h2, h3, h4, h5⟩
        · rw [h1] at h; simp at h
        · exact .inr ⟨_, .inr ⟨m + 1, by omega, rfl, hq⟩, h1, h2, rfl, h4⟩
      · exact posS_sgn l V e m
    · exact posS_sgn l V e m
end Go.Proofs.YtkhljpbkebnnmaaGreatDoor.Cu
/- Walks of cutting: the best piece that begins at a position. -/
namespace Go.Proofs.YtkhljpbkebnnmaaGreatDoor.Cu
set_option linter.unusedVariables false
set_option linter.unusedSimpArgs false
open Go.RowKit Go.Proofs.YtkhljpbkebnnmaaGreatDoor.Ev
abbrev G : List (Nat × List CV) := [(0, [I (-1), I (-1)])]
def chC (c : Ch) : List CV := [I c.1, I c.2.1, I c.2.2]
instance : EncL chC 3 := ⟨fun _ => rfl, by decide, fun _ => rfl⟩
abbrev LC (l : List Ch) : CV := .lst 3 (l.flatMap chC)
def VE (es : List Ch) (x : Int) : Int := (es.getD x.toNat (0, 0, 0)).2.2
theorem VE_get {es : List Ch} {k : Nat} (h : k < es.length) : es[k].2.2 = VE es k := by
  unfold VE; rw [Int.toNat_natCast, List.getD_eq_getElem?_getD, List.getElem?_eq_getElem h]; rfl
theorem VE_int {es : List Ch} {k : Int} (h0 : 0 ≤ k) (h : k.toNat < es.length) : es[k.toNat].2.2 = VE es k := by
  rw [VE_get h, Int.toNat_of_nonneg h0]
theorem dp_get {l : Line} {k : Int} (h : k.toNat < (sumsS l.dust).length) : (sumsS l.dust)[k.toNat] = dp l k := sumsS_get _ _ _
theorem cp_get {l : Line} {k : Int} (h : k.toNat < (sumsS l.chip).length) : (sumsS l.chip)[k.toNat] = cp l k := sumsS_get _ _ _
theorem gOf_get {l : Line} {k : Nat} {p : Int} (h : k < l.gain.length) (h2 : p.toNat < l.gain[k].length) : gOf l k p = l.gain[k][p.toNat] := by
  unfold gOf
  rw [Int.toNat_natCast, List.getD_eq_getElem?_getD, List.getD_eq_getElem?_getD, List.getElem?_eq_getElem h]
  simp only [Option.getD_some]
  rw [List.getElem?_eq_getElem h2]; rfl
theorem dp_le {l : Line} (v : Valid l) {k : Int} (h1 : k ≤ l.len) : -1125899906842624 * 2000 ≤ dp l k ∧ dp l k ≤ 1125899906842624 * 2000 := by
  have := v.len; have := v.dust
  exact pre_le v.dusts (by omega) (by omega)
theorem cp_le {l : Line} (v : Valid l) {k : Int} (h1 : k ≤ l.len) : -1125899906842624 * 2000 ≤ cp l k ∧ cp l k ≤ 1125899906842624 * 2000 := by
  have := v.len; have := v.chip
  exact pre_le v.chips (by omega) (by omega)
theorem st_no {l : Line} {V : Int → Int} {p : Int} {k : Nat} (h : ¬ OkP l k p) : stS l V p (k + 1) = stS l V p k := by
  show (if _ then _ else _) = _
  rw [if_neg (fun hh => h hh.1)]
theorem st_yes {l : Line} {V : Int → Int} {p c : Int} {k : Nat} (h : OkP l k p) (hc : candV l V k p = c) (hb : (stS l V p k).1 < 0 ∨ (stS l V p k).2.2 < c) : stS l V p (k + 1) = ((k : Int), p, c) := by
  show (if _ then _ else _) = _
  rw [hc, if_pos ⟨h, hb⟩]
theorem st_keep {l : Line} {V : Int → Int} {p c : Int} {k : Nat} (hc : candV l V k p = c) (hb : ¬ ((stS l V p k).1 < 0 ∨ (stS l V p k).2.2 < c)) : stS l V p (k + 1) = stS l V p k := by
  show (if _ then _ else _) = _
  rw [hc, if_neg (fun hh => hb hh.2)]
theorem start_con (l : Line) (v : Valid l) (p : Int) (hp0 : 0 ≤ p) (hp1 : p ≤ l.len) (es : List Ch) (hes : (es.length : Int) = l.len + 1) (hV : VB l (VE es) p) : Con Tryz.prog G 96 [lineC l, I p, LI (sumsS l.dust), LC es] (.agg [I (stS l (VE es) p l.sizes.length).1, I (stS l (VE es) p l.sizes.length).2.1, I (stS l (VE es) p l.sizes.length).2.2]) := by
  have hl := v.len
  have hlk := v.kerf
  have hld := v.dust
  have hsl := sumsS_len l.dust
  have hss := v.sizes
  refine con_of Tryz.func96 rfl (by kernel_rfl) rfl ?_
  simp only [Tryz.ntmps96, Tryz.results96, argEnv, ofC, of1, List.map, lineC, lineL]
  repeat' (first
 | ((with_reducible apply (r_load_ea (zs := [I (-1), I (-1)]) (ys := []))); exact rfl; exact rfl; exact rfl; exact rfl)
 | ((with_reducible apply aw_seq))
 | ((with_reducible apply aw_region))
 | ((with_reducible apply aw_block))
 | ((with_reducible apply thn_normal))
 | ((with_reducible apply ao_nil))
 | ((with_reducible apply r_move); exact rfl; exact rfl)
 | ((with_reducible apply r_field_p); exact rfl; exact rfl)
 | ((with_reducible apply r_load_p); exact rfl; exact rfl; exact rfl; exact rfl)
 | ((with_reducible apply r_box_a); exact rfl; exact rfl)
 | ((with_reducible apply r_len_f); exact rfl; exact inferInstance; exact rfl)
 | ((with_reducible apply r_store_pa); exact rfl; exact rfl; exact rfl; exact rfl; exact rfl; exact rfl)
 | ((with_reducible apply r_build); exact rfl; exact rfl; exact rfl)
 | ((with_reducible apply r_alloc); exact rfl)
 )
  refine aw_loopG (G := Nat × Ch) (fun ((k, b) : Nat × Ch) => k ≤ l.sizes.length ∧ b = stS l (VE es) p k) (fun ((k, b) : Nat × Ch) => l.sizes.length - k) (fun ((k, b) : Nat × Ch) => [(1, A p), (2, .c (LI (sumsS l.dust))), (3, .c (LC es)), (4, .ptr 0 0), (8, .ptr 1 0), (9, .ptr 2 0), (18, .c (LI l.sizes)), (19, A l.sizes.length), (20, A k)]) (fun ((k, b) : Nat × Ch) => [(0, some (lineB l)), (1, some (.cells 108 [A 0, A 0, A 0])), (2, some (.cells 108 [A b.1, A b.2.1, A b.2.2]))]) 3 (0, (-1, -1, 0)) ?_ (by refine weak_mk rfl ?_ ?_ <;> repeat (first | exact envW_nil | exact heapW_nil | refine envW_cons rfl rfl ?_ | refine heapW_cons rfl rfl rfl ?_)) rfl ?_
  · exact ⟨Nat.zero_le _, rfl⟩
  rintro ⟨k, b⟩ hI
  try dsimp only at hI
  try dsimp only
  obtain ⟨hk, hb⟩ := hI
  by_cases hkl : k < l.sizes.length
  · have hsk := v.size k hkl
    have hgk : k < l.gain.length := by have := v.gain; omega
    have hrow := v.row k hgk hkl
    have hsz := szOf_nat hkl
    have hbs := stS_bd v hp0 (Int.le_refl p) hp1 hV (Nat.le_of_lt hkl)
    have hsg := stS_sgn l (VE es) p k
    rw [← hb] at hbs hsg
    have hs2 : (b.1 = -1 ∧ b.2.1 = -1) ∨ 0 ≤ b.1 := by
      rcases hsg with h | h
      · left; rw [h]; exact ⟨rfl, rfl⟩
      · right; exact h.1
    by_cases ho1 : p + l.sizes[k] ≤ l.len
    · have hpl : p.toNat < l.gain[k].length := by omega
      have hgo := gOf_get hgk hpl
      have hgb := v.gains k hgk p.toNat hpl
      by_cases ho2 : 0 ≤ l.gain[k][p.toNat]
      · have hok : OkP l k p := ⟨by rw [hsz]; exact ho1, by rw [hgo]; exact ho2⟩
        have hcb := candV_bd v hp0 (Int.le_refl p) hV hkl hok
        have hcv : candV l (VE es) k p = candV l (VE es) k p := rfl
        conv at hcv => rhs; unfold candV
        rw [hsz, hgo] at hcv
        have hbc := behind_con (gl := G) l (p + l.sizes[k]) (by unfold fits; omega)
        have hbe := beh_cases v (q := p + l.sizes[k]) (by omega) ho1
        generalize behindS l (p + l.sizes[k]) = be at hbc hbe hcv
        rcases hbe with ⟨hq, hbe⟩ | ⟨hq, hb1, hb2, hb3⟩
        · rw [if_neg (by omega)] at hcv
          repeat' (first
 | ((with_reducible apply (r_load_ea (zs := [I (-1), I (-1)]) (ys := []))); exact rfl; exact rfl; exact rfl; exact rfl)
 | ((with_reducible apply r_call); exact rfl; exact rfl; exact hbc; exact rfl; exact rfl)
 | ((with_reducible apply aw_seq))
 | ((with_reducible apply aw_region))
 | ((with_reducible apply aw_block))
 | ((with_reducible apply thn_normal))
 | ((with_reducible apply inb_normal))
 | ((with_reducible apply aw_skip))
 | ((with_reducible apply ao_nil))
 | ((with_reducible apply r_move); exact rfl; exact rfl)
 | ((with_reducible apply r_assign); exact rfl; exact rfl)
 | ((with_reducible apply r_field_p); exact rfl; exact rfl)
 | ((with_reducible apply r_load_p); exact rfl; exact rfl; exact rfl; exact rfl)
 | ((with_reducible apply r_load_pa); exact rfl; exact rfl; exact rfl; exact rfl; exact rfl)
 | ((with_reducible apply r_lss); exact rfl; exact rfl; exact rfl)
 | ((with_reducible apply r_gtr); exact rfl; exact rfl; exact rfl)
 | ((with_reducible apply r_geq); exact rfl; exact rfl; exact rfl)
 | ((with_reducible apply r_add); exact rfl; exact rfl; exact (by first | assumption | (unfold fits; omega)); exact rfl)
 | ((with_reducible apply r_pick_t); exact rfl; exact rfl; exact rfl)
 | ((with_reducible apply r_pick_f); exact rfl; exact rfl; exact rfl)
 | ((with_reducible apply r_index_f); exact rfl; exact inferInstance; exact rfl; exact rfl; (first | assumption | omega); exact rfl)
 | ((with_reducible apply r_index_f); exact rfl; exact inferInstance; exact rfl; exact (Int.toNat_of_nonneg (by omega)).symm; (first | assumption | omega); exact rfl)
 | ((with_reducible apply r_load_f0); exact rfl; exact inferInstance; exact List.getElem?_eq_getElem (by first | assumption | omega); exact rfl; exact rfl)
 | ((with_reducible apply r_store_pa); exact rfl; exact rfl; exact rfl; exact rfl; exact rfl; exact rfl)
 | ((with_reducible apply r_build); exact rfl; exact rfl; exact rfl)
 | ((with_reducible apply r_alloc); exact rfl)
 | (((with_reducible apply r_guard); exact rfl; exact rfl; exact rfl; exact rfl) <;> intro hg <;> (first | (exact absurd hg (by decide)) | ((try simp only [decide_eq_true_eq, decide_eq_false_iff_not, Bool.not_eq_true', Bool.not_eq_false', Bool.not_true, Bool.not_false, Bool.not_not, Int.not_lt, Int.not_le, Nat.not_lt, Nat.not_le, gt_iff_lt, ge_iff_le, List.cons.injEq, and_true] at hg); first | (exact absurd trivial hg) | (exfalso; omega) | (have hT : True := hg; clear hT hg) | skip)))
 | (((with_reducible apply aw_cond); exact rfl) <;> intro hg <;> (first | (exact absurd hg (by decide)) | ((try simp only [decide_eq_true_eq, decide_eq_false_iff_not, Bool.not_eq_true', Bool.not_eq_false', Bool.not_true, Bool.not_false, Bool.not_not, Int.not_lt, Int.not_le, Nat.not_lt, Nat.not_le, gt_iff_lt, ge_iff_le, List.cons.injEq, and_true] at hg); first | (exact absurd trivial hg) | (exfalso; omega) | (have hT : True := hg; clear hT hg) | skip)))
 | ((with_reducible apply r_eqs); exact rfl; exact rfl; exact rfl; exact rfl; exact rfl; exact rfl; exact rfl)
 )
          · skip
            refine ⟨(k + 1, ((k : Int), p, l.gain[k][p.toNat])), ?_, ?_, by refine weak_mk rfl ?_ ?_ <;> repeat (first | exact envW_nil | exact heapW_nil | refine envW_cons rfl rfl ?_ | refine heapW_cons rfl rfl rfl ?_)⟩
            · show _ - (k + 1) < _ - k; omega
            · exact ⟨by show k + 1 ≤ _; omega, (st_yes hok (hcv.trans (by omega)) (by rw [← hb]; omega)).symm⟩
          · skip
            refine ⟨(k + 1, b), ?_, ?_, by refine weak_mk rfl ?_ ?_ <;> repeat (first | exact envW_nil | exact heapW_nil | refine envW_cons rfl rfl ?_ | refine heapW_cons rfl rfl rfl ?_)⟩
            · show _ - (k + 1) < _ - k; omega
            · exact ⟨by show k + 1 ≤ _; omega, by show b = _; rw [st_keep hcv (by rw [← hb]; omega)]; exact hb⟩
          · skip
            refine ⟨(k + 1, ((k : Int), p, l.gain[k][p.toNat])), ?_, ?_, by refine weak_mk rfl ?_ ?_ <;> repeat (first | exact envW_nil | exact heapW_nil | refine envW_cons rfl rfl ?_ | refine heapW_cons rfl rfl rfl ?_)⟩
            · show _ - (k + 1) < _ - k; omega
            · exact ⟨by show k + 1 ≤ _; omega, (st_yes hok (hcv.trans (by omega)) (by rw [← hb]; omega)).symm⟩
        · rw [if_pos (by omega)] at hcv
          have hd1 := dp_get (l := l) (k := be) (by omega)
          have hd2 := dp_get (l := l) (k := p + l.sizes[k]) (by omega)
          have he1 := VE_int (es := es) (k := be) (by omega) (by omega)
          have hd3 := dp_le v (k := be) hb2
          have hd4 := dp_le v (k := p + l.sizes[k]) ho1
          have hd5 := hV be (by omega) hb2
          rw [← hd1, ← hd2, ← he1] at hcv
          rw [← hd1] at hd3
          rw [← hd2] at hd4
          rw [← he1] at hd5
          repeat' (first
 | ((with_reducible apply (r_load_ea (zs := [I (-1), I (-1)]) (ys := []))); exact rfl; exact rfl; exact rfl; exact rfl)
 | ((with_reducible apply r_call); exact rfl; exact rfl; exact hbc; exact rfl; exact rfl)
 | (refine aw_drawt 19 ?_ ?_; (kernel_rfl); (simp only [List.take_succ_cons, List.take_zero, List.drop_succ_cons, List.drop_zero]))
 | ((with_reducible apply aw_seq))
 | ((with_reducible apply aw_region))
 | ((with_reducible apply aw_block))
 | ((with_reducible apply thn_normal))
 | ((with_reducible apply inb_normal))
 | ((with_reducible apply aw_skip))
 | ((with_reducible apply ao_nil))
 | ((with_reducible apply r_move); exact rfl; exact rfl)
 | ((with_reducible apply r_assign); exact rfl; exact rfl)
 | ((with_reducible apply r_field_p); exact rfl; exact rfl)
 | ((with_reducible apply r_load_p); exact rfl; exact rfl; exact rfl; exact rfl)
 | ((with_reducible apply r_load_pa); exact rfl; exact rfl; exact rfl; exact rfl; exact rfl)
 | ((with_reducible apply r_lss); exact rfl; exact rfl; exact rfl)
 | ((with_reducible apply r_gtr); exact rfl; exact rfl; exact rfl)
 | ((with_reducible apply r_geq); exact rfl; exact rfl; exact rfl)
 | ((with_reducible apply r_add); exact rfl; exact rfl; exact (by first | assumption | (unfold fits; omega)); exact rfl)
 | ((with_reducible apply r_sub); exact rfl; exact rfl; exact (by first | assumption | (unfold fits; omega)); exact rfl)
 | ((with_reducible apply r_pick_t); exact rfl; exact rfl; exact rfl)
 | ((with_reducible apply r_pick_f); exact rfl; exact rfl; exact rfl)
 | ((with_reducible apply r_index_f); exact rfl; exact inferInstance; exact rfl; exact rfl; (first | assumption | omega); exact rfl)
 | ((with_reducible apply r_index_f); exact rfl; exact inferInstance; exact rfl; exact (Int.toNat_of_nonneg (by omega)).symm; (first | assumption | omega); exact rfl)
 | ((with_reducible apply r_load_f0); exact rfl; exact inferInstance; exact List.getElem?_eq_getElem (by first | assumption | omega); exact rfl; exact rfl)
 | ((with_reducible apply r_load_f); exact rfl; exact inferInstance; exact List.getElem?_eq_getElem (by first | assumption | omega); exact rfl; exact rfl; exact rfl)
 | ((with_reducible apply r_field_e); exact rfl; exact rfl)
 | ((with_reducible apply r_store_p); exact rfl; exact rfl; exact rfl; exact rfl; exact rfl; exact rfl)
 | ((with_reducible apply r_store_pa); exact rfl; exact rfl; exact rfl; exact rfl; exact rfl; exact rfl)
 | ((with_reducible apply r_build); exact rfl; exact rfl; exact rfl)
 | ((with_reducible apply r_alloc); exact rfl)
 | (((with_reducible apply r_guard); exact rfl; exact rfl; exact rfl; exact rfl) <;> intro hg <;> (first | (exact absurd hg (by decide)) | ((try simp only [decide_eq_true_eq, decide_eq_false_iff_not, Bool.not_eq_true', Bool.not_eq_false', Bool.not_true, Bool.not_false, Bool.not_not, Int.not_lt, Int.not_le, Nat.not_lt, Nat.not_le, gt_iff_lt, ge_iff_le, List.cons.injEq, and_true] at hg); first | (exact absurd trivial hg) | (exfalso; omega) | (have hT : True := hg; clear hT hg) | skip)))
 | (((with_reducible apply aw_cond); exact rfl) <;> intro hg <;> (first | (exact absurd hg (by decide)) | ((try simp only [decide_eq_true_eq, decide_eq_false_iff_not, Bool.not_eq_true', Bool.not_eq_false', Bool.not_true, Bool.not_false, Bool.not_not, Int.not_lt, Int.not_le, Nat.not_lt, Nat.not_le, gt_iff_lt, ge_iff_le, List.cons.injEq, and_true] at hg); first | (exact absurd trivial hg) | (exfalso; omega) | (have hT : True := hg; clear hT hg) | skip)))
 | ((with_reducible apply ds_nil))
 | ((with_reducible apply r_eqs); exact rfl; exact rfl; exact rfl; exact rfl; exact rfl; exact rfl; exact rfl)
 )
          · skip
            refine ⟨(k + 1, ((k : Int), p, l.gain[k][p.toNat] + ((sumsS l.dust)[be.toNat]'(by omega) - (sumsS l.dust)[(p + l.sizes[k]).toNat]'(by omega) + (es[be.toNat]'(by omega)).2.2))), ?_, ?_, by refine weak_mk rfl ?_ ?_ <;> repeat (first | exact envW_nil | exact heapW_nil | refine envW_cons rfl rfl ?_ | refine heapW_cons rfl rfl rfl ?_)⟩
            · show _ - (k + 1) < _ - k; omega
            · exact ⟨by show k + 1 ≤ _; omega, (st_yes hok (hcv.trans (by omega)) (by rw [← hb]; omega)).symm⟩
          · skip
            refine ⟨(k + 1, b), ?_, ?_, by refine weak_mk rfl ?_ ?_ <;> repeat (first | exact envW_nil | exact heapW_nil | refine envW_cons rfl rfl ?_ | refine heapW_cons rfl rfl rfl ?_)⟩
            · show _ - (k + 1) < _ - k; omega
            · exact ⟨by show k + 1 ≤ _; omega, by show b = _; rw [st_keep hcv (by rw [← hb]; omega)]; exact hb⟩
          · skip
            refine ⟨(k + 1, ((k : Int), p, l.gain[k][p.toNat] + ((sumsS l.dust)[be.toNat]'(by omega) - (sumsS l.dust)[(p + l.sizes[k]).toNat]'(by omega) + (es[be.toNat]'(by omega)).2.2))), ?_, ?_, by refine weak_mk rfl ?_ ?_ <;> repeat (first | exact envW_nil | exact heapW_nil | refine envW_cons rfl rfl ?_ | refine heapW_cons rfl rfl rfl ?_)⟩
            · show _ - (k + 1) < _ - k; omega
            · exact ⟨by show k + 1 ≤ _; omega, (st_yes hok (hcv.trans (by omega)) (by rw [← hb]; omega)).symm⟩
      · have hok : ¬ OkP l k p := fun hh => ho2 (by rw [← hgo]; exact hh.2)
        repeat' (first
 | ((with_reducible apply aw_seq))
 | ((with_reducible apply aw_region))
 | ((with_reducible apply aw_block))
 | ((with_reducible apply thn_normal))
 | ((with_reducible apply thn_exit))
 | ((with_reducible apply inb_exit))
 | ((with_reducible apply aw_skip))
 | ((with_reducible apply aw_exit))
 | ((with_reducible apply ao_nil))
 | ((with_reducible apply r_move); exact rfl; exact rfl)
 | ((with_reducible apply r_assign); exact rfl; exact rfl)
 | ((with_reducible apply r_field_p); exact rfl; exact rfl)
 | ((with_reducible apply r_load_p); exact rfl; exact rfl; exact rfl; exact rfl)
 | ((with_reducible apply r_lss); exact rfl; exact rfl; exact rfl)
 | ((with_reducible apply r_gtr); exact rfl; exact rfl; exact rfl)
 | ((with_reducible apply r_add); exact rfl; exact rfl; exact (by first | assumption | (unfold fits; omega)); exact rfl)
 | ((with_reducible apply r_pick_f); exact rfl; exact rfl; exact rfl)
 | ((with_reducible apply r_index_f); exact rfl; exact inferInstance; exact rfl; exact rfl; (first | assumption | omega); exact rfl)
 | ((with_reducible apply r_index_f); exact rfl; exact inferInstance; exact rfl; exact (Int.toNat_of_nonneg (by omega)).symm; (first | assumption | omega); exact rfl)
 | ((with_reducible apply r_load_f0); exact rfl; exact inferInstance; exact List.getElem?_eq_getElem (by first | assumption | omega); exact rfl; exact rfl)
 | (((with_reducible apply r_guard); exact rfl; exact rfl; exact rfl; exact rfl) <;> intro hg <;> (first | (exact absurd hg (by decide)) | ((try simp only [decide_eq_true_eq, decide_eq_false_iff_not, Bool.not_eq_true', Bool.not_eq_false', Bool.not_true, Bool.not_false, Bool.not_not, Int.not_lt, Int.not_le, Nat.not_lt, Nat.not_le, gt_iff_lt, ge_iff_le, List.cons.injEq, and_true] at hg); first | (exact absurd trivial hg) | (exfalso; omega) | (have hT : True := hg; clear hT hg) | skip)))
 | (((with_reducible apply aw_cond); exact rfl) <;> intro hg <;> (first | (exact absurd hg (by decide)) | ((try simp only [decide_eq_true_eq, decide_eq_false_iff_not, Bool.not_eq_true', Bool.not_eq_false', Bool.not_true, Bool.not_false, Bool.not_not, Int.not_lt, Int.not_le, Nat.not_lt, Nat.not_le, gt_iff_lt, ge_iff_le, List.cons.injEq, and_true] at hg); first | (exact absurd trivial hg) | (exfalso; omega) | (have hT : True := hg; clear hT hg) | skip)))
 )
        refine ⟨(k + 1, b), ?_, ?_, by refine weak_mk rfl ?_ ?_ <;> repeat (first | exact envW_nil | exact heapW_nil | refine envW_cons rfl rfl ?_ | refine heapW_cons rfl rfl rfl ?_)⟩
        · show _ - (k + 1) < _ - k; omega
        · exact ⟨by show k + 1 ≤ _; omega, by show b = _; rw [hb, st_no hok]⟩
    · have hok : ¬ OkP l k p := fun hh => ho1 (by rw [← hsz]; exact hh.1)
      repeat' (first
 | ((with_reducible apply aw_seq))
 | ((with_reducible apply aw_region))
 | ((with_reducible apply aw_block))
 | ((with_reducible apply thn_normal))
 | ((with_reducible apply thn_exit))
 | ((with_reducible apply inb_exit))
 | ((with_reducible apply aw_skip))
 | ((with_reducible apply aw_exit))
 | ((with_reducible apply ao_nil))
 | ((with_reducible apply r_move); exact rfl; exact rfl)
 | ((with_reducible apply r_assign); exact rfl; exact rfl)
 | ((with_reducible apply r_field_p); exact rfl; exact rfl)
 | ((with_reducible apply r_load_p); exact rfl; exact rfl; exact rfl; exact rfl)
 | ((with_reducible apply r_lss); exact rfl; exact rfl; exact rfl)
 | ((with_reducible apply r_gtr); exact rfl; exact rfl; exact rfl)
 | ((with_reducible apply r_add); exact rfl; exact rfl; exact (by first | assumption | (unfold fits; omega)); exact rfl)
 | ((with_reducible apply r_pick_t); exact rfl; exact rfl; exact rfl)
 | ((with_reducible apply r_index_f); exact rfl; exact inferInstance; exact rfl; exact rfl; (first | assumption | omega); exact rfl)
 | ((with_reducible apply r_load_f0); exact rfl; exact inferInstance; exact List.getElem?_eq_getElem (by first | assumption | omega); exact rfl; exact rfl)
 | (((with_reducible apply r_guard); exact rfl; exact rfl; exact rfl; exact rfl) <;> intro hg <;> (first | (exact absurd hg (by decide)) | ((try simp only [decide_eq_true_eq, decide_eq_false_iff_not, Bool.not_eq_true', Bool.not_eq_false', Bool.not_true, Bool.not_false, Bool.not_not, Int.not_lt, Int.not_le, Nat.not_lt, Nat.not_le, gt_iff_lt, ge_iff_le, List.cons.injEq, and_true] at hg); first | (exact absurd trivial hg) | (exfalso; omega) | (have hT : True := hg; clear hT hg) | skip)))
 | (((with_reducible apply aw_cond); exact rfl) <;> intro hg <;> (first | (exact absurd hg (by decide)) | ((try simp only [decide_eq_true_eq, decide_eq_false_iff_not, Bool.not_eq_true', Bool.not_eq_false', Bool.not_true, Bool.not_false, Bool.not_not, Int.not_lt, Int.not_le, Nat.not_lt, Nat.not_le, gt_iff_lt, ge_iff_le, List.cons.injEq, and_true] at hg); first | (exact absurd trivial hg) | (exfalso; omega) | (have hT : True := hg; clear hT hg) | skip)))
 )
      refine ⟨(k + 1, b), ?_, ?_, by refine weak_mk rfl ?_ ?_ <;> repeat (first | exact envW_nil | exact heapW_nil | refine envW_cons rfl rfl ?_ | refine heapW_cons rfl rfl rfl ?_)⟩
      · show _ - (k + 1) < _ - k; omega
      · exact ⟨by show k + 1 ≤ _; omega, by show b = _; rw [hb, st_no hok]⟩
  · skip
    repeat' (first
 | ((with_reducible apply aw_seq))
 | ((with_reducible apply aw_region))
 | ((with_reducible apply thn_normal))
 | ((with_reducible apply thn_exit))
 | ((with_reducible apply inb_exit))
 | ((with_reducible apply aw_exit))
 | ((with_reducible apply aw_ret))
 | ((with_reducible apply ao_nil))
 | ((with_reducible apply r_load_pa); exact rfl; exact rfl; exact rfl; exact rfl; exact rfl)
 | ((with_reducible apply r_lss); exact rfl; exact rfl; exact rfl)
 | ((with_reducible apply r_store_pa); exact rfl; exact rfl; exact rfl; exact rfl; exact rfl; exact rfl)
 | (((with_reducible apply aw_cond); exact rfl) <;> intro hg <;> (first | (exact absurd hg (by decide)) | ((try simp only [decide_eq_true_eq, decide_eq_false_iff_not, Bool.not_eq_true', Bool.not_eq_false', Bool.not_true, Bool.not_false, Bool.not_not, Int.not_lt, Int.not_le, Nat.not_lt, Nat.not_le, gt_iff_lt, ge_iff_le, List.cons.injEq, and_true] at hg); first | (exact absurd trivial hg) | (exfalso; omega) | (have hT : True := hg; clear hT hg) | skip)))
 )
    obtain rfl : k = l.sizes.length := by omega
    rw [← hb]
    exact ret1 (.cell_a inferInstance rfl rfl rfl rfl (cl_cons cl_c (cl_cons cl_c (cl_cons cl_c cl_nil))))
end Go.Proofs.YtkhljpbkebnnmaaGreatDoor.Cu
/- Walks of cutting: the table of the best continuations. -/
namespace Go.Proofs.YtkhljpbkebnnmaaGreatDoor.Cu
set_option linter.unusedVariables false
set_option linter.unusedSimpArgs false
open Go.RowKit Go.Proofs.YtkhljpbkebnnmaaGreatDoor.Ev
def tabS (l : Line) : List Ch := (List.range (l.len.toNat + 1)).map fun e : Nat => TT l (e : Int)
@[simp] theorem tabS_len (l : Line) : (tabS l).length = l.len.toNat + 1 := by simp [tabS]
theorem tabS_get (l : Line) (k : Nat) (h : k < (tabS l).length) : (tabS l)[k] = TT l k := by simp [tabS]
theorem tabS_of {l : Line} {s : List Ch} (hn : s.length = l.len.toNat + 1) (h : ∀ i (hi : i < s.length), s[i] = TT l i) : s = tabS l := by
  refine List.ext_getElem (by simp [hn]) (fun i h1 h2 => ?_)
  rw [h i h1, tabS_get]
structure Kn (l : Line) (p : Int) (es ss : List Ch) : Prop where
  en : es.length = l.len.toNat + 1
  sn : ss.length = l.len.toNat + 1
  e : ∀ i (h : i < es.length), p < i → es[i] = TT l i
  s : ∀ i (h : i < ss.length), p < i → ss[i] = stS l (TV l) i l.sizes.length
theorem Kn.ve {l : Line} {p : Int} {es ss : List Ch} (h : Kn l p es ss) (x : Int) (h1 : p < x) (h0 : 0 ≤ x) (h2 : x ≤ l.len) : VE es x = TV l x := by
  have hx : x.toNat < es.length := by have := h.en; omega
  rw [← VE_int h0 hx, h.e _ hx (by omega), Int.toNat_of_nonneg h0]; rfl
theorem choices_con (l : Line) (v : Valid l) : Con Tryz.prog G 62 [lineC l] (LC (tabS l)) := by
  have hl := v.len
  have hlk := v.kerf
  have hlp := v.pitch
  have hld := v.dust
  have hlc := v.chip
  have hsd := sumsS_len l.dust
  have hsc := sumsS_len l.chip
  have hss := v.sizes
  refine con_of Tryz.func62 rfl (by kernel_rfl) rfl ?_
  simp only [Tryz.ntmps62, Tryz.results62, argEnv, ofC, of1, List.map, lineC, lineL]
  repeat' (first
 | ((with_reducible apply r_call); exact rfl; exact rfl; (first | exact sums_con l.chip v.chips (by omega) | exact sums_con l.dust v.dusts (by omega)); exact rfl; exact rfl)
 | ((with_reducible apply r_make (enc := chC) (0, 0, 0) (l.len.toNat + 1)); exact inferInstance; exact rfl; exact rfl; exact rfl; (exact (by omega)); (exact (by omega)); omega; omega; exact rfl)
 | ((with_reducible apply aw_seq))
 | ((with_reducible apply aw_region))
 | ((with_reducible apply aw_block))
 | ((with_reducible apply thn_normal))
 | ((with_reducible apply ao_nil))
 | ((with_reducible apply r_assign); exact rfl; exact rfl)
 | ((with_reducible apply r_field_p); exact rfl; exact rfl)
 | ((with_reducible apply r_load_p); exact rfl; exact rfl; exact rfl; exact rfl)
 | ((with_reducible apply r_add); exact rfl; exact rfl; exact (by first | assumption | (unfold fits; omega)); exact rfl)
 | ((with_reducible apply r_box_a); exact rfl; exact rfl)
 | (refine aw_drawq ?_ ?_; (kernel_rfl))
 | ((with_reducible apply ds_nil))
 )
  refine aw_loopG (G := Int × List Ch × List Ch) (fun ((p, es, ss) : Int × List Ch × List Ch) => -1 ≤ p ∧ p ≤ l.len ∧ Kn l p es ss) (fun ((p, es, ss) : Int × List Ch × List Ch) => (p + 1).toNat) (fun ((p, es, ss) : Int × List Ch × List Ch) => [(1, .ptr 0 0), (3, .c (LI (sumsS l.chip))), (4, .c (LI (sumsS l.dust))), (5, .vec 1 (l.len.toNat + 1)), (6, .vec 2 (l.len.toNat + 1)), (7, A p)]) (fun ((p, es, ss) : Int × List Ch × List Ch) => [(0, some (lineB l)), (1, some (.vec 108 3 (es.flatMap chC))), (2, some (.vec 108 3 (ss.flatMap chC)))]) 3 (l.len, List.replicate (l.len.toNat + 1) (0, 0, 0), List.replicate (l.len.toNat + 1) (0, 0, 0)) ?_ (by refine weak_mk rfl ?_ ?_ <;> repeat (first | exact envW_nil | exact heapW_nil | refine envW_cons rfl rfl ?_ | refine heapW_cons rfl rfl rfl ?_)) rfl ?_
  · exact ⟨by show -1 ≤ l.len; omega, Int.le_refl _, ⟨by simp, by simp, fun i h hp => by simp at h; omega, fun i h hp => by simp at h; omega⟩⟩
  rintro ⟨p, es, ss⟩ hI
  try dsimp only at hI
  try dsimp only
  obtain ⟨hp0, hp1, kn⟩ := hI
  by_cases hpl : 0 ≤ p
  · have hV : VB l (VE es) p := fun x hx hx2 => by
      rw [kn.ve x hx (by omega) hx2]; exact TV_bd v hpl x hx hx2
    have hst := start_con l v p hpl hp1 es (by have := kn.en; omega) hV
    have hste := stS_congr v hpl (Int.le_refl p) (V := VE es) (V' := TV l) (fun x hx hx2 => kn.ve x hx (by omega) hx2) l.sizes.length (Nat.le_refl _)
    rw [hste] at hst
    have hen := kn.en
    have hsn := kn.sn
    repeat' (first
 | ((with_reducible apply r_callv); exact hst; exact rfl; exact cl_cons (clF_cl rfl) (cl_cons cl_c (cl_cons cl_c (cl_cons (cl_vec rfl (by rw [flat_len EncL.len, hen])) cl_nil))); exact rfl; exact rfl)
 | ((with_reducible apply aw_seq))
 | ((with_reducible apply aw_region))
 | ((with_reducible apply aw_block))
 | ((with_reducible apply thn_normal))
 | ((with_reducible apply aw_skip))
 | ((with_reducible apply ao_nil))
 | ((with_reducible apply r_move); exact rfl; exact rfl)
 | ((with_reducible apply r_load_pa); exact rfl; exact rfl; exact rfl; exact rfl; exact rfl)
 | ((with_reducible apply r_geq); exact rfl; exact rfl; exact rfl)
 | ((with_reducible apply r_index_vf); exact rfl; exact rfl; exact inferInstance; (first | exact rfl | assumption | omega); exact rfl; exact (Int.toNat_of_nonneg (by omega)).symm; (first | assumption | omega); exact rfl)
 | (((with_reducible apply aw_cond); exact rfl) <;> intro hg <;> (first | (exact absurd hg (by decide)) | ((try simp only [decide_eq_true_eq, decide_eq_false_iff_not, Bool.not_eq_true', Bool.not_eq_false', Bool.not_true, Bool.not_false, Bool.not_not, Int.not_lt, Int.not_le, Nat.not_lt, Nat.not_le, gt_iff_lt, ge_iff_le, List.cons.injEq, and_true] at hg); first | (exact absurd trivial hg) | (exfalso; omega) | (have hT : True := hg; clear hT hg) | skip)))
 )
    refine r_store_v (enc := chC) (k := p.toNat) (l := ss) (stS l (TV l) p l.sizes.length) rfl rfl inferInstance hsn (by omega) rfl rfl rfl rfl ?_
    have hnew : ∀ i (h : i < (ss.set p.toNat (stS l (TV l) p l.sizes.length)).length), p - 1 < i → (ss.set p.toNat (stS l (TV l) p l.sizes.length))[i] = stS l (TV l) i l.sizes.length := fun i h hi => by
      by_cases e : i = p.toNat
      · subst e; rw [List.getElem_set_self, Int.toNat_of_nonneg hpl]
      · rw [List.getElem_set_ne (by omega)]
        exact kn.s i (by simpa using h) (by omega)
    have hsn' : (ss.set p.toNat (stS l (TV l) p l.sizes.length)).length = l.len.toNat + 1 := by simp [hsn]
    generalize ss.set p.toNat (stS l (TV l) p l.sizes.length) = ss' at hnew hsn'
    have hc1 := cp_get (l := l) (k := l.len) (by omega)
    have hc2 := cp_get (l := l) (k := p) (by omega)
    have hc3 := cp_le v (k := l.len) (Int.le_refl _)
    have hc4 := cp_le v (k := p) hp1
    rw [← hc1] at hc3
    rw [← hc2] at hc4
    have hat1 : p + l.pitch + l.kerf = atP l p 1 := by unfold atP; omega
    have hs0 := hnew p.toNat (by omega) (by omega)
    rw [Int.toNat_of_nonneg hpl] at hs0
    have hsg0 := stS_sgn l (TV l) p l.sizes.length
    rw [← hs0] at hsg0
    have hs20 : (ss'[p.toNat].1 = -1 ∧ ss'[p.toNat].2.1 = -1) ∨ 0 ≤ ss'[p.toNat].1 := by
      rcases hsg0 with h | h
      · left; rw [h]; exact ⟨rfl, rfl⟩
      · right; exact h.1
    have hs30 : 0 ≤ ss'[p.toNat].1 → ss'[p.toNat].2.1 = p := fun h0 => by
      rcases hsg0 with h | h
      · rw [h] at h0; simp at h0
      · exact h.2.2.1
    have hp00 : posS l (TV l) p 0 = if 0 ≤ ss'[p.toNat].1 ∧ (sumsS l.chip)[l.len.toNat] - (sumsS l.chip)[p.toNat] < ss'[p.toNat].2.2 then (ss'[p.toNat].1, p, ss'[p.toNat].2.2) else (-1, -1, (sumsS l.chip)[l.len.toNat] - (sumsS l.chip)[p.toNat]) := by
      show grp l (TV l) 0 p l.sizes.length _ = _
      rw [grp_st, ← hs0, hc1, hc2]
      simp only [Int.add_zero]
    repeat' (first
 | ((with_reducible apply (r_load_ea (zs := [I (-1), I (-1)]) (ys := []))); exact rfl; exact rfl; exact rfl; exact rfl)
 | (refine aw_drawA 12 ?_ rfl aop_alloc rfl ?_; (kernel_rfl); (simp only [List.take_succ_cons, List.take_zero, List.drop_succ_cons, List.drop_zero]))
 | ((with_reducible apply ds_nilA); exact rfl)
 | ((with_reducible apply aw_seq))
 | ((with_reducible apply aw_region))
 | ((with_reducible apply aw_block))
 | ((with_reducible apply thn_normal))
 | ((with_reducible apply aw_skip))
 | ((with_reducible apply ao_nil))
 | ((with_reducible apply r_move); exact rfl; exact rfl)
 | ((with_reducible apply r_assign); exact rfl; exact rfl)
 | ((with_reducible apply r_field_p); exact rfl; exact rfl)
 | ((with_reducible apply r_load_p); exact rfl; exact rfl; exact rfl; exact rfl)
 | ((with_reducible apply r_load_pa); exact rfl; exact rfl; exact rfl; exact rfl; exact rfl)
 | ((with_reducible apply r_gtr); exact rfl; exact rfl; exact rfl)
 | ((with_reducible apply r_add); exact rfl; exact rfl; exact (by first | assumption | (unfold fits; omega)); exact rfl)
 | ((with_reducible apply r_sub); exact rfl; exact rfl; exact (by first | assumption | (unfold fits; omega)); exact rfl)
 | ((with_reducible apply r_pick_t); exact rfl; exact rfl; exact rfl)
 | ((with_reducible apply r_pick_f); exact rfl; exact rfl; exact rfl)
 | ((with_reducible apply r_index_f); exact rfl; exact inferInstance; exact rfl; exact (Int.toNat_of_nonneg (by omega)).symm; (first | assumption | omega); exact rfl)
 | ((with_reducible apply r_load_f0); exact rfl; exact inferInstance; exact List.getElem?_eq_getElem (by first | assumption | omega); exact rfl; exact rfl)
 | ((with_reducible apply r_index_vf); exact rfl; exact rfl; exact inferInstance; (first | exact rfl | assumption | omega); exact rfl; exact (Int.toNat_of_nonneg (by omega)).symm; (first | assumption | omega); exact rfl)
 | ((with_reducible apply r_load_vfa0); exact rfl; exact rfl; exact inferInstance; (first | exact rfl | assumption | omega); exact List.getElem?_eq_getElem (by first | assumption | omega); exact rfl; exact rfl; exact rfl)
 | ((with_reducible apply r_store_pa); exact rfl; exact rfl; exact rfl; exact rfl; exact rfl; exact rfl)
 | ((with_reducible apply r_build); exact rfl; exact rfl; exact rfl)
 | ((with_reducible apply r_alloc); exact rfl)
 | (((with_reducible apply r_guard); exact rfl; exact rfl; exact rfl; exact rfl) <;> intro hg <;> (first | (exact absurd hg (by decide)) | ((try simp only [decide_eq_true_eq, decide_eq_false_iff_not, Bool.not_eq_true', Bool.not_eq_false', Bool.not_true, Bool.not_false, Bool.not_not, Int.not_lt, Int.not_le, Nat.not_lt, Nat.not_le, gt_iff_lt, ge_iff_le, List.cons.injEq, and_true] at hg); first | (exact absurd trivial hg) | (exfalso; omega) | (have hT : True := hg; clear hT hg) | skip)))
 | (((with_reducible apply aw_cond); exact rfl) <;> intro hg <;> (first | (exact absurd hg (by decide)) | ((try simp only [decide_eq_true_eq, decide_eq_false_iff_not, Bool.not_eq_true', Bool.not_eq_false', Bool.not_true, Bool.not_false, Bool.not_not, Int.not_lt, Int.not_le, Nat.not_lt, Nat.not_le, gt_iff_lt, ge_iff_le, List.cons.injEq, and_true] at hg); first | (exact absurd trivial hg) | (exfalso; omega) | (have hT : True := hg; clear hT hg) | skip)))
 | ((with_reducible apply r_neqs); exact rfl; exact rfl; exact rfl; exact rfl; exact rfl; exact rfl; exact rfl)
 )
    · skip
      refine aw_loopG (G := Nat × Int × Ch) (fun ((m, q, b) : Nat × Int × Ch) => q = atP l p (m + 1) ∧ p + l.kerf + 1 ≤ q ∧ b = posS l (TV l) p m) (fun ((m, q, b) : Nat × Int × Ch) => (l.len + 1 - q).toNat) (fun ((m, q, b) : Nat × Int × Ch) => [(1, .ptr 0 0), (3, .c (LI (sumsS l.chip))), (4, .c (LI (sumsS l.dust))), (5, .vec 1 (l.len.toNat + 1)), (6, .vec 2 (l.len.toNat + 1)), (7, A p), (8, .ptr 3 0), (10, A q)]) (fun ((m, q, b) : Nat × Int × Ch) => [(0, some (lineB l)), (1, some (.vec 108 3 (es.flatMap chC))), (2, some (.vec 108 3 (ss'.flatMap chC))), (3, some (.cells 108 [A b.1, A b.2.1, A b.2.2]))]) 5 (0, p + l.pitch + l.kerf, (ss'[p.toNat]'(by omega)).1, (ss'[p.toNat]'(by omega)).2.1, (ss'[p.toNat]'(by omega)).2.2) ?_ (by refine weak_mk rfl ?_ ?_ <;> repeat (first | exact envW_nil | exact heapW_nil | refine envW_cons rfl rfl ?_ | refine heapW_cons rfl rfl rfl ?_)) rfl ?_
      · exact ⟨hat1, by show p + l.kerf + 1 ≤ p + l.pitch + l.kerf; omega, by rw [hp00, if_pos (by omega)]; exact Prod.ext rfl (Prod.ext (hs30 (by omega)) rfl)⟩
      rintro ⟨m, q, b⟩ hI
      try dsimp only at hI
      try dsimp only
      obtain ⟨hq0, hq1, hb⟩ := hI
      have hbb := posS_bd v hpl hp1 (TV_bd v hpl) m
      rw [← hb] at hbb
      by_cases hql : q ≤ l.len
      · have hsq := hnew q.toNat (by omega) (by omega)
        rw [Int.toNat_of_nonneg (by omega)] at hsq
        have hsb := stS_bd v hpl (p := q) (by omega) hql (TV_bd v hpl) (Nat.le_refl _)
        have hsg := stS_sgn l (TV l) q l.sizes.length
        rw [← hsq] at hsb hsg
        have g1 := cp_get (l := l) (k := q - l.kerf) (by omega)
        have g2 := dp_get (l := l) (k := q - l.kerf) (by omega)
        have g3 := dp_get (l := l) (k := q) (by omega)
        have g4 := cp_bd v hpl (b := q - l.kerf) (by omega) (by omega)
        have g5 := dp_bd v (a := q - l.kerf) (b := q) (by omega) (by omega) hql
        have g6 := dp_le v (k := q) hql
        rw [← g1, ← hc2] at g4
        rw [← g2, ← g3] at g5
        rw [← g3] at g6
        have hps := posS_succ l (TV l) p m
        rw [← hq0, if_pos hql, grp_st, ← hsq, ← hb] at hps
        have hpd : paidP l p q = (sumsS l.chip)[(q - l.kerf).toNat] - (sumsS l.chip)[p.toNat] + (sumsS l.dust)[q.toNat] - (sumsS l.dust)[(q - l.kerf).toNat] := by
          unfold paidP; rw [g1, g2, g3, hc2]
        rw [hpd] at hps
        have hnx : q + l.pitch = atP l p (m + 1 + 1) := by rw [atP_succ l p (m + 1), ← hq0]
        have hs2 : (ss'[q.toNat].1 = -1 ∧ ss'[q.toNat].2.1 = -1) ∨ 0 ≤ ss'[q.toNat].1 := by
          rcases hsg with h | h
          · left; rw [h]; exact ⟨rfl, rfl⟩
          · right; exact h.1
        have hs3 : 0 ≤ ss'[q.toNat].1 → ss'[q.toNat].2.1 = q := fun h0 => by
          rcases hsg with h | h
          · rw [h] at h0; simp at h0
          · exact h.2.2.1
        repeat' (first
 | ((with_reducible apply (r_load_ea (zs := [I (-1), I (-1)]) (ys := []))); exact rfl; exact rfl; exact rfl; exact rfl)
 | (refine aw_drawt 23 ?_ ?_; (kernel_rfl); (simp only [List.take_succ_cons, List.take_zero, List.drop_succ_cons, List.drop_zero]))
 | ((with_reducible apply aw_seq))
 | ((with_reducible apply aw_region))
 | ((with_reducible apply aw_block))
 | ((with_reducible apply thn_normal))
 | ((with_reducible apply inb_normal))
 | ((with_reducible apply aw_skip))
 | ((with_reducible apply ao_nil))
 | ((with_reducible apply r_move); exact rfl; exact rfl)
 | ((with_reducible apply r_assign); exact rfl; exact rfl)
 | ((with_reducible apply r_field_p); exact rfl; exact rfl)
 | ((with_reducible apply r_load_p); exact rfl; exact rfl; exact rfl; exact rfl)
 | ((with_reducible apply r_load_pa); exact rfl; exact rfl; exact rfl; exact rfl; exact rfl)
 | ((with_reducible apply r_leq); exact rfl; exact rfl; exact rfl)
 | ((with_reducible apply r_gtr); exact rfl; exact rfl; exact rfl)
 | ((with_reducible apply r_add); exact rfl; exact rfl; exact (by first | assumption | (unfold fits; omega)); exact rfl)
 | ((with_reducible apply r_sub); exact rfl; exact rfl; exact (by first | assumption | (unfold fits; omega)); exact rfl)
 | ((with_reducible apply r_pick_t); exact rfl; exact rfl; exact rfl)
 | ((with_reducible apply r_pick_f); exact rfl; exact rfl; exact rfl)
 | ((with_reducible apply r_index_f); exact rfl; exact inferInstance; exact rfl; exact (Int.toNat_of_nonneg (by omega)).symm; (first | assumption | omega); exact rfl)
 | ((with_reducible apply r_load_f0); exact rfl; exact inferInstance; exact List.getElem?_eq_getElem (by first | assumption | omega); exact rfl; exact rfl)
 | ((with_reducible apply r_index_vf); exact rfl; exact rfl; exact inferInstance; (first | exact rfl | assumption | omega); exact rfl; exact (Int.toNat_of_nonneg (by omega)).symm; (first | assumption | omega); exact rfl)
 | ((with_reducible apply r_load_vfa0); exact rfl; exact rfl; exact inferInstance; (first | exact rfl | assumption | omega); exact List.getElem?_eq_getElem (by first | assumption | omega); exact rfl; exact rfl; exact rfl)
 | ((with_reducible apply r_store_p); exact rfl; exact rfl; exact rfl; exact rfl; exact rfl; exact rfl)
 | ((with_reducible apply r_store_pa); exact rfl; exact rfl; exact rfl; exact rfl; exact rfl; exact rfl)
 | ((with_reducible apply r_alloc); exact rfl)
 | (((with_reducible apply r_guard); exact rfl; exact rfl; exact rfl; exact rfl) <;> intro hg <;> (first | (exact absurd hg (by decide)) | ((try simp only [decide_eq_true_eq, decide_eq_false_iff_not, Bool.not_eq_true', Bool.not_eq_false', Bool.not_true, Bool.not_false, Bool.not_not, Int.not_lt, Int.not_le, Nat.not_lt, Nat.not_le, gt_iff_lt, ge_iff_le, List.cons.injEq, and_true] at hg); first | (exact absurd trivial hg) | (exfalso; omega) | (have hT : True := hg; clear hT hg) | skip)))
 | (((with_reducible apply aw_cond); exact rfl) <;> intro hg <;> (first | (exact absurd hg (by decide)) | ((try simp only [decide_eq_true_eq, decide_eq_false_iff_not, Bool.not_eq_true', Bool.not_eq_false', Bool.not_true, Bool.not_false, Bool.not_not, Int.not_lt, Int.not_le, Nat.not_lt, Nat.not_le, gt_iff_lt, ge_iff_le, List.cons.injEq, and_true] at hg); first | (exact absurd trivial hg) | (exfalso; omega) | (have hT : True := hg; clear hT hg) | skip)))
 | ((with_reducible apply ds_nil))
 | ((with_reducible apply r_neqs); exact rfl; exact rfl; exact rfl; exact rfl; exact rfl; exact rfl; exact rfl)
 )
        · skip
          refine ⟨(m + 1, q + l.pitch, ((ss'[q.toNat]'(by omega)).1, (ss'[q.toNat]'(by omega)).2.1, (ss'[q.toNat]'(by omega)).2.2 + ((sumsS l.chip)[(q - l.kerf).toNat]'(by omega) - (sumsS l.chip)[p.toNat]'(by omega) + (sumsS l.dust)[q.toNat]'(by omega) - (sumsS l.dust)[(q - l.kerf).toNat]'(by omega)))), ?_, ?_, by refine weak_mk rfl ?_ ?_ <;> repeat (first | exact envW_nil | exact heapW_nil | refine envW_cons rfl rfl ?_ | refine heapW_cons rfl rfl rfl ?_)⟩
          · show (l.len + 1 - (q + l.pitch)).toNat < (l.len + 1 - q).toNat; omega
          · refine ⟨hnx, by show _ ≤ q + l.pitch; omega, ?_⟩
            show _ = posS l (TV l) p (m + 1)
            rw [hps, if_pos (by omega)]
            exact Prod.ext rfl (Prod.ext (hs3 (by omega)) rfl)
        · skip
          refine ⟨(m + 1, q + l.pitch, b), ?_, ?_, by refine weak_mk rfl ?_ ?_ <;> repeat (first | exact envW_nil | exact heapW_nil | refine envW_cons rfl rfl ?_ | refine heapW_cons rfl rfl rfl ?_)⟩
          · show (l.len + 1 - (q + l.pitch)).toNat < (l.len + 1 - q).toNat; omega
          · exact ⟨hnx, by show _ ≤ q + l.pitch; omega, by show b = posS l (TV l) p (m + 1); rw [hps, if_neg (by omega)]⟩
        · skip
          refine ⟨(m + 1, q + l.pitch, b), ?_, ?_, by refine weak_mk rfl ?_ ?_ <;> repeat (first | exact envW_nil | exact heapW_nil | refine envW_cons rfl rfl ?_ | refine heapW_cons rfl rfl rfl ?_)⟩
          · show (l.len + 1 - (q + l.pitch)).toNat < (l.len + 1 - q).toNat; omega
          · exact ⟨hnx, by show _ ≤ q + l.pitch; omega, by show b = posS l (TV l) p (m + 1); rw [hps, if_neg (by omega)]⟩
      · have hbt : b = TT l p := by rw [hb, TT_eq v hpl hp1]; exact posS_end v (TV l) hpl (by rw [← hq0]; omega)
        repeat' (first
 | ((with_reducible apply (r_store_v (enc := chC) (k := p.toNat) (l := es) b)); exact rfl; exact rfl; exact inferInstance; exact hen; exact (by omega); exact rfl; exact rfl; exact rfl; exact rfl)
 | ((with_reducible apply aw_seq))
 | ((with_reducible apply aw_region))
 | ((with_reducible apply thn_normal))
 | ((with_reducible apply thn_exit))
 | ((with_reducible apply inb_normal))
 | ((with_reducible apply inb_exit))
 | ((with_reducible apply aw_exit))
 | ((with_reducible apply ao_nil))
 | ((with_reducible apply r_move); exact rfl; exact rfl)
 | ((with_reducible apply r_assign); exact rfl; exact rfl)
 | ((with_reducible apply r_field_p); exact rfl; exact rfl)
 | ((with_reducible apply r_load_p); exact rfl; exact rfl; exact rfl; exact rfl)
 | ((with_reducible apply r_load_pa); exact rfl; exact rfl; exact rfl; exact rfl; exact rfl)
 | ((with_reducible apply r_leq); exact rfl; exact rfl; exact rfl)
 | ((with_reducible apply r_sub); exact rfl; exact rfl; exact (by first | assumption | (unfold fits; omega)); exact rfl)
 | ((with_reducible apply r_index_vf); exact rfl; exact rfl; exact inferInstance; (first | exact rfl | assumption | omega); exact rfl; exact (Int.toNat_of_nonneg (by omega)).symm; (first | assumption | omega); exact rfl)
 | (((with_reducible apply aw_cond); exact rfl) <;> intro hg <;> (first | (exact absurd hg (by decide)) | ((try simp only [decide_eq_true_eq, decide_eq_false_iff_not, Bool.not_eq_true', Bool.not_eq_false', Bool.not_true, Bool.not_false, Bool.not_not, Int.not_lt, Int.not_le, Nat.not_lt, Nat.not_le, gt_iff_lt, ge_iff_le, List.cons.injEq, and_true] at hg); first | (exact absurd trivial hg) | (exfalso; omega) | (have hT : True := hg; clear hT hg) | skip)))
 )
        refine ⟨(p - 1, es.set p.toNat b, ss'), ?_, ?_, by refine weak_mk rfl ?_ ?_ <;> repeat (first | exact envW_nil | exact heapW_nil | refine envW_cons rfl rfl ?_ | refine heapW_cons rfl rfl rfl ?_)⟩
        · show (p - 1 + 1).toNat < (p + 1).toNat; omega
        · refine ⟨by show -1 ≤ p - 1; omega, by show p - 1 ≤ _; omega, ⟨by simp [hen], hsn', fun i h hi => ?_, hnew⟩⟩
          by_cases e : i = p.toNat
          · subst e; rw [List.getElem_set_self, hbt, Int.toNat_of_nonneg hpl]
          · rw [List.getElem_set_ne (by omega)]
            exact kn.e i (by simpa using h) (by have : p - 1 < (i : Int) := hi; omega)
    · skip
      refine aw_loopG (G := Nat × Int × Ch) (fun ((m, q, b) : Nat × Int × Ch) => q = atP l p (m + 1) ∧ p + l.kerf + 1 ≤ q ∧ b = posS l (TV l) p m) (fun ((m, q, b) : Nat × Int × Ch) => (l.len + 1 - q).toNat) (fun ((m, q, b) : Nat × Int × Ch) => [(1, .ptr 0 0), (3, .c (LI (sumsS l.chip))), (4, .c (LI (sumsS l.dust))), (5, .vec 1 (l.len.toNat + 1)), (6, .vec 2 (l.len.toNat + 1)), (7, A p), (8, .ptr 3 0), (10, A q)]) (fun ((m, q, b) : Nat × Int × Ch) => [(0, some (lineB l)), (1, some (.vec 108 3 (es.flatMap chC))), (2, some (.vec 108 3 (ss'.flatMap chC))), (3, some (.cells 108 [A b.1, A b.2.1, A b.2.2]))]) 5 (0, p + l.pitch + l.kerf, -1, -1, (sumsS l.chip)[l.len.toNat]'(by omega) - (sumsS l.chip)[p.toNat]'(by omega)) ?_ (by refine weak_mk rfl ?_ ?_ <;> repeat (first | exact envW_nil | exact heapW_nil | refine envW_cons rfl rfl ?_ | refine heapW_cons rfl rfl rfl ?_)) rfl ?_
      · exact ⟨hat1, by show p + l.kerf + 1 ≤ p + l.pitch + l.kerf; omega, by rw [hp00, if_neg (by omega)]⟩
      rintro ⟨m, q, b⟩ hI
      try dsimp only at hI
      try dsimp only
      obtain ⟨hq0, hq1, hb⟩ := hI
      have hbb := posS_bd v hpl hp1 (TV_bd v hpl) m
      rw [← hb] at hbb
      by_cases hql : q ≤ l.len
      · have hsq := hnew q.toNat (by omega) (by omega)
        rw [Int.toNat_of_nonneg (by omega)] at hsq
        have hsb := stS_bd v hpl (p := q) (by omega) hql (TV_bd v hpl) (Nat.le_refl _)
        have hsg := stS_sgn l (TV l) q l.sizes.length
        rw [← hsq] at hsb hsg
        have g1 := cp_get (l := l) (k := q - l.kerf) (by omega)
        have g2 := dp_get (l := l) (k := q - l.kerf) (by omega)
        have g3 := dp_get (l := l) (k := q) (by omega)
        have g4 := cp_bd v hpl (b := q - l.kerf) (by omega) (by omega)
        have g5 := dp_bd v (a := q - l.kerf) (b := q) (by omega) (by omega) hql
        have g6 := dp_le v (k := q) hql
        rw [← g1, ← hc2] at g4
        rw [← g2, ← g3] at g5
        rw [← g3] at g6
        have hps := posS_succ l (TV l) p m
        rw [← hq0, if_pos hql, grp_st, ← hsq, ← hb] at hps
        have hpd : paidP l p q = (sumsS l.chip)[(q - l.kerf).toNat] - (sumsS l.chip)[p.toNat] + (sumsS l.dust)[q.toNat] - (sumsS l.dust)[(q - l.kerf).toNat] := by
          unfold paidP; rw [g1, g2, g3, hc2]
        rw [hpd] at hps
        have hnx : q + l.pitch = atP l p (m + 1 + 1) := by rw [atP_succ l p (m + 1), ← hq0]
        have hs2 : (ss'[q.toNat].1 = -1 ∧ ss'[q.toNat].2.1 = -1) ∨ 0 ≤ ss'[q.toNat].1 := by
          rcases hsg with h | h
          · left; rw [h]; exact ⟨rfl, rfl⟩
          · right; exact h.1
        have hs3 : 0 ≤ ss'[q.toNat].1 → ss'[q.toNat].2.1 = q := fun h0 => by
          rcases hsg with h | h
          · rw [h] at h0; simp at h0
          · exact h.2.2.1
        repeat' (first
 | ((with_reducible apply (r_load_ea (zs := [I (-1), I (-1)]) (ys := []))); exact rfl; exact rfl; exact rfl; exact rfl)
 | (refine aw_drawt 23 ?_ ?_; (kernel_rfl); (simp only [List.take_succ_cons, List.take_zero, List.drop_succ_cons, List.drop_zero]))
 | ((with_reducible apply aw_seq))
 | ((with_reducible apply aw_region))
 | ((with_reducible apply aw_block))
 | ((with_reducible apply thn_normal))
 | ((with_reducible apply inb_normal))
 | ((with_reducible apply aw_skip))
 | ((with_reducible apply ao_nil))
 | ((with_reducible apply r_move); exact rfl; exact rfl)
 | ((with_reducible apply r_assign); exact rfl; exact rfl)
 | ((with_reducible apply r_field_p); exact rfl; exact rfl)
 | ((with_reducible apply r_load_p); exact rfl; exact rfl; exact rfl; exact rfl)
 | ((with_reducible apply r_load_pa); exact rfl; exact rfl; exact rfl; exact rfl; exact rfl)
 | ((with_reducible apply r_leq); exact rfl; exact rfl; exact rfl)
 | ((with_reducible apply r_gtr); exact rfl; exact rfl; exact rfl)
 | ((with_reducible apply r_add); exact rfl; exact rfl; exact (by first | assumption | (unfold fits; omega)); exact rfl)
 | ((with_reducible apply r_sub); exact rfl; exact rfl; exact (by first | assumption | (unfold fits; omega)); exact rfl)
 | ((with_reducible apply r_pick_t); exact rfl; exact rfl; exact rfl)
 | ((with_reducible apply r_pick_f); exact rfl; exact rfl; exact rfl)
 | ((with_reducible apply r_index_f); exact rfl; exact inferInstance; exact rfl; exact (Int.toNat_of_nonneg (by omega)).symm; (first | assumption | omega); exact rfl)
 | ((with_reducible apply r_load_f0); exact rfl; exact inferInstance; exact List.getElem?_eq_getElem (by first | assumption | omega); exact rfl; exact rfl)
 | ((with_reducible apply r_index_vf); exact rfl; exact rfl; exact inferInstance; (first | exact rfl | assumption | omega); exact rfl; exact (Int.toNat_of_nonneg (by omega)).symm; (first | assumption | omega); exact rfl)
 | ((with_reducible apply r_load_vfa0); exact rfl; exact rfl; exact inferInstance; (first | exact rfl | assumption | omega); exact List.getElem?_eq_getElem (by first | assumption | omega); exact rfl; exact rfl; exact rfl)
 | ((with_reducible apply r_store_p); exact rfl; exact rfl; exact rfl; exact rfl; exact rfl; exact rfl)
 | ((with_reducible apply r_store_pa); exact rfl; exact rfl; exact rfl; exact rfl; exact rfl; exact rfl)
 | ((with_reducible apply r_alloc); exact rfl)
 | (((with_reducible apply r_guard); exact rfl; exact rfl; exact rfl; exact rfl) <;> intro hg <;> (first | (exact absurd hg (by decide)) | ((try simp only [decide_eq_true_eq, decide_eq_false_iff_not, Bool.not_eq_true', Bool.not_eq_false', Bool.not_true, Bool.not_false, Bool.not_not, Int.not_lt, Int.not_le, Nat.not_lt, Nat.not_le, gt_iff_lt, ge_iff_le, List.cons.injEq, and_true] at hg); first | (exact absurd trivial hg) | (exfalso; omega) | (have hT : True := hg; clear hT hg) | skip)))
 | (((with_reducible apply aw_cond); exact rfl) <;> intro hg <;> (first | (exact absurd hg (by decide)) | ((try simp only [decide_eq_true_eq, decide_eq_false_iff_not, Bool.not_eq_true', Bool.not_eq_false', Bool.not_true, Bool.not_false, Bool.not_not, Int.not_lt, Int.not_le, Nat.not_lt, Nat.not_le, gt_iff_lt, ge_iff_le, List.cons.injEq, and_true] at hg); first | (exact absurd trivial hg) | (exfalso; omega) | (have hT : True := hg; clear hT hg) | skip)))
 | ((with_reducible apply ds_nil))
 | ((with_reducible apply r_neqs); exact rfl; exact rfl; exact rfl; exact rfl; exact rfl; exact rfl; exact rfl)
 )
        · skip
          refine ⟨(m + 1, q + l.pitch, ((ss'[q.toNat]'(by omega)).1, (ss'[q.toNat]'(by omega)).2.1, (ss'[q.toNat]'(by omega)).2.2 + ((sumsS l.chip)[(q - l.kerf).toNat]'(by omega) - (sumsS l.chip)[p.toNat]'(by omega) + (sumsS l.dust)[q.toNat]'(by omega) - (sumsS l.dust)[(q - l.kerf).toNat]'(by omega)))), ?_, ?_, by refine weak_mk rfl ?_ ?_ <;> repeat (first | exact envW_nil | exact heapW_nil | refine envW_cons rfl rfl ?_ | refine heapW_cons rfl rfl rfl ?_)⟩
          · show (l.len + 1 - (q + l.pitch)).toNat < (l.len + 1 - q).toNat; omega
          · refine ⟨hnx, by show _ ≤ q + l.pitch; omega, ?_⟩
            show _ = posS l (TV l) p (m + 1)
            rw [hps, if_pos (by omega)]
            exact Prod.ext rfl (Prod.ext (hs3 (by omega)) rfl)
        · skip
          refine ⟨(m + 1, q + l.pitch, b), ?_, ?_, by refine weak_mk rfl ?_ ?_ <;> repeat (first | exact envW_nil | exact heapW_nil | refine envW_cons rfl rfl ?_ | refine heapW_cons rfl rfl rfl ?_)⟩
          · show (l.len + 1 - (q + l.pitch)).toNat < (l.len + 1 - q).toNat; omega
          · exact ⟨hnx, by show _ ≤ q + l.pitch; omega, by show b = posS l (TV l) p (m + 1); rw [hps, if_neg (by omega)]⟩
        · skip
          refine ⟨(m + 1, q + l.pitch, b), ?_, ?_, by refine weak_mk rfl ?_ ?_ <;> repeat (first | exact envW_nil | exact heapW_nil | refine envW_cons rfl rfl ?_ | refine heapW_cons rfl rfl rfl ?_)⟩
          · show (l.len + 1 - (q + l.pitch)).toNat < (l.len + 1 - q).toNat; omega
          · exact ⟨hnx, by show _ ≤ q + l.pitch; omega, by show b = posS l (TV l) p (m + 1); rw [hps, if_neg (by omega)]⟩
      · have hbt : b = TT l p := by rw [hb, TT_eq v hpl hp1]; exact posS_end v (TV l) hpl (by rw [← hq0]; omega)
        repeat' (first
 | ((with_reducible apply (r_store_v (enc := chC) (k := p.toNat) (l := es) b)); exact rfl; exact rfl; exact inferInstance; exact hen; exact (by omega); exact rfl; exact rfl; exact rfl; exact rfl)
 | ((with_reducible apply aw_seq))
 | ((with_reducible apply aw_region))
 | ((with_reducible apply thn_normal))
 | ((with_reducible apply thn_exit))
 | ((with_reducible apply inb_normal))
 | ((with_reducible apply inb_exit))
 | ((with_reducible apply aw_exit))
 | ((with_reducible apply ao_nil))
 | ((with_reducible apply r_move); exact rfl; exact rfl)
 | ((with_reducible apply r_assign); exact rfl; exact rfl)
 | ((with_reducible apply r_field_p); exact rfl; exact rfl)
 | ((with_reducible apply r_load_p); exact rfl; exact rfl; exact rfl; exact rfl)
 | ((with_reducible apply r_load_pa); exact rfl; exact rfl; exact rfl; exact rfl; exact rfl)
 | ((with_reducible apply r_leq); exact rfl; exact rfl; exact rfl)
 | ((with_reducible apply r_sub); exact rfl; exact rfl; exact (by first | assumption | (unfold fits; omega)); exact rfl)
 | ((with_reducible apply r_index_vf); exact rfl; exact rfl; exact inferInstance; (first | exact rfl | assumption | omega); exact rfl; exact (Int.toNat_of_nonneg (by omega)).symm; (first | assumption | omega); exact rfl)
 | (((with_reducible apply aw_cond); exact rfl) <;> intro hg <;> (first | (exact absurd hg (by decide)) | ((try simp only [decide_eq_true_eq, decide_eq_false_iff_not, Bool.not_eq_true', Bool.not_eq_false', Bool.not_true, Bool.not_false, Bool.not_not, Int.not_lt, Int.not_le, Nat.not_lt, Nat.not_le, gt_iff_lt, ge_iff_le, List.cons.injEq, and_true] at hg); first | (exact absurd trivial hg) | (exfalso; omega) | (have hT : True := hg; clear hT hg) | skip)))
 )
        refine ⟨(p - 1, es.set p.toNat b, ss'), ?_, ?_, by refine weak_mk rfl ?_ ?_ <;> repeat (first | exact envW_nil | exact heapW_nil | refine envW_cons rfl rfl ?_ | refine heapW_cons rfl rfl rfl ?_)⟩
        · show (p - 1 + 1).toNat < (p + 1).toNat; omega
        · refine ⟨by show -1 ≤ p - 1; omega, by show p - 1 ≤ _; omega, ⟨by simp [hen], hsn', fun i h hi => ?_, hnew⟩⟩
          by_cases e : i = p.toNat
          · subst e; rw [List.getElem_set_self, hbt, Int.toNat_of_nonneg hpl]
          · rw [List.getElem_set_ne (by omega)]
            exact kn.e i (by simpa using h) (by have : p - 1 < (i : Int) := hi; omega)
    · skip
      refine aw_loopG (G := Nat × Int × Ch) (fun ((m, q, b) : Nat × Int × Ch) => q = atP l p (m + 1) ∧ p + l.kerf + 1 ≤ q ∧ b = posS l (TV l) p m) (fun ((m, q, b) : Nat × Int × Ch) => (l.len + 1 - q).toNat) (fun ((m, q, b) : Nat × Int × Ch) => [(1, .ptr 0 0), (3, .c (LI (sumsS l.chip))), (4, .c (LI (sumsS l.dust))), (5, .vec 1 (l.len.toNat + 1)), (6, .vec 2 (l.len.toNat + 1)), (7, A p), (8, .ptr 3 0), (10, A q)]) (fun ((m, q, b) : Nat × Int × Ch) => [(0, some (lineB l)), (1, some (.vec 108 3 (es.flatMap chC))), (2, some (.vec 108 3 (ss'.flatMap chC))), (3, some (.cells 108 [A b.1, A b.2.1, A b.2.2]))]) 5 (0, p + l.pitch + l.kerf, -1, -1, (sumsS l.chip)[l.len.toNat]'(by omega) - (sumsS l.chip)[p.toNat]'(by omega)) ?_ (by refine weak_mk rfl ?_ ?_ <;> repeat (first | exact envW_nil | exact heapW_nil | refine envW_cons rfl rfl ?_ | refine heapW_cons rfl rfl rfl ?_)) rfl ?_
      · exact ⟨hat1, by show p + l.kerf + 1 ≤ p + l.pitch + l.kerf; omega, by rw [hp00, if_neg (by omega)]⟩
      rintro ⟨m, q, b⟩ hI
      try dsimp only at hI
      try dsimp only
      obtain ⟨hq0, hq1, hb⟩ := hI
      have hbb := posS_bd v hpl hp1 (TV_bd v hpl) m
      rw [← hb] at hbb
      by_cases hql : q ≤ l.len
      · have hsq := hnew q.toNat (by omega) (by omega)
        rw [Int.toNat_of_nonneg (by omega)] at hsq
        have hsb := stS_bd v hpl (p := q) (by omega) hql (TV_bd v hpl) (Nat.le_refl _)
        have hsg := stS_sgn l (TV l) q l.sizes.length
        rw [← hsq] at hsb hsg
        have g1 := cp_get (l := l) (k := q - l.kerf) (by omega)
        have g2 := dp_get (l := l) (k := q - l.kerf) (by omega)
        have g3 := dp_get (l := l) (k := q) (by omega)
        have g4 := cp_bd v hpl (b := q - l.kerf) (by omega) (by omega)
        have g5 := dp_bd v (a := q - l.kerf) (b := q) (by omega) (by omega) hql
        have g6 := dp_le v (k := q) hql
        rw [← g1, ← hc2] at g4
        rw [← g2, ← g3] at g5
        rw [← g3] at g6
        have hps := posS_succ l (TV l) p m
        rw [← hq0, if_pos hql, grp_st, ← hsq, ← hb] at hps
        have hpd : paidP l p q = (sumsS l.chip)[(q - l.kerf).toNat] - (sumsS l.chip)[p.toNat] + (sumsS l.dust)[q.toNat] - (sumsS l.dust)[(q - l.kerf).toNat] := by
          unfold paidP; rw [g1, g2, g3, hc2]
        rw [hpd] at hps
        have hnx : q + l.pitch = atP l p (m + 1 + 1) := by rw [atP_succ l p (m + 1), ← hq0]
        have hs2 : (ss'[q.toNat].1 = -1 ∧ ss'[q.toNat].2.1 = -1) ∨ 0 ≤ ss'[q.toNat].1 := by
          rcases hsg with h | h
          · left; rw [h]; exact ⟨rfl, rfl⟩
          · right; exact h.1
        have hs3 : 0 ≤ ss'[q.toNat].1 → ss'[q.toNat].2.1 = q := fun h0 => by
          rcases hsg with h | h
          · rw [h] at h0; simp at h0
          · exact h.2.2.1
        repeat' (first
 | ((with_reducible apply (r_load_ea (zs := [I (-1), I (-1)]) (ys := []))); exact rfl; exact rfl; exact rfl; exact rfl)
 | (refine aw_drawt 23 ?_ ?_; (kernel_rfl); (simp only [List.take_succ_cons, List.take_zero, List.drop_succ_cons, List.drop_zero]))
 | ((with_reducible apply aw_seq))
 | ((with_reducible apply aw_region))
 | ((with_reducible apply aw_block))
 | ((with_reducible apply thn_normal))
 | ((with_reducible apply inb_normal))
 | ((with_reducible apply aw_skip))
 | ((with_reducible apply ao_nil))
 | ((with_reducible apply r_move); exact rfl; exact rfl)
 | ((with_reducible apply r_assign); exact rfl; exact rfl)
 | ((with_reducible apply r_field_p); exact rfl; exact rfl)
 | ((with_reducible apply r_load_p); exact rfl; exact rfl; exact rfl; exact rfl)
 | ((with_reducible apply r_load_pa); exact rfl; exact rfl; exact rfl; exact rfl; exact rfl)
 | ((with_reducible apply r_leq); exact rfl; exact rfl; exact rfl)
 | ((with_reducible apply r_gtr); exact rfl; exact rfl; exact rfl)
 | ((with_reducible apply r_add); exact rfl; exact rfl; exact (by first | assumption | (unfold fits; omega)); exact rfl)
 | ((with_reducible apply r_sub); exact rfl; exact rfl; exact (by first | assumption | (unfold fits; omega)); exact rfl)
 | ((with_reducible apply r_pick_t); exact rfl; exact rfl; exact rfl)
 | ((with_reducible apply r_pick_f); exact rfl; exact rfl; exact rfl)
 | ((with_reducible apply r_index_f); exact rfl; exact inferInstance; exact rfl; exact (Int.toNat_of_nonneg (by omega)).symm; (first | assumption | omega); exact rfl)
 | ((with_reducible apply r_load_f0); exact rfl; exact inferInstance; exact List.getElem?_eq_getElem (by first | assumption | omega); exact rfl; exact rfl)
 | ((with_reducible apply r_index_vf); exact rfl; exact rfl; exact inferInstance; (first | exact rfl | assumption | omega); exact rfl; exact (Int.toNat_of_nonneg (by omega)).symm; (first | assumption | omega); exact rfl)
 | ((with_reducible apply r_load_vfa0); exact rfl; exact rfl; exact inferInstance; (first | exact rfl | assumption | omega); exact List.getElem?_eq_getElem (by first | assumption | omega); exact rfl; exact rfl; exact rfl)
 | ((with_reducible apply r_store_p); exact rfl; exact rfl; exact rfl; exact rfl; exact rfl; exact rfl)
 | ((with_reducible apply r_store_pa); exact rfl; exact rfl; exact rfl; exact rfl; exact rfl; exact rfl)
 | ((with_reducible apply r_alloc); exact rfl)
 | (((with_reducible apply r_guard); exact rfl; exact rfl; exact rfl; exact rfl) <;> intro hg <;> (first | (exact absurd hg (by decide)) | ((try simp only [decide_eq_true_eq, decide_eq_false_iff_not, Bool.not_eq_true', Bool.not_eq_false', Bool.not_true, Bool.not_false, Bool.not_not, Int.not_lt, Int.not_le, Nat.not_lt, Nat.not_le, gt_iff_lt, ge_iff_le, List.cons.injEq, and_true] at hg); first | (exact absurd trivial hg) | (exfalso; omega) | (have hT : True := hg; clear hT hg) | skip)))
 | (((with_reducible apply aw_cond); exact rfl) <;> intro hg <;> (first | (exact absurd hg (by decide)) | ((try simp only [decide_eq_true_eq, decide_eq_false_iff_not, Bool.not_eq_true', Bool.not_eq_false', Bool.not_true, Bool.not_false, Bool.not_not, Int.not_lt, Int.not_le, Nat.not_lt, Nat.not_le, gt_iff_lt, ge_iff_le, List.cons.injEq, and_true] at hg); first | (exact absurd trivial hg) | (exfalso; omega) | (have hT : True := hg; clear hT hg) | skip)))
 | ((with_reducible apply ds_nil))
 | ((with_reducible apply r_neqs); exact rfl; exact rfl; exact rfl; exact rfl; exact rfl; exact rfl; exact rfl)
 )
        · skip
          refine ⟨(m + 1, q + l.pitch, ((ss'[q.toNat]'(by omega)).1, (ss'[q.toNat]'(by omega)).2.1, (ss'[q.toNat]'(by omega)).2.2 + ((sumsS l.chip)[(q - l.kerf).toNat]'(by omega) - (sumsS l.chip)[p.toNat]'(by omega) + (sumsS l.dust)[q.toNat]'(by omega) - (sumsS l.dust)[(q - l.kerf).toNat]'(by omega)))), ?_, ?_, by refine weak_mk rfl ?_ ?_ <;> repeat (first | exact envW_nil | exact heapW_nil | refine envW_cons rfl rfl ?_ | refine heapW_cons rfl rfl rfl ?_)⟩
          · show (l.len + 1 - (q + l.pitch)).toNat < (l.len + 1 - q).toNat; omega
          · refine ⟨hnx, by show _ ≤ q + l.pitch; omega, ?_⟩
            show _ = posS l (TV l) p (m + 1)
            rw [hps, if_pos (by omega)]
            exact Prod.ext rfl (Prod.ext (hs3 (by omega)) rfl)
        · skip
          refine ⟨(m + 1, q + l.pitch, b), ?_, ?_, by refine weak_mk rfl ?_ ?_ <;> repeat (first | exact envW_nil | exact heapW_nil | refine envW_cons rfl rfl ?_ | refine heapW_cons rfl rfl rfl ?_)⟩
          · show (l.len + 1 - (q + l.pitch)).toNat < (l.len + 1 - q).toNat; omega
          · exact ⟨hnx, by show _ ≤ q + l.pitch; omega, by show b = posS l (TV l) p (m + 1); rw [hps, if_neg (by omega)]⟩
        · skip
          refine ⟨(m + 1, q + l.pitch, b), ?_, ?_, by refine weak_mk rfl ?_ ?_ <;> repeat (first | exact envW_nil | exact heapW_nil | refine envW_cons rfl rfl ?_ | refine heapW_cons rfl rfl rfl ?_)⟩
          · show (l.len + 1 - (q + l.pitch)).toNat < (l.len + 1 - q).toNat; omega
          · exact ⟨hnx, by show _ ≤ q + l.pitch; omega, by show b = posS l (TV l) p (m + 1); rw [hps, if_neg (by omega)]⟩
      · have hbt : b = TT l p := by rw [hb, TT_eq v hpl hp1]; exact posS_end v (TV l) hpl (by rw [← hq0]; omega)
        repeat' (first
 | ((with_reducible apply (r_store_v (enc := chC) (k := p.toNat) (l := es) b)); exact rfl; exact rfl; exact inferInstance; exact hen; exact (by omega); exact rfl; exact rfl; exact rfl; exact rfl)
 | ((with_reducible apply aw_seq))
 | ((with_reducible apply aw_region))
 | ((with_reducible apply thn_normal))
 | ((with_reducible apply thn_exit))
 | ((with_reducible apply inb_normal))
 | ((with_reducible apply inb_exit))
 | ((with_reducible apply aw_exit))
 | ((with_reducible apply ao_nil))
 | ((with_reducible apply r_move); exact rfl; exact rfl)
 | ((with_reducible apply r_assign); exact rfl; exact rfl)
 | ((with_reducible apply r_field_p); exact rfl; exact rfl)
 | ((with_reducible apply r_load_p); exact rfl; exact rfl; exact rfl; exact rfl)
 | ((with_reducible apply r_load_pa); exact rfl; exact rfl; exact rfl; exact rfl; exact rfl)
 | ((with_reducible apply r_leq); exact rfl; exact rfl; exact rfl)
 | ((with_reducible apply r_sub); exact rfl; exact rfl; exact (by first | assumption | (unfold fits; omega)); exact rfl)
 | ((with_reducible apply r_index_vf); exact rfl; exact rfl; exact inferInstance; (first | exact rfl | assumption | omega); exact rfl; exact (Int.toNat_of_nonneg (by omega)).symm; (first | assumption | omega); exact rfl)
 | (((with_reducible apply aw_cond); exact rfl) <;> intro hg <;> (first | (exact absurd hg (by decide)) | ((try simp only [decide_eq_true_eq, decide_eq_false_iff_not, Bool.not_eq_true', Bool.not_eq_false', Bool.not_true, Bool.not_false, Bool.not_not, Int.not_lt, Int.not_le, Nat.not_lt, Nat.not_le, gt_iff_lt, ge_iff_le, List.cons.injEq, and_true] at hg); first | (exact absurd trivial hg) | (exfalso; omega) | (have hT : True := hg; clear hT hg) | skip)))
 )
        refine ⟨(p - 1, es.set p.toNat b, ss'), ?_, ?_, by refine weak_mk rfl ?_ ?_ <;> repeat (first | exact envW_nil | exact heapW_nil | refine envW_cons rfl rfl ?_ | refine heapW_cons rfl rfl rfl ?_)⟩
        · show (p - 1 + 1).toNat < (p + 1).toNat; omega
        · refine ⟨by show -1 ≤ p - 1; omega, by show p - 1 ≤ _; omega, ⟨by simp [hen], hsn', fun i h hi => ?_, hnew⟩⟩
          by_cases e : i = p.toNat
          · subst e; rw [List.getElem_set_self, hbt, Int.toNat_of_nonneg hpl]
          · rw [List.getElem_set_ne (by omega)]
            exact kn.e i (by simpa using h) (by have : p - 1 < (i : Int) := hi; omega)
  · skip
    repeat' (first
 | ((with_reducible apply aw_seq))
 | ((with_reducible apply aw_region))
 | ((with_reducible apply thn_normal))
 | ((with_reducible apply thn_exit))
 | ((with_reducible apply inb_exit))
 | ((with_reducible apply aw_exit))
 | ((with_reducible apply aw_ret))
 | ((with_reducible apply ao_nil))
 | ((with_reducible apply r_move); exact rfl; exact rfl)
 | ((with_reducible apply r_assign); exact rfl; exact rfl)
 | ((with_reducible apply r_geq); exact rfl; exact rfl; exact rfl)
 | (((with_reducible apply aw_cond); exact rfl) <;> intro hg <;> (first | (exact absurd hg (by decide)) | ((try simp only [decide_eq_true_eq, decide_eq_false_iff_not, Bool.not_eq_true', Bool.not_eq_false', Bool.not_true, Bool.not_false, Bool.not_not, Int.not_lt, Int.not_le, Nat.not_lt, Nat.not_le, gt_iff_lt, ge_iff_le, List.cons.injEq, and_true] at hg); first | (exact absurd trivial hg) | (exfalso; omega) | (have hT : True := hg; clear hT hg) | skip)))
 )
    have : es = tabS l := tabS_of kn.en (fun i hi => kn.e i hi (by omega))
    rw [← this]
    exact ret1 (.tmp rfl (cl_vec rfl (by rw [flat_len EncL.len, kn.en])))
end Go.Proofs.YtkhljpbkebnnmaaGreatDoor.Cu
/- Walks of cutting: the best pieces. -/
namespace Go.Proofs.YtkhljpbkebnnmaaGreatDoor.Cu
set_option linter.unusedVariables false
set_option linter.unusedSimpArgs false
open Go.RowKit Go.Proofs.YtkhljpbkebnnmaaGreatDoor.Ev
def chainS (l : Line) : Nat → Int → List Piece
  | 0, _ => []
  | n + 1, e => if e < 0 ∨ (TT l e).1 < 0 then [] else ((TT l e).1, (TT l e).2.1) :: chainS l n (behindS l ((TT l e).2.1 + szOf l (TT l e).1))
noncomputable def bestS (l : Line) : List Piece × Int × Int := if chk l ≠ 0 then ([], 0, chk l) else (chainS l (l.len.toNat + 2) 0, TV l 0, 0)
def bestC (r : List Piece × Int × Int) : CV := .tup [LP r.1, I r.2.1, I r.2.2]
theorem chain_stop {l : Line} {n : Nat} {e : Int} (h : e < 0 ∨ (TT l e).1 < 0) : chainS l n e = [] := by
  cases n with
  | zero => rfl
  | succ n => show (if _ then _ else _) = _; rw [if_pos h]
theorem chain_go {l : Line} {n : Nat} {e : Int} (h0 : 0 ≤ e) (h : 0 ≤ (TT l e).1) : chainS l (n + 1) e = ((TT l e).1, (TT l e).2.1) :: chainS l n (behindS l ((TT l e).2.1 + szOf l (TT l e).1)) := by
  show (if _ then _ else _) = _; rw [if_neg (by omega)]
theorem TT_sgn {l : Line} (v : Valid l) {e : Int} (h0 : 0 ≤ e) (h1 : e ≤ l.len) : ((TT l e).1 = -1 ∧ (TT l e).2.1 = -1) ∨ (0 ≤ (TT l e).1 ∧ (TT l e).1 < l.sizes.length ∧ e ≤ (TT l e).2.1 ∧ OkP l (TT l e).1.toNat (TT l e).2.1) := by
  rw [TT_eq v h0 h1]
  unfold chooseS
  rcases posS_sgn l (TV l) e l.len.toNat with h | ⟨q, hq, h2, h3, h4, h5⟩
  · exact .inl h
  · refine .inr ⟨h2, h3, ?_, by rw [h4]; exact h5⟩
    rw [h4]
    rcases hq with rfl | ⟨j, hj, rfl, _⟩
    · exact Int.le_refl _
    · have := atP_ge v e j
      have := v.kerf
      omega
theorem best_ok {l : Line} (h : chk l = 0) : bestS l = (chainS l (l.len.toNat + 2) 0, TV l 0, 0) := by unfold bestS; rw [if_neg (fun hh => hh h)]
theorem best_err {l : Line} (h : ¬ chk l = 0) : bestS l = ([], 0, chk l) := by unfold bestS; rw [if_pos h]
theorem OkP_sz {l : Line} {k : Int} {p : Int} (h0 : 0 ≤ k) (h : OkP l k.toNat p) : p + szOf l k ≤ l.len := by
  have := h.1; rw [Int.toNat_of_nonneg h0] at this; exact this
theorem best_con (l : Line) : Con Tryz.prog G 36 [lineC l] (bestC (bestS l)) := by
  refine con_of Tryz.func36 rfl (by kernel_rfl) rfl ?_
  simp only [Tryz.ntmps36, Tryz.results36, argEnv, ofC, of1, List.map, lineC, lineL]
  repeat' (first
 | ((with_reducible apply r_call); exact rfl; exact rfl; exact check_con l; exact rfl; exact rfl)
 | ((with_reducible apply aw_seq))
 | ((with_reducible apply aw_region))
 | ((with_reducible apply thn_normal))
 | ((with_reducible apply thn_ret))
 | ((with_reducible apply aw_skip))
 | ((with_reducible apply aw_ret))
 | ((with_reducible apply ao_nil))
 | ((with_reducible apply r_move); exact rfl; exact rfl)
 | ((with_reducible apply r_assign); exact rfl; exact rfl)
 | ((with_reducible apply r_load_pa); exact rfl; exact rfl; exact rfl; exact rfl; exact rfl)
 | ((with_reducible apply r_neq); exact rfl; exact rfl; exact rfl)
 | ((with_reducible apply r_box_a); exact rfl; exact rfl)
 | (((with_reducible apply aw_cond); exact rfl) <;> intro hg <;> (first | (exact absurd hg (by decide)) | ((try simp only [decide_eq_true_eq, decide_eq_false_iff_not, Bool.not_eq_true', Bool.not_eq_false', Bool.not_true, Bool.not_false, Bool.not_not, Int.not_lt, Int.not_le, Nat.not_lt, Nat.not_le, gt_iff_lt, ge_iff_le, List.cons.injEq, and_true] at hg); first | (exact absurd trivial hg) | (exfalso; omega) | (have hT : True := hg; clear hT hg) | skip)))
 )
  · rw [best_err hg]
    exact ret2 (.cons (.tmp rfl cl_none) (.cons (.tmp rfl cl_c) (.cons (.tmp rfl cl_c) .nil)))
  have v := valid_of hg
  have hl := v.len
  have hlk := v.kerf
  have hlt := tabS_len l
  have h0 : TV l 0 = ((tabS l)[(0 : Int).toNat]'(by rw [hlt]; omega)).2.2 := by rw [tabS_get]; rfl
  rw [best_ok hg, h0]
  repeat' (first
 | ((with_reducible apply r_call); exact rfl; exact rfl; exact choices_con l v; exact rfl; exact rfl)
 | ((with_reducible apply aw_seq))
 | ((with_reducible apply aw_region))
 | ((with_reducible apply aw_block))
 | ((with_reducible apply thn_normal))
 | ((with_reducible apply ao_nil))
 | ((with_reducible apply r_assign); exact rfl; exact rfl)
 )
  refine aw_nilvec 7 74 2 rfl rfl ?_
  refine aw_loopG (G := Nat × Int × Nat × List Piece) (fun ((n, ed, k, out) : Nat × Int × Nat × List Piece) => out.length = k ∧ -1 ≤ ed ∧ ed ≤ l.len ∧ (0 ≤ ed → l.len - ed + 1 ≤ n) ∧ out.length + n ≤ l.len.toNat + 2 ∧ chainS l (l.len.toNat + 2) 0 = out ++ chainS l n ed) (fun ((n, ed, k, out) : Nat × Int × Nat × List Piece) => n) (fun ((n, ed, k, out) : Nat × Int × Nat × List Piece) => [(1, .ptr 0 0), (6, .c (LC (tabS l))), (7, .vec 1 k), (8, A ed)]) (fun ((n, ed, k, out) : Nat × Int × Nat × List Piece) => [(0, some (lineB l)), (1, some (.vec 74 2 (out.flatMap pcC)))]) 2 (l.len.toNat + 2, 0, 0, []) ?_ (by refine weak_mk rfl ?_ ?_ <;> repeat (first | exact envW_nil | exact heapW_nil | refine envW_cons rfl rfl ?_ | refine heapW_cons rfl rfl rfl ?_)) rfl ?_
  · exact ⟨rfl, by decide, hl.1, fun _ => by omega, by simp, by simp⟩
  rintro ⟨n, ed, k, out⟩ hI
  try dsimp only at hI
  try dsimp only
  obtain ⟨hk, he1, he2, hn, ho, hch⟩ := hI
  by_cases he0 : 0 ≤ ed
  · have htg := tabS_get l ed.toNat (by omega)
    rw [Int.toNat_of_nonneg he0] at htg
    have hs := TT_sgn v he0 he2
    rw [← htg] at hs
    rcases hs with hs | ⟨s1, s2, s3, s4⟩
    · skip
      repeat' (first
 | ((with_reducible apply (r_load_ea (zs := [I (-1), I (-1)]) (ys := []))); exact rfl; exact rfl; exact rfl; exact rfl)
 | ((with_reducible apply aw_seq))
 | ((with_reducible apply aw_region))
 | ((with_reducible apply aw_block))
 | ((with_reducible apply thn_normal))
 | ((with_reducible apply thn_exit))
 | ((with_reducible apply inb_exit))
 | ((with_reducible apply inb_other); exact rfl)
 | ((with_reducible apply aw_skip))
 | ((with_reducible apply aw_exit))
 | ((with_reducible apply aw_ret))
 | ((with_reducible apply ao_nil))
 | ((with_reducible apply r_move); exact rfl; exact rfl)
 | ((with_reducible apply r_assign); exact rfl; exact rfl)
 | ((with_reducible apply r_load_pa); exact rfl; exact rfl; exact rfl; exact rfl; exact rfl)
 | ((with_reducible apply r_geq); exact rfl; exact rfl; exact rfl)
 | ((with_reducible apply r_index_f); exact rfl; exact inferInstance; exact rfl; exact (Int.toNat_of_nonneg (by omega)).symm; (first | assumption | omega); exact rfl)
 | ((with_reducible apply r_load_f); exact rfl; exact inferInstance; exact List.getElem?_eq_getElem (by first | assumption | omega); exact rfl; exact rfl; exact rfl)
 | ((with_reducible apply r_load_fa); exact rfl; exact inferInstance; exact List.getElem?_eq_getElem (by first | assumption | omega); exact rfl; exact rfl; exact rfl)
 | ((with_reducible apply r_field_e); exact rfl; exact rfl)
 | ((with_reducible apply r_store_pa); exact rfl; exact rfl; exact rfl; exact rfl; exact rfl; exact rfl)
 | ((with_reducible apply r_alloc); exact rfl)
 | (((with_reducible apply aw_cond); exact rfl) <;> intro hg <;> (first | (exact absurd hg (by decide)) | ((try simp only [decide_eq_true_eq, decide_eq_false_iff_not, Bool.not_eq_true', Bool.not_eq_false', Bool.not_true, Bool.not_false, Bool.not_not, Int.not_lt, Int.not_le, Nat.not_lt, Nat.not_le, gt_iff_lt, ge_iff_le, List.cons.injEq, and_true] at hg); first | (exact absurd trivial hg) | (exfalso; omega) | (have hT : True := hg; clear hT hg) | skip)))
 | (refine aw_drawq ?_ ?_; (kernel_rfl))
 | ((with_reducible apply ds_nil))
 | ((with_reducible apply r_eqs); exact rfl; exact rfl; exact rfl; exact rfl; exact rfl; exact rfl; exact rfl)
 )
      rw [hch, chain_stop (Or.inr (by rw [← htg]; omega)), List.append_nil]
      exact ret2 (.cons (.tmp rfl (cl_vec rfl (by rw [flat_len EncL.len, hk]))) (.cons (.tmp rfl cl_c) (.cons (.tmp rfl cl_c) .nil)))
    · have s5 := OkP_sz s1 s4
      obtain ⟨m, rfl⟩ : ∃ m, n = m + 1 := ⟨n - 1, by omega⟩
      have hgo := chain_go (l := l) (n := m) he0 (by rw [← htg]; exact s1)
      rw [← htg] at hgo
      have hk2 : (tabS l)[ed.toNat].1.toNat < l.sizes.length := by omega
      have hsz : szOf l (tabS l)[ed.toNat].1 = l.sizes[(tabS l)[ed.toNat].1.toNat] := by
        conv => lhs; rw [show (tabS l)[ed.toNat].1 = (((tabS l)[ed.toNat].1.toNat : Nat) : Int) by omega]
        exact szOf_nat hk2
      rw [hsz] at s5 hgo
      have hz := v.size _ hk2
      have hb := beh_cases v (q := (tabS l)[ed.toNat].2.1 + l.sizes[(tabS l)[ed.toNat].1.toNat]) (by omega) s5
      repeat' (first
 | ((with_reducible apply (r_load_ea (zs := [I (-1), I (-1)]) (ys := []))); exact rfl; exact rfl; exact rfl; exact rfl)
 | ((with_reducible apply (r_push (enc := pcC) (x0 := ((tabS l)[ed.toNat].1, (tabS l)[ed.toNat].2.1)))); exact rfl; exact rfl; exact inferInstance; exact hk; exact rfl; exact rfl; exact rfl; exact (by omega); exact (by omega); exact rfl)
 | ((with_reducible apply r_call); exact rfl; exact rfl; exact behind_con l _ (by unfold fits; omega); exact rfl; exact rfl)
 | (refine aw_drawt 10 ?_ ?_; (kernel_rfl); (simp only [List.take_succ_cons, List.take_zero, List.drop_succ_cons, List.drop_zero]))
 | ((with_reducible apply aw_seq))
 | ((with_reducible apply aw_region))
 | ((with_reducible apply aw_block))
 | ((with_reducible apply thn_normal))
 | ((with_reducible apply inb_normal))
 | ((with_reducible apply aw_skip))
 | ((with_reducible apply ao_nil))
 | ((with_reducible apply r_move); exact rfl; exact rfl)
 | ((with_reducible apply r_assign); exact rfl; exact rfl)
 | ((with_reducible apply r_field_p); exact rfl; exact rfl)
 | ((with_reducible apply r_load_p); exact rfl; exact rfl; exact rfl; exact rfl)
 | ((with_reducible apply r_load_pa); exact rfl; exact rfl; exact rfl; exact rfl; exact rfl)
 | ((with_reducible apply r_geq); exact rfl; exact rfl; exact rfl)
 | ((with_reducible apply r_add); exact rfl; exact rfl; exact (by first | assumption | (unfold fits; omega)); exact rfl)
 | ((with_reducible apply r_index_f); exact rfl; exact inferInstance; exact rfl; exact (Int.toNat_of_nonneg (by omega)).symm; (first | assumption | omega); exact rfl)
 | ((with_reducible apply r_load_f0); exact rfl; exact inferInstance; exact List.getElem?_eq_getElem (by first | assumption | omega); exact rfl; exact rfl)
 | ((with_reducible apply r_load_fa); exact rfl; exact inferInstance; exact List.getElem?_eq_getElem (by first | assumption | omega); exact rfl; exact rfl; exact rfl)
 | ((with_reducible apply r_field_e); exact rfl; exact rfl)
 | ((with_reducible apply r_store_pa); exact rfl; exact rfl; exact rfl; exact rfl; exact rfl; exact rfl)
 | ((with_reducible apply r_alloc); exact rfl)
 | (((with_reducible apply aw_cond); exact rfl) <;> intro hg <;> (first | (exact absurd hg (by decide)) | ((try simp only [decide_eq_true_eq, decide_eq_false_iff_not, Bool.not_eq_true', Bool.not_eq_false', Bool.not_true, Bool.not_false, Bool.not_not, Int.not_lt, Int.not_le, Nat.not_lt, Nat.not_le, gt_iff_lt, ge_iff_le, List.cons.injEq, and_true] at hg); first | (exact absurd trivial hg) | (exfalso; omega) | (have hT : True := hg; clear hT hg) | skip)))
 | ((with_reducible apply ds_nil))
 | ((with_reducible apply r_eqs); exact rfl; exact rfl; exact rfl; exact rfl; exact rfl; exact rfl; exact rfl)
 | ((with_reducible apply r_lit); exact rfl; exact rfl; exact rfl; exact rfl; exact rfl; exact rfl; exact rfl)
 )
      refine ⟨(m, behindS l ((tabS l)[ed.toNat].2.1 + l.sizes[(tabS l)[ed.toNat].1.toNat]), k + 1, out ++ [((tabS l)[ed.toNat].1, (tabS l)[ed.toNat].2.1)]), ?_, ?_, by refine weak_mk rfl ?_ ?_ <;> repeat (first | exact envW_nil | exact heapW_nil | refine envW_cons rfl rfl ?_ | refine heapW_cons rfl rfl rfl ?_)⟩
      · show m < m + 1; omega
      · dsimp only
        refine ⟨by simp [hk], by omega, by omega, fun h => by omega, by simp; omega, ?_⟩
        rw [hch, hgo, List.append_assoc]; rfl
  · skip
    repeat' (first
 | ((with_reducible apply aw_seq))
 | ((with_reducible apply aw_region))
 | ((with_reducible apply thn_normal))
 | ((with_reducible apply thn_exit))
 | ((with_reducible apply inb_exit))
 | ((with_reducible apply aw_exit))
 | ((with_reducible apply aw_ret))
 | ((with_reducible apply ao_nil))
 | ((with_reducible apply r_move); exact rfl; exact rfl)
 | ((with_reducible apply r_assign); exact rfl; exact rfl)
 | ((with_reducible apply r_geq); exact rfl; exact rfl; exact rfl)
 | ((with_reducible apply r_index_f); exact rfl; exact inferInstance; exact rfl; exact (Int.toNat_of_nonneg (by omega)).symm; (first | assumption | omega); exact rfl)
 | ((with_reducible apply r_load_f); exact rfl; exact inferInstance; exact List.getElem?_eq_getElem (by first | assumption | omega); exact rfl; exact rfl; exact rfl)
 | ((with_reducible apply r_field_e); exact rfl; exact rfl)
 | (((with_reducible apply aw_cond); exact rfl) <;> intro hg <;> (first | (exact absurd hg (by decide)) | ((try simp only [decide_eq_true_eq, decide_eq_false_iff_not, Bool.not_eq_true', Bool.not_eq_false', Bool.not_true, Bool.not_false, Bool.not_not, Int.not_lt, Int.not_le, Nat.not_lt, Nat.not_le, gt_iff_lt, ge_iff_le, List.cons.injEq, and_true] at hg); first | (exact absurd trivial hg) | (exfalso; omega) | (have hT : True := hg; clear hT hg) | skip)))
 | (refine aw_drawq ?_ ?_; (kernel_rfl))
 | ((with_reducible apply ds_nil))
 )
    rw [hch, chain_stop (Or.inl (by omega)), List.append_nil]
    exact ret2 (.cons (.tmp rfl (cl_vec rfl (by rw [flat_len EncL.len, hk]))) (.cons (.tmp rfl cl_c) (.cons (.tmp rfl cl_c) .nil)))
end Go.Proofs.YtkhljpbkebnnmaaGreatDoor.Cu
