/- CutA CutB CutC CutD CutE: texts laid together. -/
import Derived.Test.YtjofnmklkndhoaaDoorMrgI0
set_option maxRecDepth 100000
set_option maxHeartbeats 64000000
/- Walks of cutting: behind, places, measures, small, Check. -/
namespace Go.Proofs.YtjofnmklkndhoaaDoor.Cu
set_option linter.unusedVariables false
set_option linter.unusedSimpArgs false
open Go.RowKit Go.Proofs.YtjofnmklkndhoaaDoor.Ev
abbrev I (n : Int) : CV := .v (.int .i64 n)
abbrev A (n : Int) : AV := .c (.v (.int .i64 n))
def inC (n : Int) : List CV := [I n]
instance : EncL inC 1 := ⟨fun _ => rfl, by decide, fun _ => rfl⟩
abbrev LI (l : List Int) : CV := .lst 1 (l.flatMap inC)
def rowC (l : List Int) : List CV := [LI l]
instance : EncL rowC 1 := ⟨fun _ => rfl, by decide, fun _ => rfl⟩
abbrev LL (l : List (List Int)) : CV := .lst 1 (l.flatMap rowC)
structure Line where
  len : Int
  kerf : Int
  pitch : Int
  sizes : List Int
  gain : List (List Int)
  chip : List Int
  dust : List Int
def lineL (l : Line) : List CV := [I l.len, I l.kerf, I l.pitch, LI l.sizes, LL l.gain, LI l.chip, LI l.dust]
def lineC (l : Line) : CV := .agg (lineL l)
abbrev lineB (l : Line) : AB := .cells 25 [.c (I l.len), .c (I l.kerf), .c (I l.pitch), .c (LI l.sizes), .c (LL l.gain), .c (LI l.chip), .c (LI l.dust)]
variable {gl : List (Nat × List CV)}
def behindS (l : Line) (e : Int) : Int := if e = l.len then -1 else min (e + l.kerf) l.len
theorem behind_con (l : Line) (e : Int) (h : fits (e + l.kerf)) : Con Tryd.prog gl 37 [lineC l, I e] (I (behindS l e)) := by
  refine con_of Tryd.func37 rfl (by kernel_rfl) rfl ?_
  simp only [Tryd.ntmps37, Tryd.results37, argEnv, ofC, of1, List.map, lineC, lineL]
  repeat' (first
 | ((with_reducible apply aw_seq))
 | ((with_reducible apply aw_region))
 | ((with_reducible apply thn_normal))
 | ((with_reducible apply thn_ret))
 | ((with_reducible apply aw_skip))
 | ((with_reducible apply aw_ret))
 | ((with_reducible apply ao_nil))
 | ((with_reducible apply r_move); exact rfl; exact rfl)
 | ((with_reducible apply r_assign); exact rfl; exact rfl)
 | ((with_reducible apply r_field_p); exact rfl; exact rfl)
 | ((with_reducible apply r_load_p); exact rfl; exact rfl; exact rfl; exact rfl)
 | ((with_reducible apply r_eql); exact rfl; exact rfl; exact rfl)
 | ((with_reducible apply r_add); exact rfl; exact rfl; exact (by first | assumption | (unfold fits; omega)); exact rfl)
 | ((with_reducible apply r_min); exact rfl; exact rfl; exact rfl)
 | ((with_reducible apply r_box_a); exact rfl; exact rfl)
 | (((with_reducible apply aw_cond); exact rfl) <;> intro hg <;> (first | (exact absurd hg (by decide)) | ((try simp only [decide_eq_true_eq, decide_eq_false_iff_not, Bool.not_eq_true', Bool.not_eq_false', Bool.not_true, Bool.not_false, Bool.not_not, Int.not_lt, Int.not_le, Nat.not_lt, Nat.not_le, gt_iff_lt, ge_iff_le, List.cons.injEq, and_true] at hg); first | (exact absurd trivial hg) | (exfalso; omega) | (have hT : True := hg; clear hT hg) | skip)))
 )
  · exact ret_i rfl (by unfold behindS; rw [if_pos hg])
  · exact ret_i rfl (by unfold behindS; rw [if_neg hg])
theorem places_con (l : Line) (s : Int) (h : 0 ≤ l.len ∧ l.len ≤ 2000 ∧ 1 ≤ s ∧ s ≤ 2000) : Con Tryd.prog gl 32 [lineC l, I s] (I (max 0 (l.len - s + 1))) := by
  refine con_of Tryd.func32 rfl (by kernel_rfl) rfl ?_
  simp only [Tryd.ntmps32, Tryd.results32, argEnv, ofC, of1, List.map, lineC, lineL]
  repeat' (first
 | ((with_reducible apply aw_seq))
 | ((with_reducible apply aw_region))
 | ((with_reducible apply thn_normal))
 | ((with_reducible apply aw_ret))
 | ((with_reducible apply ao_nil))
 | ((with_reducible apply r_move); exact rfl; exact rfl)
 | ((with_reducible apply r_assign); exact rfl; exact rfl)
 | ((with_reducible apply r_field_p); exact rfl; exact rfl)
 | ((with_reducible apply r_load_p); exact rfl; exact rfl; exact rfl; exact rfl)
 | ((with_reducible apply r_add); exact rfl; exact rfl; exact (by first | assumption | (unfold fits; omega)); exact rfl)
 | ((with_reducible apply r_sub); exact rfl; exact rfl; exact (by first | assumption | (unfold fits; omega)); exact rfl)
 | ((with_reducible apply r_max); exact rfl; exact rfl; exact rfl)
 | ((with_reducible apply r_box_a); exact rfl; exact rfl)
 )
  exact ret_i rfl rfl
def headBad (l : Line) : Prop := l.len < 0 ∨ 2000 < l.len ∨ l.kerf < 0 ∨ 20 < l.kerf ∨ l.pitch < 1 ∨ 2000 < l.pitch
instance (l : Line) : Decidable (headBad l) := by unfold headBad; exact inferInstance
def sizeOk (s : Int) : Bool := decide (1 ≤ s) && decide (s ≤ 2000)
def measS (l : Line) : Int := if headBad l then 9 else if 32 < l.sizes.length then 4 else if l.sizes.all sizeOk then 0 else 9
theorem all_of {α : Type} {p : α → Bool} {l : List α} (h : ∀ i (h : i < l.length), p l[i] = true) : l.all p = true := by
  rw [List.all_eq_true]; intro x hx; obtain ⟨i, hi, rfl⟩ := List.mem_iff_getElem.1 hx; exact h i hi
theorem all_not {α : Type} {p : α → Bool} {l : List α} {i : Nat} (hi : i < l.length) (h : p l[i] = false) : l.all p = false := by
  rw [List.all_eq_false]; exact ⟨l[i], List.getElem_mem _, by simp [h]⟩
theorem step_all {α : Type} {p : α → Bool} {l : List α} {j : Nat} (hj : j < l.length) (h : ∀ i (h : i < l.length), i < j → p l[i] = true) (hp : p l[j] = true) : ∀ i (h : i < l.length), i < j + 1 → p l[i] = true := by
  intro i hi hij
  by_cases he : i = j
  · subst he; exact hp
  · exact h i hi (by omega)
theorem meas1 {l : Line} (h : headBad l) : 9 = measS l := by unfold measS; rw [if_pos h]
theorem meas2 {l : Line} (h : ¬ headBad l) (h2 : 32 < l.sizes.length) : 4 = measS l := by unfold measS; rw [if_neg h, if_pos h2]
theorem meas3 {l : Line} (h : ¬ headBad l) (h2 : ¬ 32 < l.sizes.length) {j : Nat} (hj : j < l.sizes.length) (hs : sizeOk l.sizes[j] = false) : 9 = measS l := by unfold measS; rw [if_neg h, if_neg h2, all_not hj hs]; rfl
theorem meas4 {l : Line} (h : ¬ headBad l) (h2 : ¬ 32 < l.sizes.length) (hs : ∀ i (h : i < l.sizes.length), sizeOk l.sizes[i] = true) : 0 = measS l := by unfold measS; rw [if_neg h, if_neg h2, all_of hs]; rfl
theorem meas0 {l : Line} (h : measS l = 0) : ¬ headBad l ∧ l.sizes.length ≤ 32 ∧ ∀ i (h : i < l.sizes.length), 1 ≤ l.sizes[i] ∧ l.sizes[i] ≤ 2000 := by
  unfold measS at h
  split at h
  · simp at h
  split at h
  · simp at h
  split at h
  · rename_i h1 h2 h3
    refine ⟨h1, by omega, fun i hi => ?_⟩
    have := List.all_eq_true.1 h3 _ (List.getElem_mem hi)
    unfold sizeOk at this
    simpa using this
  · simp at h
theorem meas_con (l : Line) : Con Tryd.prog gl 31 [lineC l] (I (measS l)) := by
  refine con_of Tryd.func31 rfl (by kernel_rfl) rfl ?_
  simp only [Tryd.ntmps31, Tryd.results31, argEnv, ofC, of1, List.map, lineC, lineL]
  repeat' (first
 | ((with_reducible apply aw_seq))
 | ((with_reducible apply aw_region))
 | ((with_reducible apply aw_block))
 | ((with_reducible apply thn_normal))
 | ((with_reducible apply thn_ret))
 | ((with_reducible apply aw_skip))
 | ((with_reducible apply aw_ret))
 | ((with_reducible apply ao_nil))
 | ((with_reducible apply r_move); exact rfl; exact rfl)
 | ((with_reducible apply r_assign); exact rfl; exact rfl)
 | ((with_reducible apply r_field_p); exact rfl; exact rfl)
 | ((with_reducible apply r_load_p); exact rfl; exact rfl; exact rfl; exact rfl)
 | ((with_reducible apply r_lss); exact rfl; exact rfl; exact rfl)
 | ((with_reducible apply r_gtr); exact rfl; exact rfl; exact rfl)
 | ((with_reducible apply r_box_a); exact rfl; exact rfl)
 | ((with_reducible apply r_pick_t); exact rfl; exact rfl; exact rfl)
 | ((with_reducible apply r_pick_f); exact rfl; exact rfl; exact rfl)
 | ((with_reducible apply r_len_f); exact rfl; exact inferInstance; exact rfl)
 | (((with_reducible apply r_guard); exact rfl; exact rfl; exact rfl; exact rfl) <;> intro hg <;> (first | (exact absurd hg (by decide)) | ((try simp only [decide_eq_true_eq, decide_eq_false_iff_not, Bool.not_eq_true', Bool.not_eq_false', Bool.not_true, Bool.not_false, Bool.not_not, Int.not_lt, Int.not_le, Nat.not_lt, Nat.not_le, gt_iff_lt, ge_iff_le, List.cons.injEq, and_true] at hg); first | (exact absurd trivial hg) | (exfalso; omega) | (have hT : True := hg; clear hT hg) | skip)))
 | (((with_reducible apply aw_cond); exact rfl) <;> intro hg <;> (first | (exact absurd hg (by decide)) | ((try simp only [decide_eq_true_eq, decide_eq_false_iff_not, Bool.not_eq_true', Bool.not_eq_false', Bool.not_true, Bool.not_false, Bool.not_not, Int.not_lt, Int.not_le, Nat.not_lt, Nat.not_le, gt_iff_lt, ge_iff_le, List.cons.injEq, and_true] at hg); first | (exact absurd trivial hg) | (exfalso; omega) | (have hT : True := hg; clear hT hg) | skip)))
 )
  all_goals first | exact ret_i rfl (meas1 (by unfold headBad; omega)) | exact ret_i rfl (meas2 (by unfold headBad; omega) (by omega)) | skip
  have hh : ¬ headBad l := by unfold headBad; omega
  have hl : ¬ 32 < l.sizes.length := by omega
  refine aw_loopG (G := Nat) (fun (j : Nat) => j ≤ l.sizes.length ∧ ∀ i (h : i < l.sizes.length), i < j → sizeOk l.sizes[i] = true) (fun (j : Nat) => l.sizes.length - j) (fun (j : Nat) => [(38, .c (LI l.sizes)), (39, A l.sizes.length), (40, A j)]) (fun (j : Nat) => []) 1 0 ?_ (by refine weak_mk rfl ?_ ?_ <;> repeat (first | exact envW_nil | exact heapW_nil | refine envW_cons rfl rfl ?_ | refine heapW_cons rfl rfl rfl ?_)) rfl ?_
  · exact ⟨Nat.zero_le _, fun _ _ h => absurd h (Nat.not_lt_zero _)⟩
  rintro j hI
  try dsimp only at hI
  try dsimp only
  obtain ⟨hj, hall⟩ := hI
  repeat' (first
 | ((with_reducible apply aw_seq))
 | ((with_reducible apply aw_region))
 | ((with_reducible apply aw_block))
 | ((with_reducible apply thn_normal))
 | ((with_reducible apply thn_ret))
 | ((with_reducible apply thn_exit))
 | ((with_reducible apply inb_normal))
 | ((with_reducible apply inb_ret))
 | ((with_reducible apply inb_exit))
 | ((with_reducible apply aw_skip))
 | ((with_reducible apply aw_exit))
 | ((with_reducible apply aw_ret))
 | ((with_reducible apply ao_nil))
 | ((with_reducible apply r_move); exact rfl; exact rfl)
 | ((with_reducible apply r_assign); exact rfl; exact rfl)
 | ((with_reducible apply r_lss); exact rfl; exact rfl; exact rfl)
 | ((with_reducible apply r_gtr); exact rfl; exact rfl; exact rfl)
 | ((with_reducible apply r_add); exact rfl; exact rfl; exact (by first | assumption | (unfold fits; omega)); exact rfl)
 | ((with_reducible apply r_pick_t); exact rfl; exact rfl; exact rfl)
 | ((with_reducible apply r_pick_f); exact rfl; exact rfl; exact rfl)
 | ((with_reducible apply r_index_f); exact rfl; exact inferInstance; exact rfl; exact rfl; (first | assumption | omega); exact rfl)
 | ((with_reducible apply r_load_f0); exact rfl; exact inferInstance; exact List.getElem?_eq_getElem (by first | assumption | omega); exact rfl; exact rfl)
 | (((with_reducible apply r_guard); exact rfl; exact rfl; exact rfl; exact rfl) <;> intro hg <;> (first | (exact absurd hg (by decide)) | ((try simp only [decide_eq_true_eq, decide_eq_false_iff_not, Bool.not_eq_true', Bool.not_eq_false', Bool.not_true, Bool.not_false, Bool.not_not, Int.not_lt, Int.not_le, Nat.not_lt, Nat.not_le, gt_iff_lt, ge_iff_le, List.cons.injEq, and_true] at hg); first | (exact absurd trivial hg) | (exfalso; omega) | (have hT : True := hg; clear hT hg) | skip)))
 | (((with_reducible apply aw_cond); exact rfl) <;> intro hg <;> (first | (exact absurd hg (by decide)) | ((try simp only [decide_eq_true_eq, decide_eq_false_iff_not, Bool.not_eq_true', Bool.not_eq_false', Bool.not_true, Bool.not_false, Bool.not_not, Int.not_lt, Int.not_le, Nat.not_lt, Nat.not_le, gt_iff_lt, ge_iff_le, List.cons.injEq, and_true] at hg); first | (exact absurd trivial hg) | (exfalso; omega) | (have hT : True := hg; clear hT hg) | skip)))
 )
  · exact ret_i rfl (meas3 hh hl (j := j) (by omega) (by unfold sizeOk; simp; omega))
  · skip
    refine ⟨j + 1, ?_, ?_, by refine weak_mk rfl ?_ ?_ <;> repeat (first | exact envW_nil | exact heapW_nil | refine envW_cons rfl rfl ?_ | refine heapW_cons rfl rfl rfl ?_)⟩
    · omega
    · exact ⟨by omega, step_all (by omega) hall (by unfold sizeOk; simp; omega)⟩
  · exact ret_i rfl (meas3 hh hl (j := j) (by omega) (by unfold sizeOk; simp; omega))
  · exact ret_i rfl (meas4 hh hl (fun i hi => hall i hi (by omega)))
def smallN (n : Int) : Bool := decide (-1125899906842624 ≤ n) && decide (n ≤ 1125899906842624)
def smallL (l : List Int) : Bool := l.all smallN
theorem small_con (ls : List (List Int)) (hn : ls.length ≤ 1000000) (hr : ∀ i (h : i < ls.length), ls[i].length ≤ 1000000) : Con Tryd.prog gl 33 [LL ls] (.v (.bool (ls.all smallL))) := by
  refine con_of Tryd.func33 rfl (by kernel_rfl) rfl ?_
  simp only [Tryd.ntmps33, Tryd.results33, argEnv, ofC, of1, List.map]
  repeat' (first
 | ((with_reducible apply aw_seq))
 | ((with_reducible apply aw_region))
 | ((with_reducible apply aw_block))
 | ((with_reducible apply thn_normal))
 | ((with_reducible apply ao_nil))
 | ((with_reducible apply r_move); exact rfl; exact rfl)
 | ((with_reducible apply r_assign); exact rfl; exact rfl)
 | ((with_reducible apply r_len_f); exact rfl; exact inferInstance; exact rfl)
 )
  refine aw_loopG (G := Nat) (fun (j : Nat) => j ≤ ls.length ∧ ∀ i (h : i < ls.length), i < j → smallL ls[i] = true) (fun (j : Nat) => ls.length - j) (fun (j : Nat) => [(7, .c (LL ls)), (8, A ls.length), (9, A j)]) (fun (j : Nat) => []) 0 0 ?_ (by refine weak_mk rfl ?_ ?_ <;> repeat (first | exact envW_nil | exact heapW_nil | refine envW_cons rfl rfl ?_ | refine heapW_cons rfl rfl rfl ?_)) rfl ?_
  · exact ⟨Nat.zero_le _, fun _ _ h => absurd h (Nat.not_lt_zero _)⟩
  rintro j hI
  try dsimp only at hI
  try dsimp only
  obtain ⟨hj, hall⟩ := hI
  repeat' (first
 | ((with_reducible apply aw_seq))
 | ((with_reducible apply aw_region))
 | ((with_reducible apply aw_block))
 | ((with_reducible apply thn_normal))
 | ((with_reducible apply thn_exit))
 | ((with_reducible apply inb_exit))
 | ((with_reducible apply aw_skip))
 | ((with_reducible apply aw_exit))
 | ((with_reducible apply aw_ret))
 | ((with_reducible apply ao_nil))
 | ((with_reducible apply r_move); exact rfl; exact rfl)
 | ((with_reducible apply r_assign); exact rfl; exact rfl)
 | ((with_reducible apply r_lss); exact rfl; exact rfl; exact rfl)
 | ((with_reducible apply r_len_f); exact rfl; exact inferInstance; exact rfl)
 | ((with_reducible apply r_index_f); exact rfl; exact inferInstance; exact rfl; exact rfl; (first | assumption | omega); exact rfl)
 | ((with_reducible apply r_load_f0); exact rfl; exact inferInstance; exact List.getElem?_eq_getElem (by first | assumption | omega); exact rfl; exact rfl)
 | (((with_reducible apply aw_cond); exact rfl) <;> intro hg <;> (first | (exact absurd hg (by decide)) | ((try simp only [decide_eq_true_eq, decide_eq_false_iff_not, Bool.not_eq_true', Bool.not_eq_false', Bool.not_true, Bool.not_false, Bool.not_not, Int.not_lt, Int.not_le, Nat.not_lt, Nat.not_le, gt_iff_lt, ge_iff_le, List.cons.injEq, and_true] at hg); first | (exact absurd trivial hg) | (exfalso; omega) | (have hT : True := hg; clear hT hg) | skip)))
 )
  · have hj1 : j < ls.length := by omega
    have hlr := hr j hj1
    refine aw_loopG (G := Nat) (fun (i : Nat) => i ≤ ls[j].length ∧ ∀ q (h : q < ls[j].length), q < i → smallN ls[j][q] = true) (fun (i : Nat) => ls[j].length - i) (fun (i : Nat) => [(7, .c (LL ls)), (8, A ls.length), (9, A j), (13, .c (LI ls[j])), (14, A ls[j].length), (15, A i)]) (fun (i : Nat) => []) 0 0 ?_ (by refine weak_mk rfl ?_ ?_ <;> repeat (first | exact envW_nil | exact heapW_nil | refine envW_cons rfl rfl ?_ | refine heapW_cons rfl rfl rfl ?_)) rfl ?_
    · exact ⟨Nat.zero_le _, fun _ _ h => absurd h (Nat.not_lt_zero _)⟩
    rintro i hI
    try dsimp only at hI
    try dsimp only
    obtain ⟨hi, hin⟩ := hI
    repeat' (first
 | ((with_reducible apply aw_seq))
 | ((with_reducible apply aw_region))
 | ((with_reducible apply aw_block))
 | ((with_reducible apply thn_normal))
 | ((with_reducible apply thn_ret))
 | ((with_reducible apply thn_exit))
 | ((with_reducible apply inb_normal))
 | ((with_reducible apply inb_ret))
 | ((with_reducible apply inb_exit))
 | ((with_reducible apply aw_skip))
 | ((with_reducible apply aw_exit))
 | ((with_reducible apply aw_ret))
 | ((with_reducible apply ao_nil))
 | ((with_reducible apply r_move); exact rfl; exact rfl)
 | ((with_reducible apply r_assign); exact rfl; exact rfl)
 | ((with_reducible apply r_lss); exact rfl; exact rfl; exact rfl)
 | ((with_reducible apply r_gtr); exact rfl; exact rfl; exact rfl)
 | ((with_reducible apply r_add); exact rfl; exact rfl; exact (by first | assumption | (unfold fits; omega)); exact rfl)
 | ((with_reducible apply r_pick_t); exact rfl; exact rfl; exact rfl)
 | ((with_reducible apply r_pick_f); exact rfl; exact rfl; exact rfl)
 | ((with_reducible apply r_index_f); exact rfl; exact inferInstance; exact rfl; exact rfl; (first | assumption | omega); exact rfl)
 | ((with_reducible apply r_load_f0); exact rfl; exact inferInstance; exact List.getElem?_eq_getElem (by first | assumption | omega); exact rfl; exact rfl)
 | (((with_reducible apply r_guard); exact rfl; exact rfl; exact rfl; exact rfl) <;> intro hg <;> (first | (exact absurd hg (by decide)) | ((try simp only [decide_eq_true_eq, decide_eq_false_iff_not, Bool.not_eq_true', Bool.not_eq_false', Bool.not_true, Bool.not_false, Bool.not_not, Int.not_lt, Int.not_le, Nat.not_lt, Nat.not_le, gt_iff_lt, ge_iff_le, List.cons.injEq, and_true] at hg); first | (exact absurd trivial hg) | (exfalso; omega) | (have hT : True := hg; clear hT hg) | skip)))
 | (((with_reducible apply aw_cond); exact rfl) <;> intro hg <;> (first | (exact absurd hg (by decide)) | ((try simp only [decide_eq_true_eq, decide_eq_false_iff_not, Bool.not_eq_true', Bool.not_eq_false', Bool.not_true, Bool.not_false, Bool.not_not, Int.not_lt, Int.not_le, Nat.not_lt, Nat.not_le, gt_iff_lt, ge_iff_le, List.cons.injEq, and_true] at hg); first | (exact absurd trivial hg) | (exfalso; omega) | (have hT : True := hg; clear hT hg) | skip)))
 )
    · exact ret_b rfl (all_not hj1 (all_not (i := i) (by omega) (by unfold smallN; simp; omega))).symm
    · skip
      refine ⟨i + 1, ?_, ?_, by refine weak_mk rfl ?_ ?_ <;> repeat (first | exact envW_nil | exact heapW_nil | refine envW_cons rfl rfl ?_ | refine heapW_cons rfl rfl rfl ?_)⟩
      · omega
      · exact ⟨by omega, step_all (by omega) hin (by unfold smallN; simp; omega)⟩
    · exact ret_b rfl (all_not hj1 (all_not (i := i) (by omega) (by unfold smallN; simp; omega))).symm
    · skip
      refine ⟨j + 1, ?_, ?_, by refine weak_mk rfl ?_ ?_ <;> repeat (first | exact envW_nil | exact heapW_nil | refine envW_cons rfl rfl ?_ | refine heapW_cons rfl rfl rfl ?_)⟩
      · omega
      · exact ⟨by omega, step_all hj1 hall (all_of (fun q hq => hin q hq (by omega)))⟩
  · exact ret_b rfl (all_of (fun i hi => hall i hi (by omega))).symm
def rowOk (l : Line) (i : Nat) : Prop := ∀ (h : i < l.gain.length) (h2 : i < l.sizes.length), (l.gain[i].length : Int) = max 0 (l.len - l.sizes[i] + 1)
def shapeOk (l : Line) : Prop := l.gain.length = l.sizes.length ∧ (l.chip.length : Int) = l.len ∧ (l.dust.length : Int) = l.len ∧ ∀ i, i < l.sizes.length → rowOk l i
open Classical in
noncomputable def chk (l : Line) : Int := if measS l ≠ 0 then measS l else if shapeOk l then (if l.gain.all smallL && smallL l.chip && smallL l.dust then 0 else 9) else 19
theorem chk_meas {l : Line} (h : ¬ measS l = 0) : measS l = chk l := by unfold chk; rw [if_pos h]
theorem chk_shape {l : Line} (h : measS l = 0) (h2 : ¬ shapeOk l) : 19 = chk l := by unfold chk; rw [if_neg (by simp [h]), if_neg h2]
theorem chk_small {l : Line} (h : measS l = 0) (h2 : shapeOk l) (b : Bool) (hb : (l.gain.all smallL && smallL l.chip && smallL l.dust) = b) : (if b then 0 else 9) = chk l := by unfold chk; rw [if_neg (show ¬ measS l ≠ 0 from fun hh => hh h), if_pos h2, hb]
theorem chk9a {l : Line} (h : measS l = 0) (hs : shapeOk l) (b : l.gain.all smallL = false) : 9 = chk l := by rw [← chk_small h hs _ rfl, b]; rfl
theorem chk9b {l : Line} (h : measS l = 0) (hs : shapeOk l) (b : [l.chip, l.dust].all smallL = false) : 9 = chk l := by
  rw [← chk_small h hs _ rfl]
  simp only [List.all_cons, List.all_nil, Bool.and_true] at b
  rw [Bool.and_assoc, b, Bool.and_false]; rfl
theorem chk0 {l : Line} (h : measS l = 0) (hs : shapeOk l) (b1 : l.gain.all smallL = true) (b2 : [l.chip, l.dust].all smallL = true) : 0 = chk l := by
  rw [← chk_small h hs _ rfl]
  simp only [List.all_cons, List.all_nil, Bool.and_true] at b2
  rw [Bool.and_assoc, b1, b2]; rfl
theorem shape_len {l : Line} (h : measS l = 0) (hs : shapeOk l) : 0 ≤ l.len ∧ l.len ≤ 2000 ∧ l.gain.length ≤ 32 ∧ l.chip.length ≤ 2000 ∧ l.dust.length ≤ 2000 ∧ ∀ i (h : i < l.gain.length), l.gain[i].length ≤ 2000 := by
  obtain ⟨h1, h2, h3⟩ := meas0 h
  unfold headBad at h1
  obtain ⟨s1, s2, s3, s4⟩ := hs
  refine ⟨by omega, by omega, by omega, by omega, by omega, fun i hi => ?_⟩
  have := s4 i (by omega) hi (by omega)
  have := (h3 i (by omega)).1
  omega
theorem check_con (l : Line) : Con Tryd.prog gl 13 [lineC l] (I (chk l)) := by
  refine con_of Tryd.func13 rfl (by kernel_rfl) rfl ?_
  simp only [Tryd.ntmps13, Tryd.results13, argEnv, ofC, of1, List.map, lineC, lineL]
  repeat' (first
 | ((with_reducible apply r_call); exact rfl; exact rfl; exact meas_con l; exact rfl; exact rfl)
 | ((with_reducible apply aw_seq))
 | ((with_reducible apply aw_region))
 | ((with_reducible apply aw_block))
 | ((with_reducible apply thn_normal))
 | ((with_reducible apply thn_ret))
 | ((with_reducible apply aw_skip))
 | ((with_reducible apply aw_ret))
 | ((with_reducible apply ao_nil))
 | ((with_reducible apply r_move); exact rfl; exact rfl)
 | ((with_reducible apply r_assign); exact rfl; exact rfl)
 | ((with_reducible apply r_field_p); exact rfl; exact rfl)
 | ((with_reducible apply r_load_p); exact rfl; exact rfl; exact rfl; exact rfl)
 | ((with_reducible apply r_load_pa); exact rfl; exact rfl; exact rfl; exact rfl; exact rfl)
 | ((with_reducible apply r_neq); exact rfl; exact rfl; exact rfl)
 | ((with_reducible apply r_box_a); exact rfl; exact rfl)
 | ((with_reducible apply r_pick_t); exact rfl; exact rfl; exact rfl)
 | ((with_reducible apply r_pick_f); exact rfl; exact rfl; exact rfl)
 | ((with_reducible apply r_len_f); exact rfl; exact inferInstance; exact rfl)
 | (((with_reducible apply r_guard); exact rfl; exact rfl; exact rfl; exact rfl) <;> intro hg <;> (first | (exact absurd hg (by decide)) | ((try simp only [decide_eq_true_eq, decide_eq_false_iff_not, Bool.not_eq_true', Bool.not_eq_false', Bool.not_true, Bool.not_false, Bool.not_not, Int.not_lt, Int.not_le, Nat.not_lt, Nat.not_le, gt_iff_lt, ge_iff_le, List.cons.injEq, and_true] at hg); first | (exact absurd trivial hg) | (exfalso; omega) | (have hT : True := hg; clear hT hg) | skip)))
 | (((with_reducible apply aw_cond); exact rfl) <;> intro hg <;> (first | (exact absurd hg (by decide)) | ((try simp only [decide_eq_true_eq, decide_eq_false_iff_not, Bool.not_eq_true', Bool.not_eq_false', Bool.not_true, Bool.not_false, Bool.not_not, Int.not_lt, Int.not_le, Nat.not_lt, Nat.not_le, gt_iff_lt, ge_iff_le, List.cons.injEq, and_true] at hg); first | (exact absurd trivial hg) | (exfalso; omega) | (have hT : True := hg; clear hT hg) | skip)))
 )
  · exact ret_i rfl (chk_meas hg)
  all_goals have hm : measS l = 0 := by assumption
  all_goals obtain ⟨hm1, hm2, hm3⟩ := meas0 hm
  all_goals (unfold headBad at hm1)
  all_goals first | exact ret_i rfl (chk_shape hm (fun hs => by have h1 := hs.1; have h2 := hs.2.1; have h3 := hs.2.2.1; omega)) | skip
  have hlen : l.gain.length = l.sizes.length := by omega
  refine aw_loopG (G := Nat) (fun (j : Nat) => j ≤ l.gain.length ∧ ∀ i, i < j → rowOk l i) (fun (j : Nat) => l.gain.length - j) (fun (j : Nat) => [(1, .ptr 0 0), (35, .c (LL l.gain)), (36, A l.gain.length), (37, A j)]) (fun (j : Nat) => [(0, some (lineB l))]) 1 0 ?_ (by refine weak_mk rfl ?_ ?_ <;> repeat (first | exact envW_nil | exact heapW_nil | refine envW_cons rfl rfl ?_ | refine heapW_cons rfl rfl rfl ?_)) rfl ?_
  · exact ⟨Nat.zero_le _, fun _ h => absurd h (Nat.not_lt_zero _)⟩
  rintro j hI
  try dsimp only at hI
  try dsimp only
  obtain ⟨hj, hall⟩ := hI
  have hrows : j = l.gain.length → shapeOk l := fun hjl => ⟨hlen, by omega, by omega, fun i hi => hall i (by omega)⟩
  by_cases hjl : j < l.gain.length
  · skip
    repeat' (first
 | ((with_reducible apply r_call); exact rfl; exact rfl; exact places_con l _ ⟨by omega, by omega, (hm3 j (by omega)).1, (hm3 j (by omega)).2⟩; exact rfl; exact rfl)
 | ((with_reducible apply aw_seq))
 | ((with_reducible apply aw_region))
 | ((with_reducible apply aw_block))
 | ((with_reducible apply thn_normal))
 | ((with_reducible apply thn_ret))
 | ((with_reducible apply inb_normal))
 | ((with_reducible apply inb_ret))
 | ((with_reducible apply aw_skip))
 | ((with_reducible apply aw_ret))
 | ((with_reducible apply ao_nil))
 | ((with_reducible apply r_move); exact rfl; exact rfl)
 | ((with_reducible apply r_assign); exact rfl; exact rfl)
 | ((with_reducible apply r_field_p); exact rfl; exact rfl)
 | ((with_reducible apply r_load_p); exact rfl; exact rfl; exact rfl; exact rfl)
 | ((with_reducible apply r_load_pa); exact rfl; exact rfl; exact rfl; exact rfl; exact rfl)
 | ((with_reducible apply r_lss); exact rfl; exact rfl; exact rfl)
 | ((with_reducible apply r_neq); exact rfl; exact rfl; exact rfl)
 | ((with_reducible apply r_add); exact rfl; exact rfl; exact (by first | assumption | (unfold fits; omega)); exact rfl)
 | ((with_reducible apply r_len_f); exact rfl; exact inferInstance; exact rfl)
 | ((with_reducible apply r_index_f); exact rfl; exact inferInstance; exact rfl; exact rfl; (first | assumption | omega); exact rfl)
 | ((with_reducible apply r_load_f0); exact rfl; exact inferInstance; exact List.getElem?_eq_getElem (by first | assumption | omega); exact rfl; exact rfl)
 | (((with_reducible apply aw_cond); exact rfl) <;> intro hg <;> (first | (exact absurd hg (by decide)) | ((try simp only [decide_eq_true_eq, decide_eq_false_iff_not, Bool.not_eq_true', Bool.not_eq_false', Bool.not_true, Bool.not_false, Bool.not_not, Int.not_lt, Int.not_le, Nat.not_lt, Nat.not_le, gt_iff_lt, ge_iff_le, List.cons.injEq, and_true] at hg); first | (exact absurd trivial hg) | (exfalso; omega) | (have hT : True := hg; clear hT hg) | skip)))
 | (refine aw_drawq ?_ ?_; (kernel_rfl))
 | ((with_reducible apply ds_nil))
 )
    · exact ret_i rfl (chk_shape hm (fun hs => hg (hs.2.2.2 j (by omega) hjl (by omega))))
    · skip
      refine ⟨j + 1, ?_, ?_, by refine weak_mk rfl ?_ ?_ <;> repeat (first | exact envW_nil | exact heapW_nil | refine envW_cons rfl rfl ?_ | refine heapW_cons rfl rfl rfl ?_)⟩
      · omega
      · refine ⟨by omega, fun i hi => ?_⟩
        by_cases he : i = j
        · subst he; exact fun _ _ => hg
        · exact hall i (by omega)
  · have hs := hrows (by omega)
    obtain ⟨q1, q2, q3, q4, q5, q6⟩ := shape_len hm hs
    have hr1 := small_con (gl := gl) l.gain (by omega) (fun i hi => by have := q6 i hi; omega)
    have hr2 := small_con (gl := gl) [l.chip, l.dust] (by simp) (fun i hi => by
      simp only [List.length_cons, List.length_nil] at hi
      match i, hi with
      | 0, _ => show l.chip.length ≤ _; omega
      | 1, _ => show l.dust.length ≤ _; omega)
    repeat' (first
 | ((with_reducible apply r_call); exact rfl; exact rfl; exact hr1; exact rfl; exact rfl)
 | ((with_reducible apply r_callv); exact hr2; exact rfl; exact cl_cons (cl_vec rfl rfl) cl_nil; exact rfl; exact rfl)
 | ((with_reducible apply aw_seq))
 | ((with_reducible apply aw_region))
 | ((with_reducible apply thn_normal))
 | ((with_reducible apply thn_ret))
 | ((with_reducible apply thn_exit))
 | ((with_reducible apply inb_exit))
 | ((with_reducible apply aw_skip))
 | ((with_reducible apply aw_exit))
 | ((with_reducible apply aw_ret))
 | ((with_reducible apply ao_nil))
 | ((with_reducible apply r_move); exact rfl; exact rfl)
 | ((with_reducible apply r_assign); exact rfl; exact rfl)
 | ((with_reducible apply r_field_p); exact rfl; exact rfl)
 | ((with_reducible apply r_load_p); exact rfl; exact rfl; exact rfl; exact rfl)
 | ((with_reducible apply r_lss); exact rfl; exact rfl; exact rfl)
 | ((with_reducible apply r_pick_t); exact rfl; exact rfl; exact rfl)
 | ((with_reducible apply r_pick_f); exact rfl; exact rfl; exact rfl)
 | ((with_reducible apply r_not); exact rfl; exact rfl)
 | (((with_reducible apply r_guard); exact rfl; exact rfl; exact rfl; exact rfl) <;> intro hg <;> (first | (exact absurd hg (by decide)) | ((try simp only [decide_eq_true_eq, decide_eq_false_iff_not, Bool.not_eq_true', Bool.not_eq_false', Bool.not_true, Bool.not_false, Bool.not_not, Int.not_lt, Int.not_le, Nat.not_lt, Nat.not_le, gt_iff_lt, ge_iff_le, List.cons.injEq, and_true] at hg); first | (exact absurd trivial hg) | (exfalso; omega) | (have hT : True := hg; clear hT hg) | skip)))
 | (((with_reducible apply aw_cond); exact rfl) <;> intro hg <;> (first | (exact absurd hg (by decide)) | ((try simp only [decide_eq_true_eq, decide_eq_false_iff_not, Bool.not_eq_true', Bool.not_eq_false', Bool.not_true, Bool.not_false, Bool.not_not, Int.not_lt, Int.not_le, Nat.not_lt, Nat.not_le, gt_iff_lt, ge_iff_le, List.cons.injEq, and_true] at hg); first | (exact absurd trivial hg) | (exfalso; omega) | (have hT : True := hg; clear hT hg) | skip)))
 | ((with_reducible apply r_lit); exact rfl; exact rfl; exact rfl; exact rfl; exact rfl; exact rfl; exact rfl)
 )
    all_goals first | exact ret_i rfl (chk9a hm hs (by assumption)) | exact ret_i rfl (chk9b hm hs (by assumption)) | exact ret_i rfl (chk0 hm hs (by assumption) (by assumption))
end Go.Proofs.YtjofnmklkndhoaaDoor.Cu
/- Walks of cutting: permitted, add. -/
namespace Go.Proofs.YtjofnmklkndhoaaDoor.Cu
set_option linter.unusedVariables false
set_option linter.unusedSimpArgs false
open Go.RowKit Go.Proofs.YtjofnmklkndhoaaDoor.Ev
variable {gl : List (Nat × List CV)}
abbrev Span := Int × Int
abbrev Piece := Int × Int
def spC (s : Span) : List CV := [I s.1, I s.2]
instance : EncL spC 2 := ⟨fun _ => rfl, by decide, fun _ => rfl⟩
abbrev LS (l : List Span) : CV := .lst 2 (l.flatMap spC)
def szOf (l : Line) (s : Int) : Int := l.sizes.getD s.toNat 0
def gOf (l : Line) (s p : Int) : Int := (l.gain.getD s.toNat []).getD p.toNat 0
def perm (l : Line) (edge : Int) (x : Piece) : Int :=
  if x.1 < 0 ∨ (l.sizes.length : Int) ≤ x.1 then 9
  else if x.2 < 0 ∨ l.len - szOf l x.1 < x.2 then 20
  else if edge < 0 ∨ (x.2 ≠ edge ∧ (x.2 - l.kerf - edge < l.pitch ∨ (x.2 - l.kerf - edge).tmod l.pitch ≠ 0)) then 11
  else if gOf l x.1 x.2 < 0 then 14 else 0
structure Valid (l : Line) : Prop where
  len : 0 ≤ l.len ∧ l.len ≤ 2000
  kerf : 0 ≤ l.kerf ∧ l.kerf ≤ 20
  pitch : 1 ≤ l.pitch ∧ l.pitch ≤ 2000
  sizes : l.sizes.length ≤ 32
  size : ∀ i (h : i < l.sizes.length), 1 ≤ l.sizes[i] ∧ l.sizes[i] ≤ 2000
  gain : l.gain.length = l.sizes.length
  chip : (l.chip.length : Int) = l.len
  dust : (l.dust.length : Int) = l.len
  row : ∀ i (h : i < l.gain.length) (h2 : i < l.sizes.length), (l.gain[i].length : Int) = max 0 (l.len - l.sizes[i] + 1)
  gains : ∀ i (h : i < l.gain.length) j (h2 : j < l.gain[i].length), -1125899906842624 ≤ l.gain[i][j] ∧ l.gain[i][j] ≤ 1125899906842624
  chips : ∀ i (h : i < l.chip.length), -1125899906842624 ≤ l.chip[i] ∧ l.chip[i] ≤ 1125899906842624
  dusts : ∀ i (h : i < l.dust.length), -1125899906842624 ≤ l.dust[i] ∧ l.dust[i] ≤ 1125899906842624
theorem small_get {l : List Int} (h : smallL l = true) (i : Nat) (hi : i < l.length) : -1125899906842624 ≤ l[i] ∧ l[i] ≤ 1125899906842624 := by
  have := List.all_eq_true.1 h _ (List.getElem_mem hi)
  unfold smallN at this; simpa using this
theorem valid_of {l : Line} (h : chk l = 0) : Valid l := by
  have hm : measS l = 0 := Classical.byContradiction fun hc => by rw [← chk_meas hc] at h; exact hc h
  have hs : shapeOk l := Classical.byContradiction fun hc => by rw [← chk_shape hm hc] at h; cases h
  have hb := chk_small hm hs _ rfl
  rw [h] at hb
  have hb' : (l.gain.all smallL && smallL l.chip && smallL l.dust) = true := by
    cases hq : (l.gain.all smallL && smallL l.chip && smallL l.dust) with
    | true => rfl
    | false => rw [hq] at hb; simp at hb
  simp only [Bool.and_eq_true] at hb'
  obtain ⟨⟨b1, b2⟩, b3⟩ := hb'
  obtain ⟨h1, h2, h3⟩ := meas0 hm
  unfold headBad at h1
  obtain ⟨s1, s2, s3, s4⟩ := hs
  exact ⟨by omega, by omega, by omega, h2, h3, s1, s2, s3, fun i hi hi2 => s4 i hi2 hi hi2, fun i hi j hj => small_get (List.all_eq_true.1 b1 _ (List.getElem_mem hi)) j hj, small_get b2, small_get b3⟩
theorem szOf_eq {l : Line} {s : Int} (h0 : 0 ≤ s) (h : s < l.sizes.length) : ∃ k : Nat, s = (k : Int) ∧ ∃ hk : k < l.sizes.length, szOf l s = l.sizes[k] := by
  refine ⟨s.toNat, by omega, by omega, ?_⟩
  unfold szOf
  rw [List.getD_eq_getElem?_getD, List.getElem?_eq_getElem (by omega)]; rfl
theorem gOf_eq {l : Line} (v : Valid l) {k : Nat} (hk : k < l.sizes.length) {p : Int} (h0 : 0 ≤ p) (h1 : p ≤ l.len - l.sizes[k]) : ∃ j : Nat, p = (j : Int) ∧ ∃ (h2 : k < l.gain.length) (h3 : j < l.gain[k].length), gOf l k p = l.gain[k][j] := by
  have hg := v.gain
  have hr := v.row k (by omega) hk
  refine ⟨p.toNat, by omega, by omega, by omega, ?_⟩
  unfold gOf
  rw [Int.toNat_natCast, List.getD_eq_getElem?_getD, List.getD_eq_getElem?_getD, List.getElem?_eq_getElem (by omega : k < l.gain.length)]
  simp only [Option.getD_some]
  rw [List.getElem?_eq_getElem (by omega)]; rfl
theorem perm9 {l : Line} {e : Int} {s p : Int} (h : s < 0 ∨ (l.sizes.length : Int) ≤ s) : 9 = perm l e (s, p) := by unfold perm; rw [if_pos h]
theorem perm20 {l : Line} {e : Int} {s p : Int} (h : ¬ (s < 0 ∨ (l.sizes.length : Int) ≤ s)) (h2 : p < 0 ∨ l.len - szOf l s < p) : 20 = perm l e (s, p) := by unfold perm; rw [if_neg h, if_pos h2]
theorem perm11 {l : Line} {e : Int} {s p : Int} (h : ¬ (s < 0 ∨ (l.sizes.length : Int) ≤ s)) (h2 : ¬ (p < 0 ∨ l.len - szOf l s < p)) (h3 : e < 0 ∨ (p ≠ e ∧ (p - l.kerf - e < l.pitch ∨ (p - l.kerf - e).tmod l.pitch ≠ 0))) : 11 = perm l e (s, p) := by unfold perm; rw [if_neg h, if_neg h2, if_pos h3]
theorem perm_g {l : Line} {e : Int} {s p : Int} (h : ¬ (s < 0 ∨ (l.sizes.length : Int) ≤ s)) (h2 : ¬ (p < 0 ∨ l.len - szOf l s < p)) (h3 : ¬ (e < 0 ∨ (p ≠ e ∧ (p - l.kerf - e < l.pitch ∨ (p - l.kerf - e).tmod l.pitch ≠ 0)))) : (if gOf l s p < 0 then 14 else 0) = perm l e (s, p) := by unfold perm; rw [if_neg h, if_neg h2, if_neg h3]
theorem permitted_con (l : Line) (v : Valid l) (e : Int) (he : -1 ≤ e ∧ e ≤ 2000) (s p : Int) : Con Tryd.prog gl 35 [lineC l, I e, .agg [I s, I p]] (I (perm l e (s, p))) := by
  obtain ⟨l1, l2⟩ := v.len
  obtain ⟨k1, k2⟩ := v.kerf
  obtain ⟨p1, p2⟩ := v.pitch
  by_cases h : s < 0 ∨ (l.sizes.length : Int) ≤ s
  · skip
    refine con_of Tryd.func35 rfl (by kernel_rfl) rfl ?_
    simp only [Tryd.ntmps35, Tryd.results35, argEnv, ofC, of1, List.map, lineC, lineL]
    repeat' (first
 | ((with_reducible apply aw_seq))
 | ((with_reducible apply aw_region))
 | ((with_reducible apply thn_normal))
 | ((with_reducible apply thn_ret))
 | ((with_reducible apply aw_ret))
 | ((with_reducible apply ao_nil))
 | ((with_reducible apply r_move); exact rfl; exact rfl)
 | ((with_reducible apply r_assign); exact rfl; exact rfl)
 | ((with_reducible apply r_field_p); exact rfl; exact rfl)
 | ((with_reducible apply r_load_p); exact rfl; exact rfl; exact rfl; exact rfl)
 | ((with_reducible apply r_lss); exact rfl; exact rfl; exact rfl)
 | ((with_reducible apply r_geq); exact rfl; exact rfl; exact rfl)
 | ((with_reducible apply r_box_a); exact rfl; exact rfl)
 | ((with_reducible apply r_pick_t); exact rfl; exact rfl; exact rfl)
 | ((with_reducible apply r_pick_f); exact rfl; exact rfl; exact rfl)
 | ((with_reducible apply r_len_f); exact rfl; exact inferInstance; exact rfl)
 | (((with_reducible apply r_guard); exact rfl; exact rfl; exact rfl; exact rfl) <;> intro hg <;> (first | (exact absurd hg (by decide)) | ((try simp only [decide_eq_true_eq, decide_eq_false_iff_not, Bool.not_eq_true', Bool.not_eq_false', Bool.not_true, Bool.not_false, Bool.not_not, Int.not_lt, Int.not_le, Nat.not_lt, Nat.not_le, gt_iff_lt, ge_iff_le, List.cons.injEq, and_true] at hg); first | (exact absurd trivial hg) | (exfalso; omega) | (have hT : True := hg; clear hT hg) | skip)))
 | (((with_reducible apply aw_cond); exact rfl) <;> intro hg <;> (first | (exact absurd hg (by decide)) | ((try simp only [decide_eq_true_eq, decide_eq_false_iff_not, Bool.not_eq_true', Bool.not_eq_false', Bool.not_true, Bool.not_false, Bool.not_not, Int.not_lt, Int.not_le, Nat.not_lt, Nat.not_le, gt_iff_lt, ge_iff_le, List.cons.injEq, and_true] at hg); first | (exact absurd trivial hg) | (exfalso; omega) | (have hT : True := hg; clear hT hg) | skip)))
 )
    all_goals exact ret_i rfl (perm9 h)
  obtain ⟨k, rfl, hk, hsz⟩ := szOf_eq (l := l) (s := s) (by omega) (by omega)
  have hsk := v.size k hk
  by_cases h2 : p < 0 ∨ l.len - l.sizes[k] < p
  · skip
    refine con_of Tryd.func35 rfl (by kernel_rfl) rfl ?_
    simp only [Tryd.ntmps35, Tryd.results35, argEnv, ofC, of1, List.map, lineC, lineL]
    repeat' (first
 | ((with_reducible apply aw_seq))
 | ((with_reducible apply aw_region))
 | ((with_reducible apply thn_normal))
 | ((with_reducible apply thn_ret))
 | ((with_reducible apply aw_skip))
 | ((with_reducible apply aw_ret))
 | ((with_reducible apply ao_nil))
 | ((with_reducible apply r_move); exact rfl; exact rfl)
 | ((with_reducible apply r_assign); exact rfl; exact rfl)
 | ((with_reducible apply r_field_p); exact rfl; exact rfl)
 | ((with_reducible apply r_load_p); exact rfl; exact rfl; exact rfl; exact rfl)
 | ((with_reducible apply r_lss); exact rfl; exact rfl; exact rfl)
 | ((with_reducible apply r_gtr); exact rfl; exact rfl; exact rfl)
 | ((with_reducible apply r_geq); exact rfl; exact rfl; exact rfl)
 | ((with_reducible apply r_sub); exact rfl; exact rfl; exact (by first | assumption | (unfold fits; omega)); exact rfl)
 | ((with_reducible apply r_box_a); exact rfl; exact rfl)
 | ((with_reducible apply r_pick_t); exact rfl; exact rfl; exact rfl)
 | ((with_reducible apply r_pick_f); exact rfl; exact rfl; exact rfl)
 | ((with_reducible apply r_len_f); exact rfl; exact inferInstance; exact rfl)
 | ((with_reducible apply r_index_f); exact rfl; exact inferInstance; exact rfl; exact rfl; (first | assumption | omega); exact rfl)
 | ((with_reducible apply r_load_f0); exact rfl; exact inferInstance; exact List.getElem?_eq_getElem (by first | assumption | omega); exact rfl; exact rfl)
 | (((with_reducible apply r_guard); exact rfl; exact rfl; exact rfl; exact rfl) <;> intro hg <;> (first | (exact absurd hg (by decide)) | ((try simp only [decide_eq_true_eq, decide_eq_false_iff_not, Bool.not_eq_true', Bool.not_eq_false', Bool.not_true, Bool.not_false, Bool.not_not, Int.not_lt, Int.not_le, Nat.not_lt, Nat.not_le, gt_iff_lt, ge_iff_le, List.cons.injEq, and_true] at hg); first | (exact absurd trivial hg) | (exfalso; omega) | (have hT : True := hg; clear hT hg) | skip)))
 | (((with_reducible apply aw_cond); exact rfl) <;> intro hg <;> (first | (exact absurd hg (by decide)) | ((try simp only [decide_eq_true_eq, decide_eq_false_iff_not, Bool.not_eq_true', Bool.not_eq_false', Bool.not_true, Bool.not_false, Bool.not_not, Int.not_lt, Int.not_le, Nat.not_lt, Nat.not_le, gt_iff_lt, ge_iff_le, List.cons.injEq, and_true] at hg); first | (exact absurd trivial hg) | (exfalso; omega) | (have hT : True := hg; clear hT hg) | skip)))
 | (refine aw_drawq ?_ ?_; (kernel_rfl))
 | ((with_reducible apply ds_nil))
 | (((with_reducible apply rd_guard); exact rfl; exact rfl; exact rfl) <;> intro hg <;> (first | (exact absurd hg (by decide)) | ((try rw [hg]); (try simp only [decide_eq_true_eq, decide_eq_false_iff_not, Bool.not_eq_true', Bool.not_eq_false', Bool.not_true, Bool.not_false, Bool.not_not, Int.not_lt, Int.not_le, Nat.not_lt, Nat.not_le, gt_iff_lt, ge_iff_le, List.cons.injEq, and_true] at hg); first | (exact absurd trivial hg) | (exfalso; omega) | (have hT : True := hg; clear hT hg) | skip)))
 )
    all_goals exact ret_i rfl (perm20 h (by rw [hsz]; exact h2))
  obtain ⟨j, rfl, hg1, hg2, hgo⟩ := gOf_eq v hk (p := p) (by omega) (by omega)
  have h2' : ¬ ((j : Int) < 0 ∨ l.len - szOf l (k : Int) < (j : Int)) := by rw [hsz]; exact h2
  refine con_of Tryd.func35 rfl (by kernel_rfl) rfl ?_
  simp only [Tryd.ntmps35, Tryd.results35, argEnv, ofC, of1, List.map, lineC, lineL]
  repeat' (first
 | ((with_reducible apply r_rem); exact rfl; exact rfl; exact (by omega); exact rfl)
 | ((with_reducible apply aw_seq))
 | ((with_reducible apply aw_region))
 | ((with_reducible apply thn_normal))
 | ((with_reducible apply thn_ret))
 | ((with_reducible apply aw_skip))
 | ((with_reducible apply aw_ret))
 | ((with_reducible apply ao_nil))
 | ((with_reducible apply r_move); exact rfl; exact rfl)
 | ((with_reducible apply r_assign); exact rfl; exact rfl)
 | ((with_reducible apply r_field_p); exact rfl; exact rfl)
 | ((with_reducible apply r_load_p); exact rfl; exact rfl; exact rfl; exact rfl)
 | ((with_reducible apply r_lss); exact rfl; exact rfl; exact rfl)
 | ((with_reducible apply r_gtr); exact rfl; exact rfl; exact rfl)
 | ((with_reducible apply r_geq); exact rfl; exact rfl; exact rfl)
 | ((with_reducible apply r_neq); exact rfl; exact rfl; exact rfl)
 | ((with_reducible apply r_sub); exact rfl; exact rfl; exact (by first | assumption | (unfold fits; omega)); exact rfl)
 | ((with_reducible apply r_box_a); exact rfl; exact rfl)
 | ((with_reducible apply r_pick_t); exact rfl; exact rfl; exact rfl)
 | ((with_reducible apply r_pick_f); exact rfl; exact rfl; exact rfl)
 | ((with_reducible apply r_len_f); exact rfl; exact inferInstance; exact rfl)
 | ((with_reducible apply r_index_f); exact rfl; exact inferInstance; exact rfl; exact rfl; (first | assumption | omega); exact rfl)
 | ((with_reducible apply r_load_f0); exact rfl; exact inferInstance; exact List.getElem?_eq_getElem (by first | assumption | omega); exact rfl; exact rfl)
 | (((with_reducible apply r_guard); exact rfl; exact rfl; exact rfl; exact rfl) <;> intro hg <;> (first | (exact absurd hg (by decide)) | ((try simp only [decide_eq_true_eq, decide_eq_false_iff_not, Bool.not_eq_true', Bool.not_eq_false', Bool.not_true, Bool.not_false, Bool.not_not, Int.not_lt, Int.not_le, Nat.not_lt, Nat.not_le, gt_iff_lt, ge_iff_le, List.cons.injEq, and_true] at hg); first | (exact absurd trivial hg) | (exfalso; omega) | (have hT : True := hg; clear hT hg) | skip)))
 | ((with_reducible apply r_guard_none); exact rfl; exact rfl; exact rfl; exact rfl)
 | (((with_reducible apply aw_cond); exact rfl) <;> intro hg <;> (first | (exact absurd hg (by decide)) | ((try simp only [decide_eq_true_eq, decide_eq_false_iff_not, Bool.not_eq_true', Bool.not_eq_false', Bool.not_true, Bool.not_false, Bool.not_not, Int.not_lt, Int.not_le, Nat.not_lt, Nat.not_le, gt_iff_lt, ge_iff_le, List.cons.injEq, and_true] at hg); first | (exact absurd trivial hg) | (exfalso; omega) | (have hT : True := hg; clear hT hg) | skip)))
 | (refine aw_drawq ?_ ?_; (kernel_rfl))
 | ((with_reducible apply ds_nil))
 | (((with_reducible apply rd_guard); exact rfl; exact rfl; exact rfl) <;> intro hg <;> (first | (exact absurd hg (by decide)) | ((try rw [hg]); (try simp only [decide_eq_true_eq, decide_eq_false_iff_not, Bool.not_eq_true', Bool.not_eq_false', Bool.not_true, Bool.not_false, Bool.not_not, Int.not_lt, Int.not_le, Nat.not_lt, Nat.not_le, gt_iff_lt, ge_iff_le, List.cons.injEq, and_true] at hg); first | (exact absurd trivial hg) | (exfalso; omega) | (have hT : True := hg; clear hT hg) | skip)))
 )
  all_goals first
    | exact ret_i rfl (perm11 h h2' (by generalize ((j : Int) - l.kerf - e).tmod l.pitch = tm at *; omega))
    | exact ret_i rfl (by rw [← perm_g h h2' (by generalize ((j : Int) - l.kerf - e).tmod l.pitch = tm at *; omega), hgo, if_pos (by omega)])
    | exact ret_i rfl (by rw [← perm_g h h2' (by generalize ((j : Int) - l.kerf - e).tmod l.pitch = tm at *; omega), hgo, if_neg (by omega)])
def addS (l : List Span) (a b : Int) : List Span := if b ≤ a then l else l ++ [(a, b)]
theorem fewer_push {heap : List (Nat × Option AB)} {nx b E s : Nat} {l : List CV} {x : AB} (hb : b < nx) : Fewer heap nx ((b, some (.vec E s l)) :: (nx, some x) :: heap) ((b, some (.vec E s l)) :: heap) := by
  refine ⟨fun i hi => ?_, fun i hi => ?_, fun i t l' h => ?_⟩
  · simp only [look_cons]; by_cases h1 : b = i
    · rw [if_pos h1, if_pos h1]
    · rw [if_neg h1, if_neg h1, if_neg (by omega)]
  · simp only [look_cons]; rw [if_neg (by omega)]
  · rw [look_cons] at h; by_cases h1 : b = i
    · rw [if_pos h1] at h; cases h
    · rw [if_neg h1] at h; exact h
theorem fewer_same {heap : List (Nat × Option AB)} {nx b E s : Nat} {l : List CV} (hb : b < nx) (h : Ev.look b heap = some (some (.vec E s l))) : Fewer heap nx heap ((b, some (.vec E s l)) :: heap) := by
  refine ⟨fun i hi => ?_, fun i hi => ?_, fun i t l' h' => ?_⟩
  · rw [look_cons]; by_cases h1 : b = i
    · rw [if_pos h1, ← h1, h]
    · rw [if_neg h1]
  · rw [look_cons, if_neg (by omega)]
  · rw [look_cons] at h'; by_cases h1 : b = i
    · rw [if_pos h1] at h'; cases h'
    · rw [if_neg h1] at h'; exact h'
section
variable {ops : Array Oper} {Q : Exit → St → Prop} {rest : List Oper} {d : Nat} {ty : TypeId} {pos : String} {af : Array Edge} {n : Nat} {env : List (Nat × AV)} {heap : List (Nat × Option AB)} {nx : Nat} {tys : Array TypeId}
theorem add_in {x0 x1 x2 : Operand} {b m : Nat} {a a' : Int} (l : List Span) (hys : evs ⟨n, env, heap, nx, gl⟩ [x0, x1, x2] = some [.vec b m, A a, A a']) (hH : Ev.look b heap = some (some (.vec 50 2 (l.flatMap spC)))) (hm : l.length = m) (hb : m < 1000000) (hlt : Nat.blt b nx = true) (hd : Nat.blt d n = true)
    (h : AOps Tryd.prog ops Q rest ⟨n, (d, .vec b (addS l a a').length) :: env, (b, some (.vec 50 2 ((addS l a a').flatMap spC))) :: heap, nx, gl⟩) : AOps Tryd.prog ops Q (⟨some d, .call ⟨.value (.func 36), #[x0, x1, x2], tys⟩, ty, pos, af, none⟩ :: rest) ⟨n, env, heap, nx, gl⟩ := by
  have hlt' := blt_true hlt
  refine r_inW Tryd.func36 rfl Tryd.results36 (by kernel_rfl) Tryd.ntmps36 hys rfl rfl hd ?_
  have hH' : St.H ⟨17, env, heap, nx, gl⟩ b = some (.vec 50 2 (l.flatMap spC)) := by unfold St.H; rw [hH]
  by_cases hc : a' ≤ a
  · have e : addS l a a' = l := by unfold addS; rw [if_pos hc]
    rw [e] at h
    repeat' (first
 | ((with_reducible apply aw_seq))
 | ((with_reducible apply aw_region))
 | ((with_reducible apply thn_normal))
 | ((with_reducible apply thn_ret))
 | ((with_reducible apply aw_ret))
 | ((with_reducible apply ao_nil))
 | ((with_reducible apply r_move); exact rfl; exact rfl)
 | ((with_reducible apply r_assign); exact rfl; exact rfl)
 | ((with_reducible apply r_geq); exact rfl; exact rfl; exact rfl)
 | (((with_reducible apply aw_cond); exact rfl) <;> intro hg <;> (first | (exact absurd hg (by decide)) | ((try simp only [decide_eq_true_eq, decide_eq_false_iff_not, Bool.not_eq_true', Bool.not_eq_false', Bool.not_true, Bool.not_false, Bool.not_not, Int.not_lt, Int.not_le, Nat.not_lt, Nat.not_le, gt_iff_lt, ge_iff_le, List.cons.injEq, and_true] at hg); first | (exact absurd trivial hg) | (exfalso; omega) | (have hT : True := hg; clear hT hg) | skip)))
 )
    refine back_ret rfl ⟨_, Nat.le_refl _, fewer_same hlt' hH, hlt, ?_⟩
    rw [hm] at h; exact h
  · have e : addS l a a' = l ++ [(a, a')] := by unfold addS; rw [if_neg hc]
    rw [e] at h
    repeat' (first
 | ((with_reducible apply (r_push (x0 := (a, a')))); exact rfl; exact (by unfold St.H; dsimp only; rw [look_cons, if_neg (by omega), hH]); exact inferInstance; exact hm; exact rfl; exact (by unfold St.H; dsimp only; rw [look_cons, if_pos rfl]); exact rfl; exact (by omega); exact (by omega); exact rfl)
 | ((with_reducible apply aw_seq))
 | ((with_reducible apply aw_region))
 | ((with_reducible apply thn_normal))
 | ((with_reducible apply aw_skip))
 | ((with_reducible apply aw_ret))
 | ((with_reducible apply ao_nil))
 | ((with_reducible apply r_move); exact rfl; exact rfl)
 | ((with_reducible apply r_assign); exact rfl; exact rfl)
 | ((with_reducible apply r_geq); exact rfl; exact rfl; exact rfl)
 | ((with_reducible apply r_build); exact rfl; exact rfl; exact rfl)
 | (((with_reducible apply aw_cond); exact rfl) <;> intro hg <;> (first | (exact absurd hg (by decide)) | ((try simp only [decide_eq_true_eq, decide_eq_false_iff_not, Bool.not_eq_true', Bool.not_eq_false', Bool.not_true, Bool.not_false, Bool.not_not, Int.not_lt, Int.not_le, Nat.not_lt, Nat.not_le, gt_iff_lt, ge_iff_le, List.cons.injEq, and_true] at hg); first | (exact absurd trivial hg) | (exfalso; omega) | (have hT : True := hg; clear hT hg) | skip)))
 | ((with_reducible apply r_lit); exact rfl; exact rfl; exact rfl; exact rfl; exact rfl; exact rfl; exact rfl)
 )
    refine back_ret rfl ⟨_, Nat.le_succ _, fewer_push hlt', hlt, ?_⟩
    rw [List.length_append, hm] at h; exact h
end
end Go.Proofs.YtjofnmklkndhoaaDoor.Cu
/- Walks of cutting: Cuts in both. -/
namespace Go.Proofs.YtjofnmklkndhoaaDoor.Cu
set_option linter.unusedVariables false
set_option linter.unusedSimpArgs false
open Go.RowKit Go.Proofs.YtjofnmklkndhoaaDoor.Ev
variable {gl : List (Nat × List CV)}
def pcC (x : Piece) : List CV := [I x.1, I x.2]
instance : EncL pcC 2 := ⟨fun _ => rfl, by decide, fun _ => rfl⟩
abbrev LP (l : List Piece) : CV := .lst 2 (l.flatMap pcC)
theorem addS_len (l : List Span) (a b : Int) : (addS l a b).length ≤ l.length + 1 := by unfold addS; split <;> simp
abbrev CutR := Int × List Span × List Span
def cutsGo (l : Line) : List Piece → Int → List Span → List Span → CutR
  | [], e, d, c => (0, d, if 0 ≤ e then addS c e l.len else c)
  | x :: xs, e, d, c =>
    if perm l e x ≠ 0 then (perm l e x, [], [])
    else cutsGo l xs (behindS l (x.2 + szOf l x.1)) (addS (if e < x.2 then addS d (x.2 - l.kerf) x.2 else d) (x.2 + szOf l x.1) (behindS l (x.2 + szOf l x.1))) (if e < x.2 then addS c e (x.2 - l.kerf) else c)
noncomputable def cutsS (l : Line) (p : List Piece) : CutR := if chk l ≠ 0 then (chk l, [], []) else cutsGo l p 0 [] []
def cutC (r : CutR) : CV := .tup [LS r.2.1, LS r.2.2, I r.1]
theorem perm0 {l : Line} {e s p : Int} (h : perm l e (s, p) = 0) : 0 ≤ s ∧ s < l.sizes.length ∧ 0 ≤ p ∧ p ≤ l.len - szOf l s ∧ 0 ≤ e ∧ (p = e ∨ (l.pitch ≤ p - l.kerf - e ∧ (p - l.kerf - e).tmod l.pitch = 0)) ∧ 0 ≤ gOf l s p := by
  unfold perm at h
  dsimp only at h
  split at h
  · simp at h
  split at h
  · simp at h
  split at h
  · simp at h
  split at h
  · simp at h
  rename_i h1 h2 h3 h4
  generalize (p - l.kerf - e).tmod l.pitch = tm at *
  refine ⟨by omega, by omega, by omega, by omega, by omega, by omega, by omega⟩
theorem behind_le {l : Line} {e : Int} (v : Valid l) (h0 : 0 ≤ e) : -1 ≤ behindS l e ∧ behindS l e ≤ l.len := by
  have := v.len; have := v.kerf
  unfold behindS; split <;> omega
theorem drop_cons {α : Type} (l : List α) (j : Nat) (h : j < l.length) : l.drop j = l[j] :: l.drop (j + 1) := List.drop_eq_getElem_cons h
theorem go_err {l : Line} {p : List Piece} {j : Nat} {e : Int} {d c : List Span} (hj : j < p.length) (h : ¬ perm l e (p[j].1, p[j].2) = 0) : cutsGo l (p.drop j) e d c = (perm l e (p[j].1, p[j].2), [], []) := by
  rw [drop_cons p j hj]; unfold cutsGo; rw [if_pos h]
theorem go_ok {l : Line} {p : List Piece} {j : Nat} {e : Int} {d c d' c' : List Span} (hj : j < p.length) (h : perm l e (p[j].1, p[j].2) = 0) (hd : d' = addS (if e < p[j].2 then addS d (p[j].2 - l.kerf) p[j].2 else d) (p[j].2 + szOf l p[j].1) (behindS l (p[j].2 + szOf l p[j].1))) (hc : c' = if e < p[j].2 then addS c e (p[j].2 - l.kerf) else c) : cutsGo l (p.drop j) e d c = cutsGo l (p.drop (j + 1)) (behindS l (p[j].2 + szOf l p[j].1)) d' c' := by
  rw [drop_cons p j hj, hd, hc]
  conv => lhs; unfold cutsGo
  rw [if_neg (show ¬ perm l e p[j] ≠ 0 from fun hh => hh h)]
theorem szOf_nat {l : Line} {k : Nat} (hk : k < l.sizes.length) : szOf l (k : Int) = l.sizes[k] := by
  unfold szOf; rw [Int.toNat_natCast, List.getD_eq_getElem?_getD, List.getElem?_eq_getElem hk]; rfl
theorem cuts_con (l : Line) (p : List Piece) (hp : p.length ≤ 100000) : Con Tryd.prog gl 15 [lineC l, LP p] (cutC (cutsS l p)) := by
  refine con_of Tryd.func15 rfl (by kernel_rfl) rfl ?_
  simp only [Tryd.ntmps15, Tryd.results15, argEnv, ofC, of1, List.map, lineC, lineL]
  repeat' (first
 | ((with_reducible apply r_call); exact rfl; exact rfl; exact check_con l; exact rfl; exact rfl)
 | ((with_reducible apply aw_seq))
 | ((with_reducible apply aw_region))
 | ((with_reducible apply aw_block))
 | ((with_reducible apply thn_normal))
 | ((with_reducible apply thn_ret))
 | ((with_reducible apply aw_skip))
 | ((with_reducible apply aw_ret))
 | ((with_reducible apply ao_nil))
 | ((with_reducible apply r_move); exact rfl; exact rfl)
 | ((with_reducible apply r_assign); exact rfl; exact rfl)
 | ((with_reducible apply r_load_pa); exact rfl; exact rfl; exact rfl; exact rfl; exact rfl)
 | ((with_reducible apply r_neq); exact rfl; exact rfl; exact rfl)
 | ((with_reducible apply r_box_a); exact rfl; exact rfl)
 | ((with_reducible apply r_len_f); exact rfl; exact inferInstance; exact rfl)
 | (((with_reducible apply aw_cond); exact rfl) <;> intro hg <;> (first | (exact absurd hg (by decide)) | ((try simp only [decide_eq_true_eq, decide_eq_false_iff_not, Bool.not_eq_true', Bool.not_eq_false', Bool.not_true, Bool.not_false, Bool.not_not, Int.not_lt, Int.not_le, Nat.not_lt, Nat.not_le, gt_iff_lt, ge_iff_le, List.cons.injEq, and_true] at hg); first | (exact absurd trivial hg) | (exfalso; omega) | (have hT : True := hg; clear hT hg) | skip)))
 )
  · have e : cutsS l p = (chk l, [], []) := by unfold cutsS; rw [if_pos hg]
    rw [e]
    exact ret2 (.cons (.tmp rfl cl_none) (.cons (.tmp rfl cl_none) (.cons (.tmp rfl cl_c) .nil)))
  have v := valid_of hg
  have e : cutsS l p = cutsGo l p 0 [] [] := by unfold cutsS; rw [if_neg (fun hh => hh hg)]
  rw [e]
  obtain ⟨l1, l2⟩ := v.len
  obtain ⟨k1, k2⟩ := v.kerf
  obtain ⟨p1, p2⟩ := v.pitch
  refine aw_nilvec 4 50 2 rfl rfl ?_
  refine aw_nilvec 5 50 2 rfl rfl ?_
  refine aw_loopG (G := Nat × Int × List Span × List Span) (fun ((j, ed, d, c) : Nat × Int × List Span × List Span) => j ≤ p.length ∧ -1 ≤ ed ∧ ed ≤ l.len ∧ d.length ≤ 2 * j ∧ c.length ≤ j ∧ cutsGo l p 0 [] [] = cutsGo l (p.drop j) ed d c) (fun ((j, ed, d, c) : Nat × Int × List Span × List Span) => p.length - j) (fun ((j, ed, d, c) : Nat × Int × List Span × List Span) => [(2, .ptr 0 0), (4, .vec 1 d.length), (5, .vec 2 c.length), (8, A ed), (18, .c (LP p)), (19, A p.length), (20, A j)]) (fun ((j, ed, d, c) : Nat × Int × List Span × List Span) => [(0, some (lineB l)), (1, some (.vec 50 2 (d.flatMap spC))), (2, some (.vec 50 2 (c.flatMap spC)))]) 3 (0, 0, [], []) ?_ (by refine weak_mk rfl ?_ ?_ <;> repeat (first | exact envW_nil | exact heapW_nil | refine envW_cons rfl rfl ?_ | refine heapW_cons rfl rfl rfl ?_)) rfl ?_
  · exact ⟨Nat.zero_le _, by decide, l1, by simp, by simp, by simp⟩
  rintro ⟨j, ed, d, c⟩ hI
  try dsimp only at hI
  try dsimp only
  obtain ⟨hj, he1, he2, hd, hc, hgo⟩ := hI
  by_cases hjl : j < p.length
  · by_cases hpm : perm l ed (p[j].1, p[j].2) = 0
    · obtain ⟨q1, q2, q3, q4, q5, q6, q7⟩ := perm0 hpm
      have hk : p[j].1 = ((p[j].1.toNat : Nat) : Int) := by omega
      have hk2 : p[j].1.toNat < l.sizes.length := by omega
      have hsz : szOf l p[j].1 = l.sizes[p[j].1.toNat] := by
        conv => lhs; rw [hk]
        exact szOf_nat hk2
      have hs12 := v.size _ hk2
      have hbl := behind_le (l := l) (e := p[j].2 + szOf l p[j].1) v (by omega)
      repeat' (first
 | ((with_reducible apply r_call); exact rfl; exact rfl; exact permitted_con l v ed ⟨by omega, by omega⟩ p[j].1 p[j].2; exact rfl; exact rfl)
 | ((with_reducible apply r_call); exact rfl; exact rfl; exact behind_con l _ (by unfold fits; omega); exact rfl; exact rfl)
 | ((with_reducible apply add_in); exact rfl; exact rfl; exact rfl; (first | omega | exact Nat.lt_of_le_of_lt (addS_len _ _ _) (by omega)); exact rfl; exact rfl)
 | ((with_reducible apply aw_seq))
 | ((with_reducible apply aw_region))
 | ((with_reducible apply aw_block))
 | ((with_reducible apply thn_normal))
 | ((with_reducible apply inb_normal))
 | ((with_reducible apply aw_skip))
 | ((with_reducible apply ao_nil))
 | ((with_reducible apply r_move); exact rfl; exact rfl)
 | ((with_reducible apply r_assign); exact rfl; exact rfl)
 | ((with_reducible apply r_field_p); exact rfl; exact rfl)
 | ((with_reducible apply r_load_p); exact rfl; exact rfl; exact rfl; exact rfl)
 | ((with_reducible apply r_load_pa); exact rfl; exact rfl; exact rfl; exact rfl; exact rfl)
 | ((with_reducible apply r_lss); exact rfl; exact rfl; exact rfl)
 | ((with_reducible apply r_gtr); exact rfl; exact rfl; exact rfl)
 | ((with_reducible apply r_neq); exact rfl; exact rfl; exact rfl)
 | ((with_reducible apply r_add); exact rfl; exact rfl; exact (by first | assumption | (unfold fits; omega)); exact rfl)
 | ((with_reducible apply r_sub); exact rfl; exact rfl; exact (by first | assumption | (unfold fits; omega)); exact rfl)
 | ((with_reducible apply r_index_f); exact rfl; exact inferInstance; exact rfl; exact rfl; (first | assumption | omega); exact rfl)
 | ((with_reducible apply r_index_f); exact rfl; exact inferInstance; exact rfl; exact (Int.toNat_of_nonneg (by omega)).symm; (first | assumption | omega); exact rfl)
 | ((with_reducible apply r_load_f0); exact rfl; exact inferInstance; exact List.getElem?_eq_getElem (by first | assumption | omega); exact rfl; exact rfl)
 | ((with_reducible apply r_load_fa0); exact rfl; exact inferInstance; exact List.getElem?_eq_getElem (by first | assumption | omega); exact rfl; exact rfl; exact rfl)
 | ((with_reducible apply r_store_pa); exact rfl; exact rfl; exact rfl; exact rfl; exact rfl; exact rfl)
 | ((with_reducible apply r_alloc); exact rfl)
 | (((with_reducible apply aw_cond); exact rfl) <;> intro hg <;> (first | (exact absurd hg (by decide)) | ((try simp only [decide_eq_true_eq, decide_eq_false_iff_not, Bool.not_eq_true', Bool.not_eq_false', Bool.not_true, Bool.not_false, Bool.not_not, Int.not_lt, Int.not_le, Nat.not_lt, Nat.not_le, gt_iff_lt, ge_iff_le, List.cons.injEq, and_true] at hg); first | (exact absurd trivial hg) | (exfalso; omega) | (have hT : True := hg; clear hT hg) | skip)))
 | (refine aw_drawq ?_ ?_; (kernel_rfl))
 | ((with_reducible apply ds_nil))
 )
      · skip
        refine ⟨(j + 1, behindS l (p[j].2 + l.sizes[p[j].1.toNat]), addS (addS d (p[j].2 - l.kerf) p[j].2) (p[j].2 + l.sizes[p[j].1.toNat]) (behindS l (p[j].2 + l.sizes[p[j].1.toNat])), addS c ed (p[j].2 - l.kerf)), ?_, ?_, by refine weak_mk rfl ?_ ?_ <;> repeat (first | exact envW_nil | exact heapW_nil | refine envW_cons rfl rfl ?_ | refine heapW_cons rfl rfl rfl ?_)⟩
        · show p.length - (j + 1) < p.length - j; omega
        · have key := go_ok (c := c) (d := d) hjl hpm rfl rfl
          rw [if_pos hg, if_pos hg, hsz] at key
          rw [hsz] at hbl
          have a1 := addS_len (addS d (p[j].2 - l.kerf) p[j].2) (p[j].2 + l.sizes[p[j].1.toNat]) (behindS l (p[j].2 + l.sizes[p[j].1.toNat]))
          have a2 := addS_len d (p[j].2 - l.kerf) p[j].2
          have a3 := addS_len c ed (p[j].2 - l.kerf)
          refine ⟨?_, ?_, ?_, ?_, ?_, ?_⟩
          · show j + 1 ≤ _; omega
          · exact hbl.1
          · exact hbl.2
          · show (addS _ _ _).length ≤ 2 * (j + 1); omega
          · show (addS c ed (p[j].2 - l.kerf)).length ≤ j + 1; omega
          · rw [hgo]; exact key
      · skip
        refine ⟨(j + 1, behindS l (p[j].2 + l.sizes[p[j].1.toNat]), addS (d) (p[j].2 + l.sizes[p[j].1.toNat]) (behindS l (p[j].2 + l.sizes[p[j].1.toNat])), c), ?_, ?_, by refine weak_mk rfl ?_ ?_ <;> repeat (first | exact envW_nil | exact heapW_nil | refine envW_cons rfl rfl ?_ | refine heapW_cons rfl rfl rfl ?_)⟩
        · show p.length - (j + 1) < p.length - j; omega
        · have key := go_ok (c := c) (d := d) hjl hpm rfl rfl
          rw [if_neg (by omega), if_neg (by omega), hsz] at key
          rw [hsz] at hbl
          have a1 := addS_len (d) (p[j].2 + l.sizes[p[j].1.toNat]) (behindS l (p[j].2 + l.sizes[p[j].1.toNat]))
          have a2 := addS_len d (p[j].2 - l.kerf) p[j].2
          have a3 := addS_len c ed (p[j].2 - l.kerf)
          refine ⟨?_, ?_, ?_, ?_, ?_, ?_⟩
          · show j + 1 ≤ _; omega
          · exact hbl.1
          · exact hbl.2
          · show (addS _ _ _).length ≤ 2 * (j + 1); omega
          · show c.length ≤ j + 1; omega
          · rw [hgo]; exact key
    · skip
      repeat' (first
 | ((with_reducible apply r_call); exact rfl; exact rfl; exact permitted_con l v ed ⟨by omega, by omega⟩ p[j].1 p[j].2; exact rfl; exact rfl)
 | ((with_reducible apply aw_seq))
 | ((with_reducible apply aw_region))
 | ((with_reducible apply aw_block))
 | ((with_reducible apply thn_normal))
 | ((with_reducible apply thn_ret))
 | ((with_reducible apply inb_ret))
 | ((with_reducible apply aw_skip))
 | ((with_reducible apply aw_ret))
 | ((with_reducible apply ao_nil))
 | ((with_reducible apply r_move); exact rfl; exact rfl)
 | ((with_reducible apply r_assign); exact rfl; exact rfl)
 | ((with_reducible apply r_load_pa); exact rfl; exact rfl; exact rfl; exact rfl; exact rfl)
 | ((with_reducible apply r_lss); exact rfl; exact rfl; exact rfl)
 | ((with_reducible apply r_neq); exact rfl; exact rfl; exact rfl)
 | ((with_reducible apply r_index_f); exact rfl; exact inferInstance; exact rfl; exact rfl; (first | assumption | omega); exact rfl)
 | ((with_reducible apply r_load_fa0); exact rfl; exact inferInstance; exact List.getElem?_eq_getElem (by first | assumption | omega); exact rfl; exact rfl; exact rfl)
 | ((with_reducible apply r_store_pa); exact rfl; exact rfl; exact rfl; exact rfl; exact rfl; exact rfl)
 | ((with_reducible apply r_alloc); exact rfl)
 | (((with_reducible apply aw_cond); exact rfl) <;> intro hg <;> (first | (exact absurd hg (by decide)) | ((try simp only [decide_eq_true_eq, decide_eq_false_iff_not, Bool.not_eq_true', Bool.not_eq_false', Bool.not_true, Bool.not_false, Bool.not_not, Int.not_lt, Int.not_le, Nat.not_lt, Nat.not_le, gt_iff_lt, ge_iff_le, List.cons.injEq, and_true] at hg); first | (exact absurd trivial hg) | (exfalso; omega) | (have hT : True := hg; clear hT hg) | skip)))
 )
      rw [hgo, go_err hjl hpm]
      exact ret2 (.cons (.tmp rfl cl_none) (.cons (.tmp rfl cl_none) (.cons (.tmp rfl cl_c) .nil)))
  · have hnil : p.drop j = [] := List.drop_eq_nil_of_le (by omega)
    rw [hnil] at hgo
    repeat' (first
 | ((with_reducible apply add_in); exact rfl; exact rfl; exact rfl; (first | omega | exact Nat.lt_of_le_of_lt (addS_len _ _ _) (by omega)); exact rfl; exact rfl)
 | ((with_reducible apply aw_seq))
 | ((with_reducible apply aw_region))
 | ((with_reducible apply thn_normal))
 | ((with_reducible apply thn_exit))
 | ((with_reducible apply inb_exit))
 | ((with_reducible apply aw_skip))
 | ((with_reducible apply aw_exit))
 | ((with_reducible apply aw_ret))
 | ((with_reducible apply ao_nil))
 | ((with_reducible apply r_move); exact rfl; exact rfl)
 | ((with_reducible apply r_assign); exact rfl; exact rfl)
 | ((with_reducible apply r_field_p); exact rfl; exact rfl)
 | ((with_reducible apply r_load_p); exact rfl; exact rfl; exact rfl; exact rfl)
 | ((with_reducible apply r_lss); exact rfl; exact rfl; exact rfl)
 | ((with_reducible apply r_geq); exact rfl; exact rfl; exact rfl)
 | (((with_reducible apply aw_cond); exact rfl) <;> intro hg <;> (first | (exact absurd hg (by decide)) | ((try simp only [decide_eq_true_eq, decide_eq_false_iff_not, Bool.not_eq_true', Bool.not_eq_false', Bool.not_true, Bool.not_false, Bool.not_not, Int.not_lt, Int.not_le, Nat.not_lt, Nat.not_le, gt_iff_lt, ge_iff_le, List.cons.injEq, and_true] at hg); first | (exact absurd trivial hg) | (exfalso; omega) | (have hT : True := hg; clear hT hg) | skip)))
 )
    · have hr : cutsGo l p 0 [] [] = (0, d, addS c ed l.len) := by rw [hgo]; unfold cutsGo; rw [if_pos hg]
      rw [hr]
      exact ret2 (.cons (.tmp rfl (cl_vec rfl (flat_len EncL.len _))) (.cons (.tmp rfl (cl_vec rfl (flat_len EncL.len _))) (.cons (.tmp rfl cl_c) .nil)))
    · have hr : cutsGo l p 0 [] [] = (0, d, c) := by rw [hgo]; unfold cutsGo; rw [if_neg (by omega)]
      rw [hr]
      exact ret2 (.cons (.tmp rfl (cl_vec rfl (flat_len EncL.len _))) (.cons (.tmp rfl (cl_vec rfl (flat_len EncL.len _))) (.cons (.tmp rfl cl_c) .nil)))
end Go.Proofs.YtjofnmklkndhoaaDoor.Cu
/- Walks of cutting: total, sum, Value in both. -/
namespace Go.Proofs.YtjofnmklkndhoaaDoor.Cu
set_option linter.unusedVariables false
set_option linter.unusedSimpArgs false
open Go.RowKit Go.Proofs.YtjofnmklkndhoaaDoor.Ev
variable {gl : List (Nat × List CV)}
def pre (l : List Int) (k : Nat) : Int := (l.take k).sum
theorem pre_succ (l : List Int) (k : Nat) (h : k < l.length) : pre l (k + 1) = pre l k + l[k] := by
  unfold pre; rw [List.take_succ_eq_append_getElem h, List.sum_append]; simp
def Bd (l : List Int) : Prop := ∀ i (h : i < l.length), -1125899906842624 ≤ l[i] ∧ l[i] ≤ 1125899906842624
theorem pre_bd {l : List Int} (h : Bd l) (a : Nat) : ∀ n, a + n ≤ l.length → -1125899906842624 * (n : Int) ≤ pre l (a + n) - pre l a ∧ pre l (a + n) - pre l a ≤ 1125899906842624 * (n : Int)
  | 0, _ => by simp
  | n + 1, hn => by
    have ih := pre_bd h a n (by omega)
    have h1 := h (a + n) (by omega)
    rw [show a + (n + 1) = (a + n) + 1 by omega, pre_succ l (a + n) (by omega)]
    omega
theorem pre_bd' {l : List Int} (h : Bd l) (a b : Nat) (hab : a ≤ b) (hb : b ≤ l.length) : -1125899906842624 * ((b : Int) - a) ≤ pre l b - pre l a ∧ pre l b - pre l a ≤ 1125899906842624 * ((b : Int) - a) := by
  have := pre_bd h a (b - a) (by omega)
  rw [show a + (b - a) = b by omega] at this
  have e : ((b - a : Nat) : Int) = (b : Int) - a := by omega
  rw [e] at this; exact this
def spV (l : List Int) (s : Span) : Int := pre l s.2.toNat - pre l s.1.toNat
def sumSp (l : List Int) (ss : List Span) : Int := (ss.map (spV l)).sum
def tot (ss : List Span) : Int := (ss.map fun s => s.2 - s.1).sum
theorem sumSp_succ (l : List Int) (ss : List Span) (j : Nat) (h : j < ss.length) : sumSp l (ss.take (j + 1)) = sumSp l (ss.take j) + spV l ss[j] := by
  unfold sumSp; rw [List.take_succ_eq_append_getElem h, List.map_append, List.sum_append]; simp
theorem tot_succ (ss : List Span) (j : Nat) (h : j < ss.length) : tot (ss.take (j + 1)) = tot (ss.take j) + (ss[j].2 - ss[j].1) := by
  unfold tot; rw [List.take_succ_eq_append_getElem h, List.map_append, List.sum_append]; simp
structure SpsOk (n : Nat) (ss : List Span) : Prop where
  sp : ∀ i (h : i < ss.length), 0 ≤ ss[i].1 ∧ ss[i].1 ≤ ss[i].2 ∧ ss[i].2 ≤ n
  tot : tot ss ≤ 4000
theorem tot_mono {n : Nat} {ss : List Span} (h : ∀ i (h : i < ss.length), 0 ≤ ss[i].1 ∧ ss[i].1 ≤ ss[i].2 ∧ ss[i].2 ≤ n) : ∀ k j, j + k ≤ ss.length → tot (ss.take j) ≤ tot (ss.take (j + k))
  | 0, j, _ => Int.le_refl _
  | k + 1, j, hj => by
    have ih := tot_mono h k j (by omega)
    have h1 := h (j + k) (by omega)
    rw [show j + (k + 1) = (j + k) + 1 by omega, tot_succ ss (j + k) (by omega)]
    omega
theorem tot_le {n : Nat} {ss : List Span} (h : SpsOk n ss) (j : Nat) (hj : j ≤ ss.length) : tot (ss.take j) ≤ 4000 := by
  have := tot_mono h.sp (ss.length - j) j (by omega)
  rw [show j + (ss.length - j) = ss.length by omega, List.take_length] at this
  have := h.tot; omega
theorem sumSp_bd {l : List Int} (hb : Bd l) {ss : List Span} (h : SpsOk l.length ss) : ∀ j, j ≤ ss.length → -1125899906842624 * tot (ss.take j) ≤ sumSp l (ss.take j) ∧ sumSp l (ss.take j) ≤ 1125899906842624 * tot (ss.take j)
  | 0, _ => by simp [tot, sumSp]
  | j + 1, hj => by
    have ih := sumSp_bd hb h j (by omega)
    have h1 := h.sp j (by omega)
    have h2 := pre_bd' hb ss[j].1.toNat ss[j].2.toNat (by omega) (by omega)
    rw [sumSp_succ l ss j (by omega), tot_succ ss j (by omega)]
    unfold spV
    have e1 : (ss[j].1.toNat : Int) = ss[j].1 := by omega
    have e2 : (ss[j].2.toNat : Int) = ss[j].2 := by omega
    rw [e1, e2] at h2
    omega
theorem sub_get (l : List Int) (a b i : Nat) (h : i < ((l.take b).drop a).length) : ((l.take b).drop a)[i] = l[a + i]'(by simp at h; omega) := by
  simp
theorem total_con (l : List Int) (hb : Bd l) (ss : List Span) (hs : SpsOk l.length ss) (hl : l.length ≤ 100000) (hn : ss.length ≤ 1000000) : Con Tryd.prog gl 39 [LI l, LS ss] (I (sumSp l ss)) := by
  refine con_of Tryd.func39 rfl (by kernel_rfl) rfl ?_
  simp only [Tryd.ntmps39, Tryd.results39, argEnv, ofC, of1, List.map]
  repeat' (first
 | ((with_reducible apply aw_seq))
 | ((with_reducible apply aw_region))
 | ((with_reducible apply aw_block))
 | ((with_reducible apply thn_normal))
 | ((with_reducible apply ao_nil))
 | ((with_reducible apply r_move); exact rfl; exact rfl)
 | ((with_reducible apply r_assign); exact rfl; exact rfl)
 | ((with_reducible apply r_len_f); exact rfl; exact inferInstance; exact rfl)
 )
  refine aw_loopG (G := Nat × Int) (fun ((j, t) : Nat × Int) => j ≤ ss.length ∧ t = sumSp l (ss.take j)) (fun ((j, t) : Nat × Int) => ss.length - j) (fun ((j, t) : Nat × Int) => [(0, .c (LI l)), (5, A t), (10, .c (LS ss)), (11, A ss.length), (12, A j)]) (fun ((j, t) : Nat × Int) => []) 0 (0, 0) ?_ (by refine weak_mk rfl ?_ ?_ <;> repeat (first | exact envW_nil | exact heapW_nil | refine envW_cons rfl rfl ?_ | refine heapW_cons rfl rfl rfl ?_)) rfl ?_
  · exact ⟨Nat.zero_le _, by simp [sumSp]⟩
  rintro ⟨j, t⟩ hI
  try dsimp only at hI
  try dsimp only
  obtain ⟨hI, ht⟩ := hI
  by_cases hjl : j < ss.length
  · have h1 := hs.sp j hjl
    have hbd := sumSp_bd hb hs j hI
    have htl := tot_le hs j hI
    have htl2 := tot_le hs (j + 1) (by omega)
    rw [tot_succ ss j hjl] at htl2
    have htp : 0 ≤ tot (ss.take j) := by
      have := tot_mono hs.sp j 0 (by omega)
      simpa [tot] using this
    have hsu := sumSp_succ l ss j hjl
    repeat' (first
 | ((with_reducible apply r_slice_f); exact rfl; exact inferInstance; exact rfl; exact rfl; exact (Int.toNat_of_nonneg (by omega)).symm; exact (Int.toNat_of_nonneg (by omega)).symm; exact (by omega); exact (by omega); exact rfl)
 | ((with_reducible apply aw_seq))
 | ((with_reducible apply aw_region))
 | ((with_reducible apply aw_block))
 | ((with_reducible apply thn_normal))
 | ((with_reducible apply aw_skip))
 | ((with_reducible apply ao_nil))
 | ((with_reducible apply r_move); exact rfl; exact rfl)
 | ((with_reducible apply r_field_p); exact rfl; exact rfl)
 | ((with_reducible apply r_load_p); exact rfl; exact rfl; exact rfl; exact rfl)
 | ((with_reducible apply r_lss); exact rfl; exact rfl; exact rfl)
 | ((with_reducible apply r_len_f); exact rfl; exact inferInstance; exact rfl)
 | ((with_reducible apply r_index_f); exact rfl; exact inferInstance; exact rfl; exact rfl; (first | assumption | omega); exact rfl)
 | ((with_reducible apply r_load_fa0); exact rfl; exact inferInstance; exact List.getElem?_eq_getElem (by first | assumption | omega); exact rfl; exact rfl; exact rfl)
 | ((with_reducible apply r_store_pa); exact rfl; exact rfl; exact rfl; exact rfl; exact rfl; exact rfl)
 | ((with_reducible apply r_alloc); exact rfl)
 | (((with_reducible apply aw_cond); exact rfl) <;> intro hg <;> (first | (exact absurd hg (by decide)) | ((try simp only [decide_eq_true_eq, decide_eq_false_iff_not, Bool.not_eq_true', Bool.not_eq_false', Bool.not_true, Bool.not_false, Bool.not_not, Int.not_lt, Int.not_le, Nat.not_lt, Nat.not_le, gt_iff_lt, ge_iff_le, List.cons.injEq, and_true] at hg); first | (exact absurd trivial hg) | (exfalso; omega) | (have hT : True := hg; clear hT hg) | skip)))
 )
    have hlen : ((l.take ss[j].2.toNat).drop ss[j].1.toNat).length = ss[j].2.toNat - ss[j].1.toNat := by simp; omega
    refine aw_loopG (G := Nat × Int) (fun ((i, u) : Nat × Int) => i ≤ ((l.take ss[j].2.toNat).drop ss[j].1.toNat).length ∧ u = t + (pre l (ss[j].1.toNat + i) - pre l ss[j].1.toNat)) (fun ((i, u) : Nat × Int) => ((l.take ss[j].2.toNat).drop ss[j].1.toNat).length - i) (fun ((i, u) : Nat × Int) => [(0, .c (LI l)), (5, A u), (10, .c (LS ss)), (11, A ss.length), (12, A j), (21, .c (LI ((l.take ss[j].2.toNat).drop ss[j].1.toNat))), (22, A ((l.take ss[j].2.toNat).drop ss[j].1.toNat).length), (23, A i)]) (fun ((i, u) : Nat × Int) => []) 1 (0, t) ?_ (by refine weak_mk rfl ?_ ?_ <;> repeat (first | exact envW_nil | exact heapW_nil | refine envW_cons rfl rfl ?_ | refine heapW_cons rfl rfl rfl ?_)) rfl ?_
    · exact ⟨Nat.zero_le _, by simp⟩
    rintro ⟨i, u⟩ hI
    try dsimp only at hI
    try dsimp only
    obtain ⟨hi, hu⟩ := hI
    by_cases hil : i < ((l.take ss[j].2.toNat).drop ss[j].1.toNat).length
    · have hge := sub_get l ss[j].1.toNat ss[j].2.toNat i hil
      have hpb := pre_bd hb ss[j].1.toNat i (by omega)
      have hel := hb (ss[j].1.toNat + i) (by omega)
      have hps := pre_succ l (ss[j].1.toNat + i) (by omega)
      rw [← hge] at hel hps
      repeat' (first
 | ((with_reducible apply aw_seq))
 | ((with_reducible apply aw_region))
 | ((with_reducible apply aw_block))
 | ((with_reducible apply thn_normal))
 | ((with_reducible apply inb_normal))
 | ((with_reducible apply aw_skip))
 | ((with_reducible apply ao_nil))
 | ((with_reducible apply r_move); exact rfl; exact rfl)
 | ((with_reducible apply r_assign); exact rfl; exact rfl)
 | ((with_reducible apply r_lss); exact rfl; exact rfl; exact rfl)
 | ((with_reducible apply r_add); exact rfl; exact rfl; exact (by first | assumption | (unfold fits; omega)); exact rfl)
 | ((with_reducible apply r_index_f); exact rfl; exact inferInstance; exact rfl; exact rfl; (first | assumption | omega); exact rfl)
 | ((with_reducible apply r_load_f0); exact rfl; exact inferInstance; exact List.getElem?_eq_getElem (by first | assumption | omega); exact rfl; exact rfl)
 | (((with_reducible apply aw_cond); exact rfl) <;> intro hg <;> (first | (exact absurd hg (by decide)) | ((try simp only [decide_eq_true_eq, decide_eq_false_iff_not, Bool.not_eq_true', Bool.not_eq_false', Bool.not_true, Bool.not_false, Bool.not_not, Int.not_lt, Int.not_le, Nat.not_lt, Nat.not_le, gt_iff_lt, ge_iff_le, List.cons.injEq, and_true] at hg); first | (exact absurd trivial hg) | (exfalso; omega) | (have hT : True := hg; clear hT hg) | skip)))
 )
      refine ⟨(i + 1, u + ((l.take ss[j].2.toNat).drop ss[j].1.toNat)[i]), ?_, ?_, by refine weak_mk rfl ?_ ?_ <;> repeat (first | exact envW_nil | exact heapW_nil | refine envW_cons rfl rfl ?_ | refine heapW_cons rfl rfl rfl ?_)⟩
      · show _ - (i + 1) < _ - i; omega
      · refine ⟨by show i + 1 ≤ _; omega, ?_⟩
        show _ = t + (pre l (ss[j].1.toNat + i + 1) - _)
        rw [hps]; omega
    · skip
      repeat' (first
 | ((with_reducible apply aw_seq))
 | ((with_reducible apply aw_region))
 | ((with_reducible apply thn_normal))
 | ((with_reducible apply thn_exit))
 | ((with_reducible apply inb_normal))
 | ((with_reducible apply inb_exit))
 | ((with_reducible apply aw_exit))
 | ((with_reducible apply ao_nil))
 | ((with_reducible apply r_move); exact rfl; exact rfl)
 | ((with_reducible apply r_lss); exact rfl; exact rfl; exact rfl)
 | ((with_reducible apply r_add); exact rfl; exact rfl; exact (by first | assumption | (unfold fits; omega)); exact rfl)
 | (((with_reducible apply aw_cond); exact rfl) <;> intro hg <;> (first | (exact absurd hg (by decide)) | ((try simp only [decide_eq_true_eq, decide_eq_false_iff_not, Bool.not_eq_true', Bool.not_eq_false', Bool.not_true, Bool.not_false, Bool.not_not, Int.not_lt, Int.not_le, Nat.not_lt, Nat.not_le, gt_iff_lt, ge_iff_le, List.cons.injEq, and_true] at hg); first | (exact absurd trivial hg) | (exfalso; omega) | (have hT : True := hg; clear hT hg) | skip)))
 )
      refine ⟨(j + 1, u), ?_, ?_, by refine weak_mk rfl ?_ ?_ <;> repeat (first | exact envW_nil | exact heapW_nil | refine envW_cons rfl rfl ?_ | refine heapW_cons rfl rfl rfl ?_)⟩
      · show _ - (j + 1) < _ - j; omega
      · refine ⟨by show j + 1 ≤ _; omega, ?_⟩
        show u = sumSp l (ss.take (j + 1))
        rw [hsu, hu, ht]
        unfold spV
        rw [show ss[j].1.toNat + i = ss[j].2.toNat by omega]
  · skip
    repeat' (first
 | ((with_reducible apply aw_seq))
 | ((with_reducible apply aw_region))
 | ((with_reducible apply thn_normal))
 | ((with_reducible apply thn_exit))
 | ((with_reducible apply inb_exit))
 | ((with_reducible apply aw_exit))
 | ((with_reducible apply aw_ret))
 | ((with_reducible apply ao_nil))
 | ((with_reducible apply r_move); exact rfl; exact rfl)
 | ((with_reducible apply r_assign); exact rfl; exact rfl)
 | ((with_reducible apply r_lss); exact rfl; exact rfl; exact rfl)
 | (((with_reducible apply aw_cond); exact rfl) <;> intro hg <;> (first | (exact absurd hg (by decide)) | ((try simp only [decide_eq_true_eq, decide_eq_false_iff_not, Bool.not_eq_true', Bool.not_eq_false', Bool.not_true, Bool.not_false, Bool.not_not, Int.not_lt, Int.not_le, Nat.not_lt, Nat.not_le, gt_iff_lt, ge_iff_le, List.cons.injEq, and_true] at hg); first | (exact absurd trivial hg) | (exfalso; omega) | (have hT : True := hg; clear hT hg) | skip)))
 )
    exact ret_i rfl (by rw [ht, List.take_of_length_le (by omega)])
end Go.Proofs.YtjofnmklkndhoaaDoor.Cu
/- Walks of cutting: Value in both. -/
namespace Go.Proofs.YtjofnmklkndhoaaDoor.Cu
set_option linter.unusedVariables false
set_option linter.unusedSimpArgs false
open Go.RowKit Go.Proofs.YtjofnmklkndhoaaDoor.Ev
variable {gl : List (Nat × List CV)}
def AllSp (n : Int) (l : List Span) : Prop := ∀ s ∈ l, 0 ≤ s.1 ∧ s.1 < s.2 ∧ s.2 ≤ n
theorem tot_add (l : List Span) (a b : Int) : tot (addS l a b) = tot l + max 0 (b - a) := by
  unfold addS
  split
  · omega
  · unfold tot; rw [List.map_append, List.sum_append]; simp; omega
theorem allSp_add {n : Int} {l : List Span} (h : AllSp n l) {a b : Int} (h0 : 0 ≤ a) (h1 : b ≤ n) : AllSp n (addS l a b) := by
  unfold addS
  split
  · exact h
  · intro s hs
    rcases List.mem_append.1 hs with hs | hs
    · exact h s hs
    · simp only [List.mem_singleton] at hs; subst hs; exact ⟨h0, by show a < b; omega, h1⟩
structure GoInv (l : Line) (e : Int) (d c : List Span) (n : Int) : Prop where
  hd : AllSp l.len d
  hc : AllSp l.len c
  he : -1 ≤ e ∧ e ≤ l.len
  ht : tot d + tot c + n ≤ if e < 0 then l.len else e
theorem go_inv {l : Line} (v : Valid l) : ∀ (p : List Piece) (e : Int) (d c : List Span) (n : Int) (D C : List Span), GoInv l e d c n → cutsGo l p e d c = (0, D, C) → AllSp l.len D ∧ AllSp l.len C ∧ tot D + tot C + (n + p.length) ≤ l.len ∧ ∀ x ∈ p, ∃ e', perm l e' x = 0
  | [], e, d, c, n, D, C, h, hg => by
    obtain ⟨h1, h2, h3, h4⟩ := h
    unfold cutsGo at hg
    simp only [Prod.mk.injEq, true_and] at hg
    obtain ⟨rfl, rfl⟩ := hg
    have hl := v.len
    refine ⟨h1, ?_, ?_, fun x hx => by simp at hx⟩
    · split
      · exact allSp_add h2 (by omega) (Int.le_refl _)
      · exact h2
    · split
      · rename_i he
        rw [if_neg (by omega)] at h4
        rw [tot_add]; simp; omega
      · rw [if_pos (by omega)] at h4
        simp; omega
  | x :: p, e, d, c, n, D, C, h, hg => by
    obtain ⟨h1, h2, h3, h4⟩ := h
    unfold cutsGo at hg
    by_cases hp : perm l e x = 0
    · rw [if_neg (fun hh => hh hp)] at hg
      obtain ⟨q1, q2, q3, q4, q5, q6, q7⟩ := perm0 (l := l) (e := e) (s := x.1) (p := x.2) hp
      rw [if_neg (by omega)] at h4
      have hl := v.len
      have hk := v.kerf
      have hpi := v.pitch
      obtain ⟨k, hk1, hk2, hk3⟩ := szOf_eq (l := l) (s := x.1) q1 q2
      have hsz := v.size k hk2
      rw [← hk3] at hsz
      generalize szOf l x.1 = sz at *
      have hbe : (x.2 + sz = l.len ∧ behindS l (x.2 + sz) = -1) ∨ (x.2 + sz ≠ l.len ∧ behindS l (x.2 + sz) = min (x.2 + sz + l.kerf) l.len) := by
        unfold behindS
        by_cases hc : x.2 + sz = l.len
        · exact .inl ⟨hc, if_pos hc⟩
        · exact .inr ⟨hc, if_neg hc⟩
      generalize behindS l (x.2 + sz) = be at *
      generalize (x.2 - l.kerf - e).tmod l.pitch = tm at *
      have ih := go_inv v p be (addS (if e < x.2 then addS d (x.2 - l.kerf) x.2 else d) (x.2 + sz) be) (if e < x.2 then addS c e (x.2 - l.kerf) else c) (n + 1) D C ⟨?_, ?_, by omega, ?_⟩ hg
      · obtain ⟨i1, i2, i3, i4⟩ := ih
        refine ⟨i1, i2, by simp only [List.length_cons]; omega, fun y hy => ?_⟩
        rcases List.mem_cons.1 hy with rfl | hy
        · exact ⟨e, hp⟩
        · exact i4 y hy
      · refine allSp_add ?_ (by omega) (by omega)
        split
        · exact allSp_add h1 (by omega) (by omega)
        · exact h1
      · split
        · exact allSp_add h2 (by omega) (by omega)
        · exact h2
      · rw [tot_add]
        split
        · rw [tot_add, tot_add]
          split <;> omega
        · split <;> omega
    · rw [if_pos hp] at hg
      simp only [Prod.mk.injEq] at hg
      exact absurd hg.1 hp
theorem cuts_ok {l : Line} (v : Valid l) {p : List Piece} {D C : List Span} (h : cutsGo l p 0 [] [] = (0, D, C)) : AllSp l.len D ∧ AllSp l.len C ∧ tot D + tot C + p.length ≤ l.len ∧ ∀ x ∈ p, ∃ e', perm l e' x = 0 := by
  have := go_inv v p 0 [] [] 0 D C ⟨fun s hs => by simp at hs, fun s hs => by simp at hs, by have := v.len; omega, by simp [tot]⟩ h
  simpa using this
theorem tot_nn {n : Int} {ss : List Span} (h : AllSp n ss) : (ss.length : Int) ≤ tot ss := by
  induction ss with
  | nil => simp [tot]
  | cons s ss ih =>
    have h1 := h s (by simp)
    have h2 := ih (fun t ht => h t (by simp [ht]))
    unfold tot at h2 ⊢
    simp only [List.map_cons, List.sum_cons, List.length_cons]
    omega
theorem sps_of {n : Nat} {ss : List Span} (h : AllSp n ss) (ht : tot ss ≤ 4000) : SpsOk n ss :=
  ⟨fun i hi => by have := h _ (List.getElem_mem hi); omega, ht⟩
def gsum (l : Line) (p : List Piece) : Int := (p.map fun x => gOf l x.1 x.2).sum
theorem gsum_succ (l : Line) (p : List Piece) (j : Nat) (h : j < p.length) : gsum l (p.take (j + 1)) = gsum l (p.take j) + gOf l p[j].1 p[j].2 := by
  unfold gsum; rw [List.take_succ_eq_append_getElem h, List.map_append, List.sum_append]; simp
noncomputable def valS (l : Line) (p : List Piece) : Int × Int :=
  if (cutsS l p).1 ≠ 0 then (0, (cutsS l p).1) else (sumSp l.dust (cutsS l p).2.1 + sumSp l.chip (cutsS l p).2.2 + gsum l p, 0)
def valC (r : Int × Int) : CV := .tup [I r.1, I r.2]
theorem piece_ok {l : Line} (v : Valid l) {e s p : Int} (h : perm l e (s, p) = 0) : 0 ≤ s ∧ 0 ≤ p ∧ ∃ (h1 : s.toNat < l.sizes.length) (h2 : s.toNat < l.gain.length) (h3 : p.toNat < l.gain[s.toNat].length), gOf l s p = l.gain[s.toNat][p.toNat] ∧ -1125899906842624 ≤ l.gain[s.toNat][p.toNat] ∧ l.gain[s.toNat][p.toNat] ≤ 1125899906842624 ∧ szOf l s = l.sizes[s.toNat] ∧ p ≤ l.len - l.sizes[s.toNat] ∧ 0 ≤ l.gain[s.toNat][p.toNat] := by
  obtain ⟨q1, q2, q3, q4, q5, q6, q7⟩ := perm0 h
  have hk2 : s.toNat < l.sizes.length := by omega
  have hsz : szOf l s = l.sizes[s.toNat] := by
    conv => lhs; rw [show s = ((s.toNat : Nat) : Int) by omega]
    exact szOf_nat hk2
  have hgl : s.toNat < l.gain.length := by have := v.gain; omega
  have hrow := v.row _ hgl hk2
  have hgl2 : p.toNat < l.gain[s.toNat].length := by omega
  have hg := v.gains _ hgl _ hgl2
  have hgo : gOf l s p = l.gain[s.toNat][p.toNat] := by
    unfold gOf
    rw [List.getD_eq_getElem?_getD, List.getD_eq_getElem?_getD, List.getElem?_eq_getElem hgl]
    simp only [Option.getD_some]
    rw [List.getElem?_eq_getElem hgl2]; rfl
  exact ⟨q1, q3, hk2, hgl, hgl2, hgo, hg.1, hg.2, hsz, by omega, by rw [← hgo]; exact q7⟩
theorem gsum_bd {l : Line} (v : Valid l) {p : List Piece} (h : ∀ x ∈ p, ∃ e, perm l e x = 0) : ∀ j, j ≤ p.length → 0 ≤ gsum l (p.take j) ∧ gsum l (p.take j) ≤ 1125899906842624 * (j : Int)
  | 0, _ => by simp [gsum]
  | j + 1, hj => by
    have ih := gsum_bd v h j (by omega)
    obtain ⟨e, he⟩ := h p[j] (List.getElem_mem (by omega))
    obtain ⟨_, _, h1, h2, h3, h4, h5, h6, _, _, h7⟩ := piece_ok v (s := p[j].1) (p := p[j].2) he
    rw [gsum_succ l p j (by omega), h4]
    omega
end Go.Proofs.YtjofnmklkndhoaaDoor.Cu
