/- BA BB BR BC BS BD BT BE BF BG BW BV BX BU: texts laid together. -/
import Derived.Test.YtkhljpbkebnnmaaGreatDoorMrgM0
import Derived.Test.YtkhljpbkebnnmaaGreatDoorMrgC0
import Derived.Test.YtkhljpbkebnnmaaGreatDoorMrgE1
import Derived.Test.YtkhljpbkebnnmaaGreatDoorMrgC1
import Derived.Test.YtkhljpbkebnnmaaGreatDoorMrgG1
set_option maxRecDepth 100000
set_option maxHeartbeats 64000000
/- Walks of bucking: plans, parts of a stem. -/
namespace Go.Proofs.YtkhljpbkebnnmaaGreatDoor.Bu
set_option linter.unusedVariables false
set_option linter.unusedSimpArgs false
open Go.RowKit Go.Proofs.YtkhljpbkebnnmaaGreatDoor.Ev Go.Proofs.YtkhljpbkebnnmaaGreatDoor.Ge
variable {gl : List (Nat × List CV)}
structure Plan where
  classes : List Kl
  lens : List Int
  unit : Int
  kerf : Int
def planL (p : Plan) : List CV := [LK p.classes, LI p.lens, I p.unit, I p.kerf]
abbrev planV (p : Plan) : CV := .agg [LK p.classes, LI p.lens, I p.unit, I p.kerf]
abbrev planA (p : Plan) : List AV := [.c (LK p.classes), .c (LI p.lens), A p.unit, A p.kerf]
abbrev Lg := List Slc × List Dfc
abbrev lgV (x : Lg) : CV := .agg [LL x.1, LD x.2]
def stC (x : Lg) : List CV := [LL x.1, LD x.2]
instance : EncL stC 2 := ⟨fun _ => rfl, by decide, fun _ => rfl⟩
abbrev LStem (l : List Lg) : CV := .lst 2 (l.flatMap stC)
def lenOk (n : Int) : Bool := decide (1 ≤ n ∧ n ≤ 2000)
def unitBad (p : Plan) : Prop := p.unit < 1 ∨ 1000 < p.unit ∨ p.kerf < 0 ∨ 20 < p.kerf
noncomputable def planChk (p : Plan) : Int :=
  open Classical in
  if klChk p.classes ≠ 0 then klChk p.classes else if p.lens.length = 0 then 3 else if 32 < p.lens.length then 4 else if p.lens.all lenOk = false then 9 else if unitBad p then 9 else 0
theorem pc_cls {p : Plan} (h : ¬ klChk p.classes = 0) : klChk p.classes = planChk p := by unfold planChk; rw [if_pos h]
theorem pc_none {p : Plan} (h : klChk p.classes = 0) (h2 : p.lens.length = 0) : 3 = planChk p := by unfold planChk; rw [if_neg (fun hh => hh h), if_pos h2]
theorem pc_long {p : Plan} (h : klChk p.classes = 0) (h2 : ¬ p.lens.length = 0) (h3 : 32 < p.lens.length) : 4 = planChk p := by unfold planChk; rw [if_neg (fun hh => hh h), if_neg h2, if_pos h3]
theorem pc_len {p : Plan} (h : klChk p.classes = 0) (h2 : ¬ p.lens.length = 0) (h3 : ¬ 32 < p.lens.length) {j : Nat} (hj : j < p.lens.length) (h4 : lenOk p.lens[j] = false) : 9 = planChk p := by
  unfold planChk; rw [if_neg (fun hh => hh h), if_neg h2, if_neg h3, if_pos (all_not hj h4)]
theorem pc_unit {p : Plan} (h : klChk p.classes = 0) (h2 : ¬ p.lens.length = 0) (h3 : ¬ 32 < p.lens.length) (h4 : ∀ i (h : i < p.lens.length), lenOk p.lens[i] = true) (h5 : unitBad p) : 9 = planChk p := by
  unfold planChk; rw [if_neg (fun hh => hh h), if_neg h2, if_neg h3, if_neg (by rw [all_of h4]; simp), if_pos h5]
theorem pc_ok {p : Plan} (h : klChk p.classes = 0) (h2 : ¬ p.lens.length = 0) (h3 : ¬ 32 < p.lens.length) (h4 : ∀ i (h : i < p.lens.length), lenOk p.lens[i] = true) (h5 : ¬ unitBad p) : 0 = planChk p := by
  unfold planChk; rw [if_neg (fun hh => hh h), if_neg h2, if_neg h3, if_neg (by rw [all_of h4]; simp), if_neg h5]
structure PlanOk (p : Plan) : Prop where
  cls : klChk p.classes = 0
  len : 1 ≤ p.lens.length ∧ p.lens.length ≤ 32
  one : ∀ i (h : i < p.lens.length), 1 ≤ p.lens[i] ∧ p.lens[i] ≤ 2000
  unit : 1 ≤ p.unit ∧ p.unit ≤ 1000
  kerf : 0 ≤ p.kerf ∧ p.kerf ≤ 20
theorem plan_ok {p : Plan} (h : planChk p = 0) : PlanOk p := by
  unfold planChk at h
  split at h
  · rename_i h1; exact absurd h h1
  · rename_i h1
    split at h
    · cases h
    · split at h
      · cases h
      · split at h
        · cases h
        · rename_i h4
          split at h
          · cases h
          · rename_i h5
            unfold unitBad at h5
            refine ⟨by simpa using h1, by omega, fun i hi => ?_, by omega, by omega⟩
            have h6 : p.lens.all lenOk = true := by simpa using h4
            have := List.all_eq_true.1 h6 _ (List.getElem_mem hi)
            unfold lenOk at this; simpa using this
theorem pcheck_con (p : Plan) (hK : p.classes.length ≤ maxLen) : Con Tryz.prog gl 12 [planV p] (I (planChk p)) := by
  have c0 := kcheck_con (gl := gl) p.classes hK
  refine con_of Tryz.func12 rfl (by kernel_rfl) rfl ?_
  simp only [Tryz.ntmps12, Tryz.results12, argEnv, ofC, of1, List.map]
  by_cases h1 : klChk p.classes = 0
  rotate_left
  · skip
    repeat' (first
 | ((with_reducible apply r_call); exact rfl; exact rfl; exact c0; exact rfl; exact rfl)
 | ((with_reducible apply aw_seq))
 | ((with_reducible apply aw_region))
 | ((with_reducible apply thn_normal))
 | ((with_reducible apply thn_ret))
 | ((with_reducible apply aw_ret))
 | ((with_reducible apply ao_nil))
 | ((with_reducible apply r_move); exact rfl; exact rfl)
 | ((with_reducible apply r_assign); exact rfl; exact rfl)
 | ((with_reducible apply r_field_p); exact rfl; exact rfl)
 | ((with_reducible apply r_load_p); exact rfl; exact rfl; exact rfl; exact rfl)
 | ((with_reducible apply r_neq); exact rfl; exact rfl; exact rfl)
 | ((with_reducible apply r_box_a); exact rfl; exact rfl)
 | (((with_reducible apply aw_cond); exact rfl) <;> intro hg <;> (first | (exact absurd hg (by decide)) | ((try simp only [decide_eq_true_eq, decide_eq_false_iff_not, Bool.not_eq_true', Bool.not_eq_false', Bool.not_true, Bool.not_false, Bool.not_not, Int.not_lt, Int.not_le, Nat.not_lt, Nat.not_le, gt_iff_lt, ge_iff_le, List.cons.injEq, and_true] at hg); first | (exact absurd trivial hg) | (exfalso; omega) | (have hT : True := hg; clear hT hg) | skip)))
 )
    exact ret_i rfl (pc_cls h1)
  rw [h1] at c0
  by_cases h2 : p.lens.length = 0
  · skip
    repeat' (first
 | ((with_reducible apply r_call); exact rfl; exact rfl; exact c0; exact rfl; exact rfl)
 | ((with_reducible apply aw_seq))
 | ((with_reducible apply aw_region))
 | ((with_reducible apply thn_normal))
 | ((with_reducible apply thn_ret))
 | ((with_reducible apply aw_skip))
 | ((with_reducible apply aw_ret))
 | ((with_reducible apply ao_nil))
 | ((with_reducible apply r_move); exact rfl; exact rfl)
 | ((with_reducible apply r_assign); exact rfl; exact rfl)
 | ((with_reducible apply r_field_p); exact rfl; exact rfl)
 | ((with_reducible apply r_load_p); exact rfl; exact rfl; exact rfl; exact rfl)
 | ((with_reducible apply r_eql); exact rfl; exact rfl; exact rfl)
 | ((with_reducible apply r_neq); exact rfl; exact rfl; exact rfl)
 | ((with_reducible apply r_box_a); exact rfl; exact rfl)
 | ((with_reducible apply r_len_f); exact rfl; exact inferInstance; exact rfl)
 | (((with_reducible apply aw_cond); exact rfl) <;> intro hg <;> (first | (exact absurd hg (by decide)) | ((try simp only [decide_eq_true_eq, decide_eq_false_iff_not, Bool.not_eq_true', Bool.not_eq_false', Bool.not_true, Bool.not_false, Bool.not_not, Int.not_lt, Int.not_le, Nat.not_lt, Nat.not_le, gt_iff_lt, ge_iff_le, List.cons.injEq, and_true] at hg); first | (exact absurd trivial hg) | (exfalso; omega) | (have hT : True := hg; clear hT hg) | skip)))
 )
    exact ret_i rfl (pc_none h1 h2)
  by_cases h3 : 32 < p.lens.length
  · skip
    repeat' (first
 | ((with_reducible apply r_call); exact rfl; exact rfl; exact c0; exact rfl; exact rfl)
 | ((with_reducible apply aw_seq))
 | ((with_reducible apply aw_region))
 | ((with_reducible apply thn_normal))
 | ((with_reducible apply thn_ret))
 | ((with_reducible apply aw_skip))
 | ((with_reducible apply aw_ret))
 | ((with_reducible apply ao_nil))
 | ((with_reducible apply r_move); exact rfl; exact rfl)
 | ((with_reducible apply r_assign); exact rfl; exact rfl)
 | ((with_reducible apply r_field_p); exact rfl; exact rfl)
 | ((with_reducible apply r_load_p); exact rfl; exact rfl; exact rfl; exact rfl)
 | ((with_reducible apply r_gtr); exact rfl; exact rfl; exact rfl)
 | ((with_reducible apply r_eql); exact rfl; exact rfl; exact rfl)
 | ((with_reducible apply r_neq); exact rfl; exact rfl; exact rfl)
 | ((with_reducible apply r_box_a); exact rfl; exact rfl)
 | ((with_reducible apply r_len_f); exact rfl; exact inferInstance; exact rfl)
 | (((with_reducible apply aw_cond); exact rfl) <;> intro hg <;> (first | (exact absurd hg (by decide)) | ((try simp only [decide_eq_true_eq, decide_eq_false_iff_not, Bool.not_eq_true', Bool.not_eq_false', Bool.not_true, Bool.not_false, Bool.not_not, Int.not_lt, Int.not_le, Nat.not_lt, Nat.not_le, gt_iff_lt, ge_iff_le, List.cons.injEq, and_true] at hg); first | (exact absurd trivial hg) | (exfalso; omega) | (have hT : True := hg; clear hT hg) | skip)))
 )
    exact ret_i rfl (pc_long h1 h2 h3)
  repeat' (first
 | ((with_reducible apply r_call); exact rfl; exact rfl; exact c0; exact rfl; exact rfl)
 | ((with_reducible apply aw_seq))
 | ((with_reducible apply aw_region))
 | ((with_reducible apply aw_block))
 | ((with_reducible apply thn_normal))
 | ((with_reducible apply aw_skip))
 | ((with_reducible apply ao_nil))
 | ((with_reducible apply r_move); exact rfl; exact rfl)
 | ((with_reducible apply r_assign); exact rfl; exact rfl)
 | ((with_reducible apply r_field_p); exact rfl; exact rfl)
 | ((with_reducible apply r_load_p); exact rfl; exact rfl; exact rfl; exact rfl)
 | ((with_reducible apply r_gtr); exact rfl; exact rfl; exact rfl)
 | ((with_reducible apply r_eql); exact rfl; exact rfl; exact rfl)
 | ((with_reducible apply r_neq); exact rfl; exact rfl; exact rfl)
 | ((with_reducible apply r_box_a); exact rfl; exact rfl)
 | ((with_reducible apply r_len_f); exact rfl; exact inferInstance; exact rfl)
 | (((with_reducible apply aw_cond); exact rfl) <;> intro hg <;> (first | (exact absurd hg (by decide)) | ((try simp only [decide_eq_true_eq, decide_eq_false_iff_not, Bool.not_eq_true', Bool.not_eq_false', Bool.not_true, Bool.not_false, Bool.not_not, Int.not_lt, Int.not_le, Nat.not_lt, Nat.not_le, gt_iff_lt, ge_iff_le, List.cons.injEq, and_true] at hg); first | (exact absurd trivial hg) | (exfalso; omega) | (have hT : True := hg; clear hT hg) | skip)))
 )
  refine aw_loopG (G := Nat) (fun (j : Nat) => j ≤ p.lens.length ∧ ∀ i (h : i < p.lens.length), i < j → lenOk p.lens[i] = true) (fun (j : Nat) => p.lens.length - j) (fun (j : Nat) => [(1, .ptr 0 0), (21, .c (LI p.lens)), (22, A p.lens.length), (23, A j)]) (fun (j : Nat) => [(0, some (.cells 40 (planA p)))]) 1 0 ?_ (by refine weak_mk rfl ?_ ?_ <;> repeat (first | exact envW_nil | exact heapW_nil | refine envW_cons rfl rfl ?_ | refine heapW_cons rfl rfl rfl ?_)) rfl ?_
  · exact ⟨Nat.zero_le _, fun _ _ h => absurd h (Nat.not_lt_zero _)⟩
  rintro j hI
  try dsimp only at hI
  try dsimp only
  obtain ⟨hj, hall⟩ := hI
  by_cases hjl : j < p.lens.length
  · by_cases hok : 1 ≤ p.lens[j] ∧ p.lens[j] ≤ 2000
    · skip
      repeat' (first
 | ((with_reducible apply aw_seq))
 | ((with_reducible apply aw_region))
 | ((with_reducible apply aw_block))
 | ((with_reducible apply thn_normal))
 | ((with_reducible apply inb_normal))
 | ((with_reducible apply aw_skip))
 | ((with_reducible apply ao_nil))
 | ((with_reducible apply r_move); exact rfl; exact rfl)
 | ((with_reducible apply r_assign); exact rfl; exact rfl)
 | ((with_reducible apply r_lss); exact rfl; exact rfl; exact rfl)
 | ((with_reducible apply r_gtr); exact rfl; exact rfl; exact rfl)
 | ((with_reducible apply r_add); exact rfl; exact rfl; exact (by first | assumption | (unfold fits; omega)); exact rfl)
 | ((with_reducible apply r_pick_f); exact rfl; exact rfl; exact rfl)
 | ((with_reducible apply r_index_f); exact rfl; exact inferInstance; exact rfl; exact rfl; (first | assumption | omega); exact rfl)
 | ((with_reducible apply r_load_f0); exact rfl; exact inferInstance; exact List.getElem?_eq_getElem (by first | assumption | omega); exact rfl; exact rfl)
 | (((with_reducible apply r_guard); exact rfl; exact rfl; exact rfl; exact rfl) <;> intro hg <;> (first | (exact absurd hg (by decide)) | ((try simp only [decide_eq_true_eq, decide_eq_false_iff_not, Bool.not_eq_true', Bool.not_eq_false', Bool.not_true, Bool.not_false, Bool.not_not, Int.not_lt, Int.not_le, Nat.not_lt, Nat.not_le, gt_iff_lt, ge_iff_le, List.cons.injEq, and_true] at hg); first | (exact absurd trivial hg) | (exfalso; omega) | (have hT : True := hg; clear hT hg) | skip)))
 | (((with_reducible apply aw_cond); exact rfl) <;> intro hg <;> (first | (exact absurd hg (by decide)) | ((try simp only [decide_eq_true_eq, decide_eq_false_iff_not, Bool.not_eq_true', Bool.not_eq_false', Bool.not_true, Bool.not_false, Bool.not_not, Int.not_lt, Int.not_le, Nat.not_lt, Nat.not_le, gt_iff_lt, ge_iff_le, List.cons.injEq, and_true] at hg); first | (exact absurd trivial hg) | (exfalso; omega) | (have hT : True := hg; clear hT hg) | skip)))
 )
      all_goals
        refine ⟨j + 1, ?_, ?_, by refine weak_mk rfl ?_ ?_ <;> repeat (first | exact envW_nil | exact heapW_nil | refine envW_cons rfl rfl ?_ | refine heapW_cons rfl rfl rfl ?_)⟩
        · show _ - (j + 1) < _ - j; omega
        · exact ⟨by show j + 1 ≤ _; omega, step_all hjl hall (decide_eq_true hok)⟩
    · skip
      repeat' (first
 | ((with_reducible apply aw_seq))
 | ((with_reducible apply aw_region))
 | ((with_reducible apply aw_block))
 | ((with_reducible apply thn_normal))
 | ((with_reducible apply thn_ret))
 | ((with_reducible apply inb_ret))
 | ((with_reducible apply aw_skip))
 | ((with_reducible apply aw_ret))
 | ((with_reducible apply ao_nil))
 | ((with_reducible apply r_move); exact rfl; exact rfl)
 | ((with_reducible apply r_assign); exact rfl; exact rfl)
 | ((with_reducible apply r_lss); exact rfl; exact rfl; exact rfl)
 | ((with_reducible apply r_gtr); exact rfl; exact rfl; exact rfl)
 | ((with_reducible apply r_pick_t); exact rfl; exact rfl; exact rfl)
 | ((with_reducible apply r_pick_f); exact rfl; exact rfl; exact rfl)
 | ((with_reducible apply r_index_f); exact rfl; exact inferInstance; exact rfl; exact rfl; (first | assumption | omega); exact rfl)
 | ((with_reducible apply r_load_f0); exact rfl; exact inferInstance; exact List.getElem?_eq_getElem (by first | assumption | omega); exact rfl; exact rfl)
 | (((with_reducible apply r_guard); exact rfl; exact rfl; exact rfl; exact rfl) <;> intro hg <;> (first | (exact absurd hg (by decide)) | ((try simp only [decide_eq_true_eq, decide_eq_false_iff_not, Bool.not_eq_true', Bool.not_eq_false', Bool.not_true, Bool.not_false, Bool.not_not, Int.not_lt, Int.not_le, Nat.not_lt, Nat.not_le, gt_iff_lt, ge_iff_le, List.cons.injEq, and_true] at hg); first | (exact absurd trivial hg) | (exfalso; omega) | (have hT : True := hg; clear hT hg) | skip)))
 | (((with_reducible apply aw_cond); exact rfl) <;> intro hg <;> (first | (exact absurd hg (by decide)) | ((try simp only [decide_eq_true_eq, decide_eq_false_iff_not, Bool.not_eq_true', Bool.not_eq_false', Bool.not_true, Bool.not_false, Bool.not_not, Int.not_lt, Int.not_le, Nat.not_lt, Nat.not_le, gt_iff_lt, ge_iff_le, List.cons.injEq, and_true] at hg); first | (exact absurd trivial hg) | (exfalso; omega) | (have hT : True := hg; clear hT hg) | skip)))
 )
      all_goals exact ret_i rfl (pc_len h1 h2 h3 hjl (decide_eq_false hok))
  · have hall' : ∀ i (h : i < p.lens.length), lenOk p.lens[i] = true := fun i hi => hall i hi (by omega)
    by_cases hb : unitBad p
    · have hb2 := hb
      unfold unitBad at hb2
      repeat' (first
 | ((with_reducible apply aw_seq))
 | ((with_reducible apply aw_region))
 | ((with_reducible apply thn_normal))
 | ((with_reducible apply thn_ret))
 | ((with_reducible apply thn_exit))
 | ((with_reducible apply inb_exit))
 | ((with_reducible apply aw_exit))
 | ((with_reducible apply aw_ret))
 | ((with_reducible apply ao_nil))
 | ((with_reducible apply r_move); exact rfl; exact rfl)
 | ((with_reducible apply r_assign); exact rfl; exact rfl)
 | ((with_reducible apply r_field_p); exact rfl; exact rfl)
 | ((with_reducible apply r_load_p); exact rfl; exact rfl; exact rfl; exact rfl)
 | ((with_reducible apply r_lss); exact rfl; exact rfl; exact rfl)
 | ((with_reducible apply r_gtr); exact rfl; exact rfl; exact rfl)
 | ((with_reducible apply r_pick_t); exact rfl; exact rfl; exact rfl)
 | ((with_reducible apply r_pick_f); exact rfl; exact rfl; exact rfl)
 | (((with_reducible apply r_guard); exact rfl; exact rfl; exact rfl; exact rfl) <;> intro hg <;> (first | (exact absurd hg (by decide)) | ((try simp only [decide_eq_true_eq, decide_eq_false_iff_not, Bool.not_eq_true', Bool.not_eq_false', Bool.not_true, Bool.not_false, Bool.not_not, Int.not_lt, Int.not_le, Nat.not_lt, Nat.not_le, gt_iff_lt, ge_iff_le, List.cons.injEq, and_true] at hg); first | (exact absurd trivial hg) | (exfalso; omega) | (have hT : True := hg; clear hT hg) | skip)))
 | (((with_reducible apply aw_cond); exact rfl) <;> intro hg <;> (first | (exact absurd hg (by decide)) | ((try simp only [decide_eq_true_eq, decide_eq_false_iff_not, Bool.not_eq_true', Bool.not_eq_false', Bool.not_true, Bool.not_false, Bool.not_not, Int.not_lt, Int.not_le, Nat.not_lt, Nat.not_le, gt_iff_lt, ge_iff_le, List.cons.injEq, and_true] at hg); first | (exact absurd trivial hg) | (exfalso; omega) | (have hT : True := hg; clear hT hg) | skip)))
 )
      all_goals exact ret_i rfl (pc_unit h1 h2 h3 hall' hb)
    · have hb2 := hb
      unfold unitBad at hb2
      repeat' (first
 | ((with_reducible apply aw_seq))
 | ((with_reducible apply aw_region))
 | ((with_reducible apply thn_normal))
 | ((with_reducible apply thn_exit))
 | ((with_reducible apply inb_exit))
 | ((with_reducible apply aw_skip))
 | ((with_reducible apply aw_exit))
 | ((with_reducible apply aw_ret))
 | ((with_reducible apply ao_nil))
 | ((with_reducible apply r_move); exact rfl; exact rfl)
 | ((with_reducible apply r_assign); exact rfl; exact rfl)
 | ((with_reducible apply r_field_p); exact rfl; exact rfl)
 | ((with_reducible apply r_load_p); exact rfl; exact rfl; exact rfl; exact rfl)
 | ((with_reducible apply r_lss); exact rfl; exact rfl; exact rfl)
 | ((with_reducible apply r_gtr); exact rfl; exact rfl; exact rfl)
 | ((with_reducible apply r_pick_f); exact rfl; exact rfl; exact rfl)
 | (((with_reducible apply r_guard); exact rfl; exact rfl; exact rfl; exact rfl) <;> intro hg <;> (first | (exact absurd hg (by decide)) | ((try simp only [decide_eq_true_eq, decide_eq_false_iff_not, Bool.not_eq_true', Bool.not_eq_false', Bool.not_true, Bool.not_false, Bool.not_not, Int.not_lt, Int.not_le, Nat.not_lt, Nat.not_le, gt_iff_lt, ge_iff_le, List.cons.injEq, and_true] at hg); first | (exact absurd trivial hg) | (exfalso; omega) | (have hT : True := hg; clear hT hg) | skip)))
 | (((with_reducible apply aw_cond); exact rfl) <;> intro hg <;> (first | (exact absurd hg (by decide)) | ((try simp only [decide_eq_true_eq, decide_eq_false_iff_not, Bool.not_eq_true', Bool.not_eq_false', Bool.not_true, Bool.not_false, Bool.not_not, Int.not_lt, Int.not_le, Nat.not_lt, Nat.not_le, gt_iff_lt, ge_iff_le, List.cons.injEq, and_true] at hg); first | (exact absurd trivial hg) | (exfalso; omega) | (have hT : True := hg; clear hT hg) | skip)))
 )
      all_goals exact ret_i rfl (pc_ok h1 h2 h3 hall' hb)
theorem rpcheck_con (p : Plan) (hK : p.classes.length ≤ maxLen) : Con Tryz.prog gl 13 [planV p] (I (planChk p)) := by
  have c0 := rkcheck_con (gl := gl) p.classes hK
  refine con_of Tryz.func13 rfl (by kernel_rfl) rfl ?_
  simp only [Tryz.ntmps13, Tryz.results13, argEnv, ofC, of1, List.map]
  by_cases h1 : klChk p.classes = 0
  rotate_left
  · skip
    repeat' (first
 | ((with_reducible apply r_call); exact rfl; exact rfl; exact c0; exact rfl; exact rfl)
 | ((with_reducible apply aw_seq))
 | ((with_reducible apply aw_region))
 | ((with_reducible apply thn_normal))
 | ((with_reducible apply thn_ret))
 | ((with_reducible apply aw_ret))
 | ((with_reducible apply ao_nil))
 | ((with_reducible apply r_move); exact rfl; exact rfl)
 | ((with_reducible apply r_assign); exact rfl; exact rfl)
 | ((with_reducible apply r_field_p); exact rfl; exact rfl)
 | ((with_reducible apply r_load_p); exact rfl; exact rfl; exact rfl; exact rfl)
 | ((with_reducible apply r_neq); exact rfl; exact rfl; exact rfl)
 | ((with_reducible apply r_box_a); exact rfl; exact rfl)
 | (((with_reducible apply aw_cond); exact rfl) <;> intro hg <;> (first | (exact absurd hg (by decide)) | ((try simp only [decide_eq_true_eq, decide_eq_false_iff_not, Bool.not_eq_true', Bool.not_eq_false', Bool.not_true, Bool.not_false, Bool.not_not, Int.not_lt, Int.not_le, Nat.not_lt, Nat.not_le, gt_iff_lt, ge_iff_le, List.cons.injEq, and_true] at hg); first | (exact absurd trivial hg) | (exfalso; omega) | (have hT : True := hg; clear hT hg) | skip)))
 )
    exact ret_i rfl (pc_cls h1)
  rw [h1] at c0
  by_cases h2 : p.lens.length = 0
  · skip
    repeat' (first
 | ((with_reducible apply r_call); exact rfl; exact rfl; exact c0; exact rfl; exact rfl)
 | ((with_reducible apply aw_seq))
 | ((with_reducible apply aw_region))
 | ((with_reducible apply thn_normal))
 | ((with_reducible apply thn_ret))
 | ((with_reducible apply aw_skip))
 | ((with_reducible apply aw_ret))
 | ((with_reducible apply ao_nil))
 | ((with_reducible apply r_move); exact rfl; exact rfl)
 | ((with_reducible apply r_assign); exact rfl; exact rfl)
 | ((with_reducible apply r_field_p); exact rfl; exact rfl)
 | ((with_reducible apply r_load_p); exact rfl; exact rfl; exact rfl; exact rfl)
 | ((with_reducible apply r_eql); exact rfl; exact rfl; exact rfl)
 | ((with_reducible apply r_neq); exact rfl; exact rfl; exact rfl)
 | ((with_reducible apply r_box_a); exact rfl; exact rfl)
 | ((with_reducible apply r_len_f); exact rfl; exact inferInstance; exact rfl)
 | (((with_reducible apply aw_cond); exact rfl) <;> intro hg <;> (first | (exact absurd hg (by decide)) | ((try simp only [decide_eq_true_eq, decide_eq_false_iff_not, Bool.not_eq_true', Bool.not_eq_false', Bool.not_true, Bool.not_false, Bool.not_not, Int.not_lt, Int.not_le, Nat.not_lt, Nat.not_le, gt_iff_lt, ge_iff_le, List.cons.injEq, and_true] at hg); first | (exact absurd trivial hg) | (exfalso; omega) | (have hT : True := hg; clear hT hg) | skip)))
 )
    exact ret_i rfl (pc_none h1 h2)
  by_cases h3 : 32 < p.lens.length
  · skip
    repeat' (first
 | ((with_reducible apply r_call); exact rfl; exact rfl; exact c0; exact rfl; exact rfl)
 | ((with_reducible apply aw_seq))
 | ((with_reducible apply aw_region))
 | ((with_reducible apply thn_normal))
 | ((with_reducible apply thn_ret))
 | ((with_reducible apply aw_skip))
 | ((with_reducible apply aw_ret))
 | ((with_reducible apply ao_nil))
 | ((with_reducible apply r_move); exact rfl; exact rfl)
 | ((with_reducible apply r_assign); exact rfl; exact rfl)
 | ((with_reducible apply r_field_p); exact rfl; exact rfl)
 | ((with_reducible apply r_load_p); exact rfl; exact rfl; exact rfl; exact rfl)
 | ((with_reducible apply r_gtr); exact rfl; exact rfl; exact rfl)
 | ((with_reducible apply r_eql); exact rfl; exact rfl; exact rfl)
 | ((with_reducible apply r_neq); exact rfl; exact rfl; exact rfl)
 | ((with_reducible apply r_box_a); exact rfl; exact rfl)
 | ((with_reducible apply r_len_f); exact rfl; exact inferInstance; exact rfl)
 | (((with_reducible apply aw_cond); exact rfl) <;> intro hg <;> (first | (exact absurd hg (by decide)) | ((try simp only [decide_eq_true_eq, decide_eq_false_iff_not, Bool.not_eq_true', Bool.not_eq_false', Bool.not_true, Bool.not_false, Bool.not_not, Int.not_lt, Int.not_le, Nat.not_lt, Nat.not_le, gt_iff_lt, ge_iff_le, List.cons.injEq, and_true] at hg); first | (exact absurd trivial hg) | (exfalso; omega) | (have hT : True := hg; clear hT hg) | skip)))
 )
    exact ret_i rfl (pc_long h1 h2 h3)
  repeat' (first
 | ((with_reducible apply r_call); exact rfl; exact rfl; exact c0; exact rfl; exact rfl)
 | ((with_reducible apply aw_seq))
 | ((with_reducible apply aw_region))
 | ((with_reducible apply aw_block))
 | ((with_reducible apply thn_normal))
 | ((with_reducible apply aw_skip))
 | ((with_reducible apply ao_nil))
 | ((with_reducible apply r_move); exact rfl; exact rfl)
 | ((with_reducible apply r_assign); exact rfl; exact rfl)
 | ((with_reducible apply r_field_p); exact rfl; exact rfl)
 | ((with_reducible apply r_load_p); exact rfl; exact rfl; exact rfl; exact rfl)
 | ((with_reducible apply r_gtr); exact rfl; exact rfl; exact rfl)
 | ((with_reducible apply r_eql); exact rfl; exact rfl; exact rfl)
 | ((with_reducible apply r_neq); exact rfl; exact rfl; exact rfl)
 | ((with_reducible apply r_box_a); exact rfl; exact rfl)
 | ((with_reducible apply r_len_f); exact rfl; exact inferInstance; exact rfl)
 | (((with_reducible apply aw_cond); exact rfl) <;> intro hg <;> (first | (exact absurd hg (by decide)) | ((try simp only [decide_eq_true_eq, decide_eq_false_iff_not, Bool.not_eq_true', Bool.not_eq_false', Bool.not_true, Bool.not_false, Bool.not_not, Int.not_lt, Int.not_le, Nat.not_lt, Nat.not_le, gt_iff_lt, ge_iff_le, List.cons.injEq, and_true] at hg); first | (exact absurd trivial hg) | (exfalso; omega) | (have hT : True := hg; clear hT hg) | skip)))
 )
  refine aw_loopG (G := Nat) (fun (j : Nat) => j ≤ p.lens.length ∧ ∀ i (h : i < p.lens.length), i < j → lenOk p.lens[i] = true) (fun (j : Nat) => p.lens.length - j) (fun (j : Nat) => [(1, .ptr 0 0), (4, A j)]) (fun (j : Nat) => [(0, some (.cells 25 (planA p)))]) 1 0 ?_ (by refine weak_mk rfl ?_ ?_ <;> repeat (first | exact envW_nil | exact heapW_nil | refine envW_cons rfl rfl ?_ | refine heapW_cons rfl rfl rfl ?_)) rfl ?_
  · exact ⟨Nat.zero_le _, fun _ _ h => absurd h (Nat.not_lt_zero _)⟩
  rintro j hI
  try dsimp only at hI
  try dsimp only
  obtain ⟨hj, hall⟩ := hI
  by_cases hjl : j < p.lens.length
  · by_cases hok : 1 ≤ p.lens[j] ∧ p.lens[j] ≤ 2000
    · skip
      repeat' (first
 | ((with_reducible apply aw_seq))
 | ((with_reducible apply aw_region))
 | ((with_reducible apply aw_block))
 | ((with_reducible apply thn_normal))
 | ((with_reducible apply inb_normal))
 | ((with_reducible apply aw_skip))
 | ((with_reducible apply ao_nil))
 | ((with_reducible apply r_move); exact rfl; exact rfl)
 | ((with_reducible apply r_assign); exact rfl; exact rfl)
 | ((with_reducible apply r_field_p); exact rfl; exact rfl)
 | ((with_reducible apply r_load_p); exact rfl; exact rfl; exact rfl; exact rfl)
 | ((with_reducible apply r_lss); exact rfl; exact rfl; exact rfl)
 | ((with_reducible apply r_gtr); exact rfl; exact rfl; exact rfl)
 | ((with_reducible apply r_add); exact rfl; exact rfl; exact (by first | assumption | (unfold fits; omega)); exact rfl)
 | ((with_reducible apply r_pick_f); exact rfl; exact rfl; exact rfl)
 | ((with_reducible apply r_len_f); exact rfl; exact inferInstance; exact rfl)
 | ((with_reducible apply r_index_f); exact rfl; exact inferInstance; exact rfl; exact rfl; (first | assumption | omega); exact rfl)
 | ((with_reducible apply r_load_f0); exact rfl; exact inferInstance; exact List.getElem?_eq_getElem (by first | assumption | omega); exact rfl; exact rfl)
 | (((with_reducible apply r_guard); exact rfl; exact rfl; exact rfl; exact rfl) <;> intro hg <;> (first | (exact absurd hg (by decide)) | ((try simp only [decide_eq_true_eq, decide_eq_false_iff_not, Bool.not_eq_true', Bool.not_eq_false', Bool.not_true, Bool.not_false, Bool.not_not, Int.not_lt, Int.not_le, Nat.not_lt, Nat.not_le, gt_iff_lt, ge_iff_le, List.cons.injEq, and_true] at hg); first | (exact absurd trivial hg) | (exfalso; omega) | (have hT : True := hg; clear hT hg) | skip)))
 | (((with_reducible apply aw_cond); exact rfl) <;> intro hg <;> (first | (exact absurd hg (by decide)) | ((try simp only [decide_eq_true_eq, decide_eq_false_iff_not, Bool.not_eq_true', Bool.not_eq_false', Bool.not_true, Bool.not_false, Bool.not_not, Int.not_lt, Int.not_le, Nat.not_lt, Nat.not_le, gt_iff_lt, ge_iff_le, List.cons.injEq, and_true] at hg); first | (exact absurd trivial hg) | (exfalso; omega) | (have hT : True := hg; clear hT hg) | skip)))
 )
      all_goals
        refine ⟨j + 1, ?_, ?_, by refine weak_mk rfl ?_ ?_ <;> repeat (first | exact envW_nil | exact heapW_nil | refine envW_cons rfl rfl ?_ | refine heapW_cons rfl rfl rfl ?_)⟩
        · show _ - (j + 1) < _ - j; omega
        · exact ⟨by show j + 1 ≤ _; omega, step_all hjl hall (decide_eq_true hok)⟩
    · skip
      repeat' (first
 | ((with_reducible apply aw_seq))
 | ((with_reducible apply aw_region))
 | ((with_reducible apply aw_block))
 | ((with_reducible apply thn_normal))
 | ((with_reducible apply thn_ret))
 | ((with_reducible apply inb_ret))
 | ((with_reducible apply aw_skip))
 | ((with_reducible apply aw_ret))
 | ((with_reducible apply ao_nil))
 | ((with_reducible apply r_move); exact rfl; exact rfl)
 | ((with_reducible apply r_assign); exact rfl; exact rfl)
 | ((with_reducible apply r_field_p); exact rfl; exact rfl)
 | ((with_reducible apply r_load_p); exact rfl; exact rfl; exact rfl; exact rfl)
 | ((with_reducible apply r_lss); exact rfl; exact rfl; exact rfl)
 | ((with_reducible apply r_gtr); exact rfl; exact rfl; exact rfl)
 | ((with_reducible apply r_pick_t); exact rfl; exact rfl; exact rfl)
 | ((with_reducible apply r_pick_f); exact rfl; exact rfl; exact rfl)
 | ((with_reducible apply r_len_f); exact rfl; exact inferInstance; exact rfl)
 | ((with_reducible apply r_index_f); exact rfl; exact inferInstance; exact rfl; exact rfl; (first | assumption | omega); exact rfl)
 | ((with_reducible apply r_load_f0); exact rfl; exact inferInstance; exact List.getElem?_eq_getElem (by first | assumption | omega); exact rfl; exact rfl)
 | (((with_reducible apply r_guard); exact rfl; exact rfl; exact rfl; exact rfl) <;> intro hg <;> (first | (exact absurd hg (by decide)) | ((try simp only [decide_eq_true_eq, decide_eq_false_iff_not, Bool.not_eq_true', Bool.not_eq_false', Bool.not_true, Bool.not_false, Bool.not_not, Int.not_lt, Int.not_le, Nat.not_lt, Nat.not_le, gt_iff_lt, ge_iff_le, List.cons.injEq, and_true] at hg); first | (exact absurd trivial hg) | (exfalso; omega) | (have hT : True := hg; clear hT hg) | skip)))
 | (((with_reducible apply aw_cond); exact rfl) <;> intro hg <;> (first | (exact absurd hg (by decide)) | ((try simp only [decide_eq_true_eq, decide_eq_false_iff_not, Bool.not_eq_true', Bool.not_eq_false', Bool.not_true, Bool.not_false, Bool.not_not, Int.not_lt, Int.not_le, Nat.not_lt, Nat.not_le, gt_iff_lt, ge_iff_le, List.cons.injEq, and_true] at hg); first | (exact absurd trivial hg) | (exfalso; omega) | (have hT : True := hg; clear hT hg) | skip)))
 )
      all_goals exact ret_i rfl (pc_len h1 h2 h3 hjl (decide_eq_false hok))
  · have hall' : ∀ i (h : i < p.lens.length), lenOk p.lens[i] = true := fun i hi => hall i hi (by omega)
    by_cases hb : unitBad p
    · have hb2 := hb
      unfold unitBad at hb2
      repeat' (first
 | ((with_reducible apply aw_seq))
 | ((with_reducible apply aw_region))
 | ((with_reducible apply thn_normal))
 | ((with_reducible apply thn_ret))
 | ((with_reducible apply thn_exit))
 | ((with_reducible apply inb_exit))
 | ((with_reducible apply aw_exit))
 | ((with_reducible apply aw_ret))
 | ((with_reducible apply ao_nil))
 | ((with_reducible apply r_move); exact rfl; exact rfl)
 | ((with_reducible apply r_assign); exact rfl; exact rfl)
 | ((with_reducible apply r_field_p); exact rfl; exact rfl)
 | ((with_reducible apply r_load_p); exact rfl; exact rfl; exact rfl; exact rfl)
 | ((with_reducible apply r_lss); exact rfl; exact rfl; exact rfl)
 | ((with_reducible apply r_gtr); exact rfl; exact rfl; exact rfl)
 | ((with_reducible apply r_pick_t); exact rfl; exact rfl; exact rfl)
 | ((with_reducible apply r_pick_f); exact rfl; exact rfl; exact rfl)
 | ((with_reducible apply r_len_f); exact rfl; exact inferInstance; exact rfl)
 | (((with_reducible apply r_guard); exact rfl; exact rfl; exact rfl; exact rfl) <;> intro hg <;> (first | (exact absurd hg (by decide)) | ((try simp only [decide_eq_true_eq, decide_eq_false_iff_not, Bool.not_eq_true', Bool.not_eq_false', Bool.not_true, Bool.not_false, Bool.not_not, Int.not_lt, Int.not_le, Nat.not_lt, Nat.not_le, gt_iff_lt, ge_iff_le, List.cons.injEq, and_true] at hg); first | (exact absurd trivial hg) | (exfalso; omega) | (have hT : True := hg; clear hT hg) | skip)))
 | (((with_reducible apply aw_cond); exact rfl) <;> intro hg <;> (first | (exact absurd hg (by decide)) | ((try simp only [decide_eq_true_eq, decide_eq_false_iff_not, Bool.not_eq_true', Bool.not_eq_false', Bool.not_true, Bool.not_false, Bool.not_not, Int.not_lt, Int.not_le, Nat.not_lt, Nat.not_le, gt_iff_lt, ge_iff_le, List.cons.injEq, and_true] at hg); first | (exact absurd trivial hg) | (exfalso; omega) | (have hT : True := hg; clear hT hg) | skip)))
 )
      all_goals exact ret_i rfl (pc_unit h1 h2 h3 hall' hb)
    · have hb2 := hb
      unfold unitBad at hb2
      repeat' (first
 | ((with_reducible apply aw_seq))
 | ((with_reducible apply aw_region))
 | ((with_reducible apply thn_normal))
 | ((with_reducible apply thn_exit))
 | ((with_reducible apply inb_exit))
 | ((with_reducible apply aw_skip))
 | ((with_reducible apply aw_exit))
 | ((with_reducible apply aw_ret))
 | ((with_reducible apply ao_nil))
 | ((with_reducible apply r_move); exact rfl; exact rfl)
 | ((with_reducible apply r_assign); exact rfl; exact rfl)
 | ((with_reducible apply r_field_p); exact rfl; exact rfl)
 | ((with_reducible apply r_load_p); exact rfl; exact rfl; exact rfl; exact rfl)
 | ((with_reducible apply r_lss); exact rfl; exact rfl; exact rfl)
 | ((with_reducible apply r_gtr); exact rfl; exact rfl; exact rfl)
 | ((with_reducible apply r_pick_f); exact rfl; exact rfl; exact rfl)
 | ((with_reducible apply r_len_f); exact rfl; exact inferInstance; exact rfl)
 | (((with_reducible apply r_guard); exact rfl; exact rfl; exact rfl; exact rfl) <;> intro hg <;> (first | (exact absurd hg (by decide)) | ((try simp only [decide_eq_true_eq, decide_eq_false_iff_not, Bool.not_eq_true', Bool.not_eq_false', Bool.not_true, Bool.not_false, Bool.not_not, Int.not_lt, Int.not_le, Nat.not_lt, Nat.not_le, gt_iff_lt, ge_iff_le, List.cons.injEq, and_true] at hg); first | (exact absurd trivial hg) | (exfalso; omega) | (have hT : True := hg; clear hT hg) | skip)))
 | (((with_reducible apply aw_cond); exact rfl) <;> intro hg <;> (first | (exact absurd hg (by decide)) | ((try simp only [decide_eq_true_eq, decide_eq_false_iff_not, Bool.not_eq_true', Bool.not_eq_false', Bool.not_true, Bool.not_false, Bool.not_not, Int.not_lt, Int.not_le, Nat.not_lt, Nat.not_le, gt_iff_lt, ge_iff_le, List.cons.injEq, and_true] at hg); first | (exact absurd trivial hg) | (exfalso; omega) | (have hT : True := hg; clear hT hg) | skip)))
 )
      all_goals exact ret_i rfl (pc_ok h1 h2 h3 hall' hb)
def cutD (x : Dfc) (Z : Span) : Option Dfc := if max x.z.1 Z.1 < min x.z.2 Z.2 then some ⟨x.kind, x.x, x.y, (max x.z.1 Z.1 - Z.1, min x.z.2 Z.2 - Z.1)⟩ else none
def defCut (d : List Dfc) (Z : Span) : List Dfc := d.filterMap (fun x => cutD x Z)
noncomputable def partS (s : Lg) (Z : Span) : Lg := (cutS s.1 Z, defCut s.2 Z)
theorem defCut_yes {d : List Dfc} {Z : Span} {j : Nat} (hj : j < d.length) (h : max d[j].z.1 Z.1 < min d[j].z.2 Z.2) : defCut (d.take (j + 1)) Z = defCut (d.take j) Z ++ [⟨d[j].kind, d[j].x, d[j].y, (max d[j].z.1 Z.1 - Z.1, min d[j].z.2 Z.2 - Z.1)⟩] := by
  unfold defCut
  rw [List.take_succ_eq_append_getElem hj, List.filterMap_append]
  have : cutD d[j] Z = some ⟨d[j].kind, d[j].x, d[j].y, (max d[j].z.1 Z.1 - Z.1, min d[j].z.2 Z.2 - Z.1)⟩ := if_pos h
  simp [this]
theorem defCut_no {d : List Dfc} {Z : Span} {j : Nat} (hj : j < d.length) (h : ¬ max d[j].z.1 Z.1 < min d[j].z.2 Z.2) : defCut (d.take (j + 1)) Z = defCut (d.take j) Z := by
  unfold defCut
  rw [List.take_succ_eq_append_getElem hj, List.filterMap_append]
  have : cutD d[j] Z = none := if_neg h
  simp [this]
theorem defCut_len (d : List Dfc) (Z : Span) : (defCut d Z).length ≤ d.length := List.length_filterMap_le ..
theorem defGo_iff : ∀ d : List Dfc, defGo d = 0 ↔ ∀ x ∈ d, dfChk x = 0
  | [] => by simp [defGo]
  | y :: l => by
    unfold defGo
    by_cases h : dfChk y = 0
    · rw [if_pos h, defGo_iff l]; simp [h]
    · rw [if_neg h]; simp [h]
theorem defChk_iff (d : List Dfc) : defChk d = 0 ↔ d.length ≤ 64 ∧ ∀ x ∈ d, dfChk x = 0 := by
  unfold defChk
  by_cases h : 64 < d.length
  · rw [if_pos h]; simp; omega
  · rw [if_neg h, defGo_iff]; exact ⟨fun hh => ⟨by omega, hh⟩, fun hh => hh.2⟩
theorem def_z {d : List Dfc} (h : defChk d = 0) : d.length ≤ 64 ∧ ∀ i (hi : i < d.length), 0 ≤ d[i].z.1 ∧ d[i].z.1 ≤ 20000 ∧ 0 ≤ d[i].z.2 ∧ d[i].z.2 ≤ 20000 := by
  obtain ⟨h1, h2⟩ := (defChk_iff d).1 h
  refine ⟨h1, fun i hi => ?_⟩
  have := h2 _ (List.getElem_mem hi)
  unfold dfChk at this
  split at this
  · cases this
  · split at this
    · cases this
    · split at this
      · rename_i h3
        unfold dfRange inB at h3
        simp only [Bool.and_eq_true, decide_eq_true_eq] at h3
        omega
      · cases this
theorem bmeet_con (a b : Span) : Con Tryz.prog gl 47 [spV a, spV b] (spV (meetS a b)) := by
  obtain ⟨a, a'⟩ := a
  obtain ⟨b, b'⟩ := b
  unfold meetS
  dsimp only
  refine con_of Tryz.func47 rfl (by kernel_rfl) rfl ?_
  simp only [Tryz.ntmps47, Tryz.results47, argEnv, ofC, of1, List.map]
  by_cases h : min a' b' ≤ max a b
  · rw [if_pos h]
    repeat' (first
 | ((with_reducible apply aw_seq))
 | ((with_reducible apply aw_region))
 | ((with_reducible apply thn_normal))
 | ((with_reducible apply thn_ret))
 | ((with_reducible apply aw_ret))
 | ((with_reducible apply ao_nil))
 | ((with_reducible apply r_field_p); exact rfl; exact rfl)
 | ((with_reducible apply r_load_p); exact rfl; exact rfl; exact rfl; exact rfl)
 | ((with_reducible apply r_geq); exact rfl; exact rfl; exact rfl)
 | ((with_reducible apply r_max); exact rfl; exact rfl; exact rfl)
 | ((with_reducible apply r_min); exact rfl; exact rfl; exact rfl)
 | ((with_reducible apply r_box_a); exact rfl; exact rfl)
 | ((with_reducible apply r_store_pa); exact rfl; exact rfl; exact rfl; exact rfl; exact rfl; exact rfl)
 | ((with_reducible apply r_build); exact rfl; exact rfl; exact rfl)
 | ((with_reducible apply r_alloc); exact rfl)
 | (((with_reducible apply aw_cond); exact rfl) <;> intro hg <;> (first | (exact absurd hg (by decide)) | ((try simp only [decide_eq_true_eq, decide_eq_false_iff_not, Bool.not_eq_true', Bool.not_eq_false', Bool.not_true, Bool.not_false, Bool.not_not, Int.not_lt, Int.not_le, Nat.not_lt, Nat.not_le, gt_iff_lt, ge_iff_le, List.cons.injEq, and_true] at hg); first | (exact absurd trivial hg) | (exfalso; omega) | (have hT : True := hg; clear hT hg) | skip)))
 )
    exact ret1 (.cell_a inferInstance rfl rfl rfl rfl (cl_cons cl_c (cl_cons cl_c cl_nil)))
  · rw [if_neg h]
    repeat' (first
 | ((with_reducible apply aw_seq))
 | ((with_reducible apply aw_region))
 | ((with_reducible apply thn_normal))
 | ((with_reducible apply aw_skip))
 | ((with_reducible apply aw_ret))
 | ((with_reducible apply ao_nil))
 | ((with_reducible apply r_field_p); exact rfl; exact rfl)
 | ((with_reducible apply r_load_p); exact rfl; exact rfl; exact rfl; exact rfl)
 | ((with_reducible apply r_load_pa); exact rfl; exact rfl; exact rfl; exact rfl; exact rfl)
 | ((with_reducible apply r_geq); exact rfl; exact rfl; exact rfl)
 | ((with_reducible apply r_max); exact rfl; exact rfl; exact rfl)
 | ((with_reducible apply r_min); exact rfl; exact rfl; exact rfl)
 | ((with_reducible apply r_box_a); exact rfl; exact rfl)
 | ((with_reducible apply r_store_pa); exact rfl; exact rfl; exact rfl; exact rfl; exact rfl; exact rfl)
 | ((with_reducible apply r_build); exact rfl; exact rfl; exact rfl)
 | ((with_reducible apply r_alloc); exact rfl)
 | (((with_reducible apply aw_cond); exact rfl) <;> intro hg <;> (first | (exact absurd hg (by decide)) | ((try simp only [decide_eq_true_eq, decide_eq_false_iff_not, Bool.not_eq_true', Bool.not_eq_false', Bool.not_true, Bool.not_false, Bool.not_not, Int.not_lt, Int.not_le, Nat.not_lt, Nat.not_le, gt_iff_lt, ge_iff_le, List.cons.injEq, and_true] at hg); first | (exact absurd trivial hg) | (exfalso; omega) | (have hT : True := hg; clear hT hg) | skip)))
 )
    exact ret1 (.cell_a inferInstance rfl rfl rfl rfl (cl_cons cl_c (cl_cons cl_c cl_nil)))
theorem mul_fit {a u : Int} (ha : 0 ≤ a ∧ a ≤ 4000) (hu : 1 ≤ u ∧ u ≤ 1000) : 0 ≤ a * u ∧ a * u ≤ 4000000 := mul_bd2 (m := 4000) (k := 1000) ha ⟨by omega, hu.2⟩
theorem part_con (p : Plan) (s : Lg) (q n : Int) (hq : 0 ≤ q ∧ q ≤ 2000) (hn : 0 ≤ n ∧ n ≤ 2000) (hu : 1 ≤ p.unit ∧ p.unit ≤ 1000) (hl : s.1.length ≤ maxLen) (hd : defChk s.2 = 0) : Con Tryz.prog gl 28 [planV p, lgV s, I q, I n] (lgV (partS s (q * p.unit, (q + n) * p.unit))) := by
  obtain ⟨l, d⟩ := s
  obtain ⟨K, ls, u, kf⟩ := p
  obtain ⟨d1, d2⟩ := def_z hd
  have m1 := mul_fit (a := q) (u := u) (by omega) hu
  have m2 := mul_fit (a := q + n) (u := u) (by omega) hu
  unfold partS
  dsimp only at hl d1 d2 ⊢
  generalize hz1 : q * u = z1 at m1
  generalize hz2 : (q + n) * u = z2 at m2
  have f1 : fits (q * u) := by rw [hz1]; unfold fits; omega
  have f2 : fits ((q + n) * u) := by rw [hz2]; unfold fits; omega
  have hc := scut_con (gl := gl) l hl (z1, z2)
  refine con_of Tryz.func28 rfl (by kernel_rfl) rfl ?_
  simp only [Tryz.ntmps28, Tryz.results28, argEnv, ofC, of1, List.map]
  repeat' (first
 | ((with_reducible apply r_mul); exact rfl; exact rfl; (first | exact f1 | exact f2); exact rfl; (first | rw [hz1] | rw [hz2]))
 | ((with_reducible apply r_call); exact rfl; exact rfl; exact hc; exact rfl; exact rfl)
 | ((with_reducible apply aw_seq))
 | ((with_reducible apply aw_region))
 | ((with_reducible apply aw_block))
 | ((with_reducible apply thn_normal))
 | ((with_reducible apply ao_nil))
 | ((with_reducible apply r_move); exact rfl; exact rfl)
 | ((with_reducible apply r_field_p); exact rfl; exact rfl)
 | ((with_reducible apply r_load_p); exact rfl; exact rfl; exact rfl; exact rfl)
 | ((with_reducible apply r_load_pa); exact rfl; exact rfl; exact rfl; exact rfl; exact rfl)
 | ((with_reducible apply r_add); exact rfl; exact rfl; exact (by first | assumption | (unfold fits; omega)); exact rfl)
 | ((with_reducible apply r_box_a); exact rfl; exact rfl)
 | ((with_reducible apply r_len_f); exact rfl; exact inferInstance; exact rfl)
 | ((with_reducible apply r_store_pa); exact rfl; exact rfl; exact rfl; exact rfl; exact rfl; exact rfl)
 | ((with_reducible apply r_build); exact rfl; exact rfl; exact rfl)
 | ((with_reducible apply r_alloc); exact rfl)
 )
  refine aw_nilcell 4 1 91 7 rfl rfl rfl rfl ?_
  refine aw_loopG (G := Nat × List Dfc) (fun ((j, acc) : Nat × List Dfc) => j ≤ d.length ∧ acc.length ≤ j ∧ acc = defCut (d.take j) (z1, z2)) (fun ((j, acc) : Nat × List Dfc) => d.length - j) (fun ((j, acc) : Nat × List Dfc) => [(8, .ptr 2 0), (9, .ptr 3 0), (10, .ptr 4 0), (31, .c (LD d)), (32, A d.length), (33, A j)]) (fun ((j, acc) : Nat × List Dfc) => [(2, some (.cells 42 [.c (.v (.slice none 0 0)), .c (.v (.slice none 0 0))])), (3, some (.cells 68 [A z1, A z2])), (4, some (.cells 42 [.c (LL (cutS l (z1, z2))), .vec 5 acc.length])), (5, some (.vec 91 7 (acc.flatMap dfC)))]) 6 (0, []) ?_ (by refine weak_mk rfl ?_ ?_ <;> repeat (first | exact envW_nil | exact heapW_nil | refine envW_cons rfl rfl ?_ | refine heapW_cons rfl rfl rfl ?_)) rfl ?_
  · exact ⟨Nat.zero_le _, Nat.zero_le _, rfl⟩
  rintro ⟨j, acc⟩ hI
  try dsimp only at hI
  try dsimp only
  obtain ⟨hj, hal, hacc⟩ := hI
  by_cases hjl : j < d.length
  · have hb := d2 j hjl
    have hm := bmeet_con (gl := gl) d[j].z (z1, z2)
    unfold meetS at hm
    dsimp only at hm
    by_cases hlt : max d[j].z.1 z1 < min d[j].z.2 z2
    · rw [if_neg (by omega)] at hm
      have hy := defCut_yes (Z := (z1, z2)) hjl hlt
      dsimp only at hy
      generalize hma : max d[j].z.1 z1 = ma at hm hlt hy
      generalize hmb : min d[j].z.2 z2 = mb at hm hlt hy
      repeat' (first
 | ((with_reducible apply r_call); exact rfl; exact rfl; exact hm; exact rfl; exact rfl)
 | ((with_reducible apply (r_push (enc := dfC) (x0 := (⟨d[j].kind, d[j].x, d[j].y, (ma - z1, mb - z1)⟩ : Dfc)))); exact rfl; exact rfl; exact inferInstance; exact rfl; exact rfl; exact rfl; exact rfl; exact (by omega); exact (by omega); exact rfl)
 | ((with_reducible apply aw_seq))
 | ((with_reducible apply aw_region))
 | ((with_reducible apply aw_block))
 | ((with_reducible apply thn_normal))
 | ((with_reducible apply inb_normal))
 | ((with_reducible apply aw_skip))
 | ((with_reducible apply ao_nil))
 | ((with_reducible apply r_move); exact rfl; exact rfl)
 | ((with_reducible apply r_field_p); exact rfl; exact rfl)
 | ((with_reducible apply r_load_p); exact rfl; exact rfl; exact rfl; exact rfl)
 | ((with_reducible apply r_load_pa); exact rfl; exact rfl; exact rfl; exact rfl; exact rfl)
 | ((with_reducible apply r_lss); exact rfl; exact rfl; exact rfl)
 | ((with_reducible apply r_add); exact rfl; exact rfl; exact (by first | assumption | (unfold fits; omega)); exact rfl)
 | ((with_reducible apply r_sub); exact rfl; exact rfl; exact (by first | assumption | (unfold fits; omega)); exact rfl)
 | ((with_reducible apply r_index_f); exact rfl; exact inferInstance; exact rfl; exact rfl; (first | assumption | omega); exact rfl)
 | ((with_reducible apply r_load_fa0); exact rfl; exact inferInstance; exact List.getElem?_eq_getElem (by first | assumption | omega); exact rfl; exact rfl; exact rfl)
 | ((with_reducible apply r_store_p); exact rfl; exact rfl; exact rfl; exact rfl; exact rfl; exact rfl)
 | ((with_reducible apply r_store_pa); exact rfl; exact rfl; exact rfl; exact rfl; exact rfl; exact rfl)
 | ((with_reducible apply r_build); exact rfl; exact rfl; exact rfl)
 | ((with_reducible apply r_alloc); exact rfl)
 | (((with_reducible apply aw_cond); exact rfl) <;> intro hg <;> (first | (exact absurd hg (by decide)) | ((try simp only [decide_eq_true_eq, decide_eq_false_iff_not, Bool.not_eq_true', Bool.not_eq_false', Bool.not_true, Bool.not_false, Bool.not_not, Int.not_lt, Int.not_le, Nat.not_lt, Nat.not_le, gt_iff_lt, ge_iff_le, List.cons.injEq, and_true] at hg); first | (exact absurd trivial hg) | (exfalso; omega) | (have hT : True := hg; clear hT hg) | skip)))
 | ((with_reducible apply r_eqs); exact rfl; exact rfl; exact rfl; exact rfl; exact rfl; exact rfl; exact rfl)
 | ((with_reducible apply r_lit); exact rfl; exact rfl; exact rfl; exact rfl; exact rfl; exact rfl; exact rfl)
 )
      have e2 : acc.length + 1 = (acc ++ [(⟨d[j].kind, d[j].x, d[j].y, (ma - z1, mb - z1)⟩ : Dfc)]).length := by simp
      rw [e2]
      refine ⟨(j + 1, acc ++ [⟨d[j].kind, d[j].x, d[j].y, (ma - z1, mb - z1)⟩]), ?_, ?_, by refine weak_mk rfl ?_ ?_ <;> repeat (first | exact envW_nil | exact heapW_nil | refine envW_cons rfl rfl ?_ | refine heapW_cons rfl rfl rfl ?_)⟩
      · show _ - (j + 1) < _ - j; omega
      · refine ⟨by show j + 1 ≤ _; omega, by show (acc ++ [_]).length ≤ j + 1; simp; omega, ?_⟩
        show acc ++ [_] = defCut (d.take (j + 1)) (z1, z2)
        rw [hy, hacc]
    · rw [if_pos (by omega)] at hm
      repeat' (first
 | ((with_reducible apply r_call); exact rfl; exact rfl; exact hm; exact rfl; exact rfl)
 | ((with_reducible apply aw_seq))
 | ((with_reducible apply aw_region))
 | ((with_reducible apply aw_block))
 | ((with_reducible apply thn_normal))
 | ((with_reducible apply thn_exit))
 | ((with_reducible apply inb_exit))
 | ((with_reducible apply aw_skip))
 | ((with_reducible apply aw_exit))
 | ((with_reducible apply ao_nil))
 | ((with_reducible apply r_move); exact rfl; exact rfl)
 | ((with_reducible apply r_field_p); exact rfl; exact rfl)
 | ((with_reducible apply r_load_pa); exact rfl; exact rfl; exact rfl; exact rfl; exact rfl)
 | ((with_reducible apply r_lss); exact rfl; exact rfl; exact rfl)
 | ((with_reducible apply r_add); exact rfl; exact rfl; exact (by first | assumption | (unfold fits; omega)); exact rfl)
 | ((with_reducible apply r_index_f); exact rfl; exact inferInstance; exact rfl; exact rfl; (first | assumption | omega); exact rfl)
 | ((with_reducible apply r_load_fa0); exact rfl; exact inferInstance; exact List.getElem?_eq_getElem (by first | assumption | omega); exact rfl; exact rfl; exact rfl)
 | ((with_reducible apply r_store_pa); exact rfl; exact rfl; exact rfl; exact rfl; exact rfl; exact rfl)
 | ((with_reducible apply r_build); exact rfl; exact rfl; exact rfl)
 | ((with_reducible apply r_alloc); exact rfl)
 | (((with_reducible apply aw_cond); exact rfl) <;> intro hg <;> (first | (exact absurd hg (by decide)) | ((try simp only [decide_eq_true_eq, decide_eq_false_iff_not, Bool.not_eq_true', Bool.not_eq_false', Bool.not_true, Bool.not_false, Bool.not_not, Int.not_lt, Int.not_le, Nat.not_lt, Nat.not_le, gt_iff_lt, ge_iff_le, List.cons.injEq, and_true] at hg); first | (exact absurd trivial hg) | (exfalso; omega) | (have hT : True := hg; clear hT hg) | skip)))
 | ((with_reducible apply r_eqs); exact rfl; exact rfl; exact rfl; exact rfl; exact rfl; exact rfl; exact rfl)
 )
      refine ⟨(j + 1, acc), ?_, ?_, by refine weak_mk rfl ?_ ?_ <;> repeat (first | exact envW_nil | exact heapW_nil | refine envW_cons rfl rfl ?_ | refine heapW_cons rfl rfl rfl ?_)⟩
      · show _ - (j + 1) < _ - j; omega
      · exact ⟨by show j + 1 ≤ _; omega, by show acc.length ≤ j + 1; omega, by show acc = defCut (d.take (j + 1)) (z1, z2); rw [defCut_no hjl hlt]; exact hacc⟩
  · have e : defCut d (z1, z2) = acc := by rw [hacc, List.take_of_length_le (by omega)]
    rw [e]
    repeat' (first
 | ((with_reducible apply aw_seq))
 | ((with_reducible apply aw_region))
 | ((with_reducible apply thn_normal))
 | ((with_reducible apply thn_exit))
 | ((with_reducible apply inb_exit))
 | ((with_reducible apply aw_exit))
 | ((with_reducible apply aw_ret))
 | ((with_reducible apply ao_nil))
 | ((with_reducible apply r_load_pa); exact rfl; exact rfl; exact rfl; exact rfl; exact rfl)
 | ((with_reducible apply r_lss); exact rfl; exact rfl; exact rfl)
 | ((with_reducible apply r_store_pa); exact rfl; exact rfl; exact rfl; exact rfl; exact rfl; exact rfl)
 | (((with_reducible apply aw_cond); exact rfl) <;> intro hg <;> (first | (exact absurd hg (by decide)) | ((try simp only [decide_eq_true_eq, decide_eq_false_iff_not, Bool.not_eq_true', Bool.not_eq_false', Bool.not_true, Bool.not_false, Bool.not_not, Int.not_lt, Int.not_le, Nat.not_lt, Nat.not_le, gt_iff_lt, ge_iff_le, List.cons.injEq, and_true] at hg); first | (exact absurd trivial hg) | (exfalso; omega) | (have hT : True := hg; clear hT hg) | skip)))
 )
    exact ret1 (.cell_a inferInstance rfl rfl rfl rfl (cl_cons cl_c (cl_cons (cl_vec rfl (flat_len EncL.len _)) cl_nil)))
end Go.Proofs.YtkhljpbkebnnmaaGreatDoor.Bu
/- Walks of bucking: Line. -/
namespace Go.Proofs.YtkhljpbkebnnmaaGreatDoor.Bu
set_option linter.unusedVariables false
set_option linter.unusedSimpArgs false
open Go.RowKit Go.Proofs.YtkhljpbkebnnmaaGreatDoor.Ev Go.Proofs.YtkhljpbkebnnmaaGreatDoor.Ge
variable {gl : List (Nat × List CV)}
noncomputable def gainS (p : Plan) (s : Lg) (q n : Int) : Int := priceS p.classes (partS s (q * p.unit, (q + n) * p.unit)).1 (partS s (q * p.unit, (q + n) * p.unit)).2
noncomputable def rowN (p : Plan) (s : Lg) (n : Int) (k : Nat) : List Int := (List.range k).map (fun q : Nat => gainS p s q n)
noncomputable def rowL (p : Plan) (s : Lg) (u n : Int) : List Int := rowN p s n (max 0 (u - n + 1)).toNat
noncomputable def lineOf (p : Plan) (s : Lg) (u : Int) : Cu.Line := ⟨u, p.kerf, 1, p.lens, p.lens.map (rowL p s u), List.replicate u.toNat 0, List.replicate u.toNat 0⟩
noncomputable def lineS (p : Plan) (s : Lg) : Cu.Line × Int :=
  open Classical in
  if planChk p ≠ 0 then (Cu.zeroL, planChk p) else if solChk s.1 ≠ 0 then (Cu.zeroL, solChk s.1) else if defChk s.2 ≠ 0 then (Cu.zeroL, defChk s.2) else if 2000 < lengthS s.1 / p.unit then (Cu.zeroL, 9) else (lineOf p s (lengthS s.1 / p.unit), 0)
abbrev lrC (r : Cu.Line × Int) : CV := .tup [Cu.lineC r.1, I r.2]
theorem ls_plan {p : Plan} {s : Lg} (h : ¬ planChk p = 0) : lineS p s = (Cu.zeroL, planChk p) := by unfold lineS; rw [if_pos h]
theorem ls_sol {p : Plan} {s : Lg} (h : planChk p = 0) (h2 : ¬ solChk s.1 = 0) : lineS p s = (Cu.zeroL, solChk s.1) := by unfold lineS; rw [if_neg (fun hh => hh h), if_pos h2]
theorem ls_def {p : Plan} {s : Lg} (h : planChk p = 0) (h2 : solChk s.1 = 0) (h3 : ¬ defChk s.2 = 0) : lineS p s = (Cu.zeroL, defChk s.2) := by unfold lineS; rw [if_neg (fun hh => hh h), if_neg (fun hh => hh h2), if_pos h3]
theorem ls_long {p : Plan} {s : Lg} (h : planChk p = 0) (h2 : solChk s.1 = 0) (h3 : defChk s.2 = 0) (h4 : 2000 < lengthS s.1 / p.unit) : lineS p s = (Cu.zeroL, 9) := by unfold lineS; rw [if_neg (fun hh => hh h), if_neg (fun hh => hh h2), if_neg (fun hh => hh h3), if_pos h4]
theorem ls_ok {p : Plan} {s : Lg} (h : planChk p = 0) (h2 : solChk s.1 = 0) (h3 : defChk s.2 = 0) (h4 : ¬ 2000 < lengthS s.1 / p.unit) : lineS p s = (lineOf p s (lengthS s.1 / p.unit), 0) := by unfold lineS; rw [if_neg (fun hh => hh h), if_neg (fun hh => hh h2), if_neg (fun hh => hh h3), if_neg h4]
theorem length_bd (l : List Slc) : 0 ≤ lengthS l ∧ lengthS l ≤ 20000 := by
  have := pos_bd (valL_V l) (Nat.le_refl _)
  unfold lengthS; omega
theorem rowN_len (p : Plan) (s : Lg) (n : Int) (k : Nat) : (rowN p s n k).length = k := by simp [rowN]
theorem rowN_succ (p : Plan) (s : Lg) (n : Int) (k : Nat) : rowN p s n (k + 1) = rowN p s n k ++ [gainS p s k n] := by simp [rowN, List.range_succ]
theorem part_len (s : Lg) (Z : Span) (hd : defChk s.2 = 0) : (partS s Z).1.length ≤ maxLen ∧ (partS s Z).2.length ≤ maxLen := by
  have h1 := cutS_len s.1 Z
  have h2 := defCut_len s.2 Z
  have h3 := (def_z hd).1
  unfold partS maxLen
  dsimp only
  omega
abbrev nil7 : List AV := [A 0, A 0, A 0, .c (.v (.slice none 0 0)), .c (.v (.slice none 0 0)), .c (.v (.slice none 0 0)), .c (.v (.slice none 0 0))]
theorem rows_succ (p : Plan) (s : Lg) (u : Int) (j : Nat) (hj : j < p.lens.length) : (p.lens.take (j + 1)).map (rowL p s u) = (p.lens.take j).map (rowL p s u) ++ [rowL p s u p.lens[j]] := by
  rw [List.take_succ_eq_append_getElem hj, List.map_append]; rfl
theorem bline_con (p : Plan) (s : Lg) (hK : p.classes.length ≤ maxLen) (hl : s.1.length ≤ maxLen) (hd : s.2.length ≤ maxLen) : Con Tryz.prog gl 8 [planV p, lgV s] (lrC (lineS p s)) := by
  have c0 := pcheck_con (gl := gl) p hK
  have c1 := scheck_con (gl := gl) s.1 hl
  have c2 := dcheck_con (gl := gl) s.2 hd
  have c3 := slength_con (gl := gl) s.1 hl
  refine con_of Tryz.func8 rfl (by kernel_rfl) rfl ?_
  simp only [Tryz.ntmps8, Tryz.results8, argEnv, ofC, of1, List.map]
  by_cases h0 : planChk p = 0
  rotate_left
  · rw [ls_plan h0]
    repeat' (first
 | ((with_reducible apply r_call); exact rfl; exact rfl; exact c0; exact rfl; exact rfl)
 | ((with_reducible apply aw_seq))
 | ((with_reducible apply aw_region))
 | ((with_reducible apply thn_normal))
 | ((with_reducible apply thn_ret))
 | ((with_reducible apply aw_ret))
 | ((with_reducible apply ao_nil))
 | ((with_reducible apply r_move); exact rfl; exact rfl)
 | ((with_reducible apply r_assign); exact rfl; exact rfl)
 | ((with_reducible apply r_load_pa); exact rfl; exact rfl; exact rfl; exact rfl; exact rfl)
 | ((with_reducible apply r_neq); exact rfl; exact rfl; exact rfl)
 | ((with_reducible apply r_box_a); exact rfl; exact rfl)
 | ((with_reducible apply r_store_pa); exact rfl; exact rfl; exact rfl; exact rfl; exact rfl; exact rfl)
 | ((with_reducible apply r_build); exact rfl; exact rfl; exact rfl)
 | ((with_reducible apply r_alloc); exact rfl)
 | (((with_reducible apply aw_cond); exact rfl) <;> intro hg <;> (first | (exact absurd hg (by decide)) | ((try simp only [decide_eq_true_eq, decide_eq_false_iff_not, Bool.not_eq_true', Bool.not_eq_false', Bool.not_true, Bool.not_false, Bool.not_not, Int.not_lt, Int.not_le, Nat.not_lt, Nat.not_le, gt_iff_lt, ge_iff_le, List.cons.injEq, and_true] at hg); first | (exact absurd trivial hg) | (exfalso; omega) | (have hT : True := hg; clear hT hg) | skip)))
 )
    exact ret2 (.cons (.cell_a inferInstance rfl rfl rfl rfl (cl_cons cl_c (cl_cons cl_c (cl_cons cl_c (cl_cons cl_none (cl_cons cl_none (cl_cons cl_none (cl_cons cl_none cl_nil)))))))) (.cons (.tmp rfl cl_c) .nil))
  by_cases h1 : solChk s.1 = 0
  rotate_left
  · rw [ls_sol h0 h1]
    rw [h0] at c0
    repeat' (first
 | ((with_reducible apply r_call); exact rfl; exact rfl; (first | exact c0 | exact c1); exact rfl; exact rfl)
 | ((with_reducible apply aw_seq))
 | ((with_reducible apply aw_region))
 | ((with_reducible apply thn_normal))
 | ((with_reducible apply thn_ret))
 | ((with_reducible apply aw_skip))
 | ((with_reducible apply aw_ret))
 | ((with_reducible apply ao_nil))
 | ((with_reducible apply r_move); exact rfl; exact rfl)
 | ((with_reducible apply r_assign); exact rfl; exact rfl)
 | ((with_reducible apply r_field_p); exact rfl; exact rfl)
 | ((with_reducible apply r_load_p); exact rfl; exact rfl; exact rfl; exact rfl)
 | ((with_reducible apply r_load_pa); exact rfl; exact rfl; exact rfl; exact rfl; exact rfl)
 | ((with_reducible apply r_neq); exact rfl; exact rfl; exact rfl)
 | ((with_reducible apply r_box_a); exact rfl; exact rfl)
 | ((with_reducible apply r_store_pa); exact rfl; exact rfl; exact rfl; exact rfl; exact rfl; exact rfl)
 | ((with_reducible apply r_build); exact rfl; exact rfl; exact rfl)
 | ((with_reducible apply r_alloc); exact rfl)
 | (((with_reducible apply aw_cond); exact rfl) <;> intro hg <;> (first | (exact absurd hg (by decide)) | ((try simp only [decide_eq_true_eq, decide_eq_false_iff_not, Bool.not_eq_true', Bool.not_eq_false', Bool.not_true, Bool.not_false, Bool.not_not, Int.not_lt, Int.not_le, Nat.not_lt, Nat.not_le, gt_iff_lt, ge_iff_le, List.cons.injEq, and_true] at hg); first | (exact absurd trivial hg) | (exfalso; omega) | (have hT : True := hg; clear hT hg) | skip)))
 )
    exact ret2 (.cons (.cell_a inferInstance rfl rfl rfl rfl (cl_cons cl_c (cl_cons cl_c (cl_cons cl_c (cl_cons cl_none (cl_cons cl_none (cl_cons cl_none (cl_cons cl_none cl_nil)))))))) (.cons (.tmp rfl cl_c) .nil))
  by_cases h2 : defChk s.2 = 0
  rotate_left
  · rw [ls_def h0 h1 h2]
    rw [h0] at c0
    rw [h1] at c1
    repeat' (first
 | ((with_reducible apply r_call); exact rfl; exact rfl; (first | exact c0 | exact c1 | exact c2); exact rfl; exact rfl)
 | ((with_reducible apply aw_seq))
 | ((with_reducible apply aw_region))
 | ((with_reducible apply thn_normal))
 | ((with_reducible apply thn_ret))
 | ((with_reducible apply aw_skip))
 | ((with_reducible apply aw_ret))
 | ((with_reducible apply ao_nil))
 | ((with_reducible apply r_move); exact rfl; exact rfl)
 | ((with_reducible apply r_assign); exact rfl; exact rfl)
 | ((with_reducible apply r_field_p); exact rfl; exact rfl)
 | ((with_reducible apply r_load_p); exact rfl; exact rfl; exact rfl; exact rfl)
 | ((with_reducible apply r_load_pa); exact rfl; exact rfl; exact rfl; exact rfl; exact rfl)
 | ((with_reducible apply r_neq); exact rfl; exact rfl; exact rfl)
 | ((with_reducible apply r_box_a); exact rfl; exact rfl)
 | ((with_reducible apply r_store_pa); exact rfl; exact rfl; exact rfl; exact rfl; exact rfl; exact rfl)
 | ((with_reducible apply r_build); exact rfl; exact rfl; exact rfl)
 | ((with_reducible apply r_alloc); exact rfl)
 | (((with_reducible apply aw_cond); exact rfl) <;> intro hg <;> (first | (exact absurd hg (by decide)) | ((try simp only [decide_eq_true_eq, decide_eq_false_iff_not, Bool.not_eq_true', Bool.not_eq_false', Bool.not_true, Bool.not_false, Bool.not_not, Int.not_lt, Int.not_le, Nat.not_lt, Nat.not_le, gt_iff_lt, ge_iff_le, List.cons.injEq, and_true] at hg); first | (exact absurd trivial hg) | (exfalso; omega) | (have hT : True := hg; clear hT hg) | skip)))
 )
    exact ret2 (.cons (.cell_a inferInstance rfl rfl rfl rfl (cl_cons cl_c (cl_cons cl_c (cl_cons cl_c (cl_cons cl_none (cl_cons cl_none (cl_cons cl_none (cl_cons cl_none cl_nil)))))))) (.cons (.tmp rfl cl_c) .nil))
  have pk := plan_ok h0
  have hlb := length_bd s.1
  have hu := pk.unit
  have hq : (lengthS s.1).tdiv p.unit = lengthS s.1 / p.unit := Int.tdiv_eq_ediv_of_nonneg hlb.1
  have hu0 : 0 ≤ lengthS s.1 / p.unit := Int.ediv_nonneg hlb.1 (by omega)
  have hu1 : lengthS s.1 / p.unit ≤ 20000 := Int.le_trans (Int.ediv_le_self _ hlb.1) hlb.2
  have hls := ls_long (p := p) (s := s) h0 h1 h2
  have hlo := ls_ok (p := p) (s := s) h0 h1 h2
  rw [h0] at c0
  rw [h1] at c1
  rw [h2] at c2
  obtain ⟨u, eu⟩ : ∃ u, u = lengthS s.1 / p.unit := ⟨_, rfl⟩
  rw [← eu] at hq hu0 hu1 hls hlo
  obtain ⟨L, eL⟩ : ∃ L, L = lengthS s.1 := ⟨_, rfl⟩
  rw [← eL] at c3 hq
  have hf : fits (L.tdiv p.unit) := by rw [hq]; unfold fits; omega
  by_cases hlong : 2000 < u
  · rw [hls hlong]
    repeat' (first
 | ((with_reducible apply r_call); exact rfl; exact rfl; (first | exact c0 | exact c1 | exact c2 | exact c3); exact rfl; exact rfl)
 | ((with_reducible apply r_quo); exact rfl; exact rfl; exact (by omega); exact hf; exact rfl; rw [hq])
 | ((with_reducible apply aw_seq))
 | ((with_reducible apply aw_region))
 | ((with_reducible apply thn_normal))
 | ((with_reducible apply thn_ret))
 | ((with_reducible apply aw_skip))
 | ((with_reducible apply aw_ret))
 | ((with_reducible apply ao_nil))
 | ((with_reducible apply r_move); exact rfl; exact rfl)
 | ((with_reducible apply r_assign); exact rfl; exact rfl)
 | ((with_reducible apply r_field_p); exact rfl; exact rfl)
 | ((with_reducible apply r_load_p); exact rfl; exact rfl; exact rfl; exact rfl)
 | ((with_reducible apply r_load_pa); exact rfl; exact rfl; exact rfl; exact rfl; exact rfl)
 | ((with_reducible apply r_gtr); exact rfl; exact rfl; exact rfl)
 | ((with_reducible apply r_neq); exact rfl; exact rfl; exact rfl)
 | ((with_reducible apply r_box_a); exact rfl; exact rfl)
 | ((with_reducible apply r_store_pa); exact rfl; exact rfl; exact rfl; exact rfl; exact rfl; exact rfl)
 | ((with_reducible apply r_build); exact rfl; exact rfl; exact rfl)
 | ((with_reducible apply r_alloc); exact rfl)
 | (((with_reducible apply aw_cond); exact rfl) <;> intro hg <;> (first | (exact absurd hg (by decide)) | ((try simp only [decide_eq_true_eq, decide_eq_false_iff_not, Bool.not_eq_true', Bool.not_eq_false', Bool.not_true, Bool.not_false, Bool.not_not, Int.not_lt, Int.not_le, Nat.not_lt, Nat.not_le, gt_iff_lt, ge_iff_le, List.cons.injEq, and_true] at hg); first | (exact absurd trivial hg) | (exfalso; omega) | (have hT : True := hg; clear hT hg) | skip)))
 | (refine aw_drawq ?_ ?_; (kernel_rfl))
 | ((with_reducible apply ds_nil))
 )
    exact ret2 (.cons (.cell_a inferInstance rfl rfl rfl rfl (cl_cons cl_c (cl_cons cl_c (cl_cons cl_c (cl_cons cl_none (cl_cons cl_none (cl_cons cl_none (cl_cons cl_none cl_nil)))))))) (.cons (.tmp rfl cl_c) .nil))
  rw [hlo hlong]
  have hln := pk.len
  have c4 := Cu.clone_con (gl := gl) p.lens (by omega)
  repeat' (first
 | (refine aw_drawA 7 ?_ rfl aop_alloc rfl ?_; (kernel_rfl); (simp only [List.take_succ_cons, List.take_zero, List.drop_succ_cons, List.drop_zero]))
 | ((with_reducible apply ds_nilA); exact rfl)
 | ((with_reducible apply r_call); exact rfl; exact rfl; (first | exact c0 | exact c1 | exact c2 | exact c3 | exact c4); exact rfl; exact rfl)
 | ((with_reducible apply r_quo); exact rfl; exact rfl; exact (by omega); exact hf; exact rfl; rw [hq])
 | ((with_reducible apply aw_seq))
 | ((with_reducible apply aw_region))
 | ((with_reducible apply aw_block))
 | ((with_reducible apply thn_normal))
 | ((with_reducible apply aw_skip))
 | ((with_reducible apply ao_nil))
 | ((with_reducible apply r_move); exact rfl; exact rfl)
 | ((with_reducible apply r_assign); exact rfl; exact rfl)
 | ((with_reducible apply r_field_p); exact rfl; exact rfl)
 | ((with_reducible apply r_load_p); exact rfl; exact rfl; exact rfl; exact rfl)
 | ((with_reducible apply r_load_pa); exact rfl; exact rfl; exact rfl; exact rfl; exact rfl)
 | ((with_reducible apply r_gtr); exact rfl; exact rfl; exact rfl)
 | ((with_reducible apply r_neq); exact rfl; exact rfl; exact rfl)
 | ((with_reducible apply r_box_a); exact rfl; exact rfl)
 | ((with_reducible apply r_len_f); exact rfl; exact inferInstance; exact rfl)
 | ((with_reducible apply r_store_pa); exact rfl; exact rfl; exact rfl; exact rfl; exact rfl; exact rfl)
 | ((with_reducible apply r_build); exact rfl; exact rfl; exact rfl)
 | ((with_reducible apply r_alloc); exact rfl)
 | (((with_reducible apply aw_cond); exact rfl) <;> intro hg <;> (first | (exact absurd hg (by decide)) | ((try simp only [decide_eq_true_eq, decide_eq_false_iff_not, Bool.not_eq_true', Bool.not_eq_false', Bool.not_true, Bool.not_false, Bool.not_not, Int.not_lt, Int.not_le, Nat.not_lt, Nat.not_le, gt_iff_lt, ge_iff_le, List.cons.injEq, and_true] at hg); first | (exact absurd trivial hg) | (exfalso; omega) | (have hT : True := hg; clear hT hg) | skip)))
 | (refine aw_drawq ?_ ?_; (kernel_rfl))
 | ((with_reducible apply ds_nil))
 )
  refine aw_nilcell 3 4 23 1 rfl rfl rfl rfl ?_
  refine aw_loopG (G := Nat) (fun (j : Nat) => j ≤ p.lens.length) (fun (j : Nat) => p.lens.length - j) (fun (j : Nat) => [(2, .ptr 0 0), (3, .ptr 1 0), (4, .ptr 2 0), (9, A u), (10, .ptr 3 0), (53, .c (LI p.lens)), (54, A p.lens.length), (55, A j)]) (fun (j : Nat) => [(0, some (.cells 40 (planA p))), (1, some (.cells 42 [.c (LL s.1), .c (LD s.2)])), (2, some (.cells 36 nil7)), (3, some (.cells 36 [A u, A p.kerf, A 1, .c (Cu.LI p.lens), .vec 4 j, .c (.v (.slice none 0 0)), .c (.v (.slice none 0 0))])), (4, some (.vec 23 1 (((p.lens.take j).map (rowL p s u)).flatMap Cu.rowC)))]) 5 0 ?_ (by refine weak_mk rfl ?_ ?_ <;> repeat (first | exact envW_nil | exact heapW_nil | refine envW_cons rfl rfl ?_ | refine heapW_cons rfl rfl rfl ?_)) rfl ?_
  · exact Nat.zero_le _
  rintro j hI
  try dsimp only at hI
  try dsimp only
  have hrl : ((p.lens.take j).map (rowL p s u)).length = j := by simp; omega
  by_cases hjl : j < p.lens.length
  · have hn := pk.one j hjl
    have hrs := rows_succ p s u j hjl
    obtain ⟨n, en⟩ : ∃ n, n = p.lens[j] := ⟨_, rfl⟩
    rw [← en] at hn hrs
    repeat' (first
 | (rw [← en])
 | ((with_reducible apply aw_seq))
 | ((with_reducible apply aw_region))
 | ((with_reducible apply aw_block))
 | ((with_reducible apply thn_normal))
 | ((with_reducible apply aw_skip))
 | ((with_reducible apply ao_nil))
 | ((with_reducible apply r_assign); exact rfl; exact rfl)
 | ((with_reducible apply r_lss); exact rfl; exact rfl; exact rfl)
 | ((with_reducible apply r_index_f); exact rfl; exact inferInstance; exact rfl; exact rfl; (first | assumption | omega); exact rfl)
 | ((with_reducible apply r_load_f0); exact rfl; exact inferInstance; exact List.getElem?_eq_getElem (by first | assumption | omega); exact rfl; exact rfl)
 | (((with_reducible apply aw_cond); exact rfl) <;> intro hg <;> (first | (exact absurd hg (by decide)) | ((try simp only [decide_eq_true_eq, decide_eq_false_iff_not, Bool.not_eq_true', Bool.not_eq_false', Bool.not_true, Bool.not_false, Bool.not_not, Int.not_lt, Int.not_le, Nat.not_lt, Nat.not_le, gt_iff_lt, ge_iff_le, List.cons.injEq, and_true] at hg); first | (exact absurd trivial hg) | (exfalso; omega) | (have hT : True := hg; clear hT hg) | skip)))
 )
    refine aw_nilvec 13 3 1 rfl rfl ?_
    refine aw_loopG (G := Nat) (fun (k : Nat) => (k = 0 ∨ (k : Int) + n ≤ u + 1)) (fun (k : Nat) => (u + 1 - k).toNat) (fun (k : Nat) => [(2, .ptr 0 0), (3, .ptr 1 0), (4, .ptr 2 0), (9, A u), (10, .ptr 3 0), (53, .c (LI p.lens)), (54, A p.lens.length), (55, A j), (12, A n), (13, .vec 5 k), (14, A k)]) (fun (k : Nat) => [(0, some (.cells 40 (planA p))), (1, some (.cells 42 [.c (LL s.1), .c (LD s.2)])), (2, some (.cells 36 nil7)), (3, some (.cells 36 [A u, A p.kerf, A 1, .c (Cu.LI p.lens), .vec 4 j, .c (.v (.slice none 0 0)), .c (.v (.slice none 0 0))])), (4, some (.vec 23 1 (((p.lens.take j).map (rowL p s u)).flatMap Cu.rowC))), (5, some (.vec 3 1 ((rowN p s n k).flatMap Cu.inC)))]) 6 0 ?_ (by refine weak_mk rfl ?_ ?_ <;> repeat (first | exact envW_nil | exact heapW_nil | refine envW_cons rfl rfl ?_ | refine heapW_cons rfl rfl rfl ?_)) rfl ?_
    · exact .inl rfl
    rintro k hI
    try dsimp only at hI
    try dsimp only
    by_cases hk : (k : Int) + n ≤ u
    · have cp := part_con (gl := gl) p s k n (by omega) (by omega) hu hl h2
      obtain ⟨g1, g2⟩ := part_len s ((k : Int) * p.unit, ((k : Int) + n) * p.unit) h2
      have cpr := price_con (gl := gl) p.classes (partS s ((k : Int) * p.unit, ((k : Int) + n) * p.unit)).1 (partS s ((k : Int) * p.unit, ((k : Int) + n) * p.unit)).2 hK g1 g2
      have hgn := rowN_succ p s n k
      unfold gainS at hgn
      generalize priceS p.classes (partS s ((k : Int) * p.unit, ((k : Int) + n) * p.unit)).1 (partS s ((k : Int) * p.unit, ((k : Int) + n) * p.unit)).2 = g at cpr hgn
      repeat' (first
 | ((with_reducible apply r_call); exact rfl; exact rfl; (first | exact cp | exact cpr); exact rfl; exact rfl)
 | ((with_reducible apply (r_push (enc := Cu.inC) (x0 := g))); exact rfl; exact rfl; exact inferInstance; exact (rowN_len _ _ _ _); exact rfl; exact rfl; exact rfl; exact (by omega); exact (by omega); exact rfl)
 | ((with_reducible apply aw_seq))
 | ((with_reducible apply aw_region))
 | ((with_reducible apply aw_block))
 | ((with_reducible apply thn_normal))
 | ((with_reducible apply inb_normal))
 | ((with_reducible apply aw_skip))
 | ((with_reducible apply ao_nil))
 | ((with_reducible apply r_move); exact rfl; exact rfl)
 | ((with_reducible apply r_assign); exact rfl; exact rfl)
 | ((with_reducible apply r_field_p); exact rfl; exact rfl)
 | ((with_reducible apply r_load_p); exact rfl; exact rfl; exact rfl; exact rfl)
 | ((with_reducible apply r_load_pa); exact rfl; exact rfl; exact rfl; exact rfl; exact rfl)
 | ((with_reducible apply r_leq); exact rfl; exact rfl; exact rfl)
 | ((with_reducible apply r_add); exact rfl; exact rfl; exact (by first | assumption | (unfold fits; omega)); exact rfl)
 | ((with_reducible apply r_store_pa); exact rfl; exact rfl; exact rfl; exact rfl; exact rfl; exact rfl)
 | ((with_reducible apply r_alloc); exact rfl)
 | (((with_reducible apply aw_cond); exact rfl) <;> intro hg <;> (first | (exact absurd hg (by decide)) | ((try simp only [decide_eq_true_eq, decide_eq_false_iff_not, Bool.not_eq_true', Bool.not_eq_false', Bool.not_true, Bool.not_false, Bool.not_not, Int.not_lt, Int.not_le, Nat.not_lt, Nat.not_le, gt_iff_lt, ge_iff_le, List.cons.injEq, and_true] at hg); first | (exact absurd trivial hg) | (exfalso; omega) | (have hT : True := hg; clear hT hg) | skip)))
 | ((with_reducible apply r_lit); exact rfl; exact rfl; exact rfl; exact rfl; exact rfl; exact rfl; exact rfl)
 )
      rw [← hgn]
      refine ⟨k + 1, ?_, ?_, by refine weak_mk rfl ?_ ?_ <;> repeat (first | exact envW_nil | exact heapW_nil | refine envW_cons rfl rfl ?_ | refine heapW_cons rfl rfl rfl ?_)⟩
      · show (u + 1 - ((k + 1 : Nat) : Int)).toNat < (u + 1 - k).toNat; omega
      · exact .inr (by show ((k + 1 : Nat) : Int) + n ≤ u + 1; omega)
    · have hrow : rowN p s n k = rowL p s u n := by unfold rowL; congr 1; omega
      repeat' (first
 | ((with_reducible apply (r_freeze 83)); exact rfl; exact rfl; exact (by rw [flat_len EncL.len, rowN_len]))
 | ((with_reducible apply r_litq); exact rfl; exact rfl; exact rfl; exact rfl; exact rfl; exact rfl; exact rfl)
 | ((with_reducible apply (r_appendl (enc := Cu.rowC) (l2 := [rowN p s n k]))); exact rfl; exact rfl; exact inferInstance; exact hrl; exact rfl; exact (by show j + 1 < _; omega); exact (by show (j + 1) * _ ≤ _; omega); exact rfl)
 | ((with_reducible apply aw_seq))
 | ((with_reducible apply aw_region))
 | ((with_reducible apply thn_normal))
 | ((with_reducible apply thn_exit))
 | ((with_reducible apply inb_normal))
 | ((with_reducible apply inb_exit))
 | ((with_reducible apply aw_exit))
 | ((with_reducible apply ao_nil))
 | ((with_reducible apply r_move); exact rfl; exact rfl)
 | ((with_reducible apply r_field_p); exact rfl; exact rfl)
 | ((with_reducible apply r_load_p); exact rfl; exact rfl; exact rfl; exact rfl)
 | ((with_reducible apply r_leq); exact rfl; exact rfl; exact rfl)
 | ((with_reducible apply r_add); exact rfl; exact rfl; exact (by first | assumption | (unfold fits; omega)); exact rfl)
 | ((with_reducible apply r_store_p); exact rfl; exact rfl; exact rfl; exact rfl; exact rfl; exact rfl)
 | (((with_reducible apply aw_cond); exact rfl) <;> intro hg <;> (first | (exact absurd hg (by decide)) | ((try simp only [decide_eq_true_eq, decide_eq_false_iff_not, Bool.not_eq_true', Bool.not_eq_false', Bool.not_true, Bool.not_false, Bool.not_not, Int.not_lt, Int.not_le, Nat.not_lt, Nat.not_le, gt_iff_lt, ge_iff_le, List.cons.injEq, and_true] at hg); first | (exact absurd trivial hg) | (exfalso; omega) | (have hT : True := hg; clear hT hg) | skip)))
 )
      rw [hrow, ← hrs]
      refine ⟨j + 1, ?_, ?_, by refine weak_mk rfl ?_ ?_ <;> repeat (first | exact envW_nil | exact heapW_nil | refine envW_cons rfl rfl ?_ | refine heapW_cons rfl rfl rfl ?_)⟩
      · show _ - (j + 1) < _ - j; omega
      · show j + 1 ≤ _; omega
  · obtain rfl : j = p.lens.length := by omega
    rw [List.take_length] at hrl ⊢
    repeat' (first
 | ((with_reducible apply r_make (enc := Cu.inC) (0 : Int) u.toNat); exact inferInstance; exact rfl; exact rfl; exact rfl; exact (Int.toNat_of_nonneg hu0).symm; exact (Int.toNat_of_nonneg hu0).symm; omega; omega; exact rfl)
 | ((with_reducible apply aw_seq))
 | ((with_reducible apply aw_region))
 | ((with_reducible apply thn_normal))
 | ((with_reducible apply thn_exit))
 | ((with_reducible apply inb_exit))
 | ((with_reducible apply aw_exit))
 | ((with_reducible apply aw_ret))
 | ((with_reducible apply ao_nil))
 | ((with_reducible apply r_move); exact rfl; exact rfl)
 | ((with_reducible apply r_assign); exact rfl; exact rfl)
 | ((with_reducible apply r_field_p); exact rfl; exact rfl)
 | ((with_reducible apply r_load_pa); exact rfl; exact rfl; exact rfl; exact rfl; exact rfl)
 | ((with_reducible apply r_lss); exact rfl; exact rfl; exact rfl)
 | ((with_reducible apply r_store_p); exact rfl; exact rfl; exact rfl; exact rfl; exact rfl; exact rfl)
 | ((with_reducible apply r_store_pa); exact rfl; exact rfl; exact rfl; exact rfl; exact rfl; exact rfl)
 | (((with_reducible apply aw_cond); exact rfl) <;> intro hg <;> (first | (exact absurd hg (by decide)) | ((try simp only [decide_eq_true_eq, decide_eq_false_iff_not, Bool.not_eq_true', Bool.not_eq_false', Bool.not_true, Bool.not_false, Bool.not_not, Int.not_lt, Int.not_le, Nat.not_lt, Nat.not_le, gt_iff_lt, ge_iff_le, List.cons.injEq, and_true] at hg); first | (exact absurd trivial hg) | (exfalso; omega) | (have hT : True := hg; clear hT hg) | skip)))
 )
    exact ret2 (.cons (.cell_a inferInstance rfl rfl rfl rfl (cl_cons cl_c (cl_cons cl_c (cl_cons cl_c (cl_cons cl_c (cl_cons (cl_vec rfl ((flat_len EncL.len _).trans (congrArg (· * 1) hrl))) (cl_cons (cl_vec rfl (by rw [flat_len EncL.len]; show (List.replicate u.toNat (0 : Int)).length * 1 = _; rw [List.length_replicate])) (cl_cons (cl_vec rfl (by rw [flat_len EncL.len]; show (List.replicate u.toNat (0 : Int)).length * 1 = _; rw [List.length_replicate])) cl_nil)))))))) (.cons (.tmp rfl cl_c) .nil))
end Go.Proofs.YtkhljpbkebnnmaaGreatDoor.Bu
/- Walks of bucking: the reference's part of a stem. -/
namespace Go.Proofs.YtkhljpbkebnnmaaGreatDoor.Bu
set_option linter.unusedVariables false
set_option linter.unusedSimpArgs false
open Go.RowKit Go.Proofs.YtkhljpbkebnnmaaGreatDoor.Ev Go.Proofs.YtkhljpbkebnnmaaGreatDoor.Ge
variable {gl : List (Nat × List CV)}
theorem def_xy {d : List Dfc} (h : defChk d = 0) : ∀ i (hi : i < d.length), (-600 ≤ d[i].x.1 ∧ d[i].x.1 ≤ 600 ∧ -600 ≤ d[i].x.2 ∧ d[i].x.2 ≤ 600) ∧ (-600 ≤ d[i].y.1 ∧ d[i].y.1 ≤ 600 ∧ -600 ≤ d[i].y.2 ∧ d[i].y.2 ≤ 600) := by
  obtain ⟨h1, h2⟩ := (defChk_iff d).1 h
  intro i hi
  have := h2 _ (List.getElem_mem hi)
  unfold dfChk at this
  split at this
  · cases this
  · split at this
    · cases this
    · split at this
      · rename_i h3
        unfold dfRange inB at h3
        simp only [Bool.and_eq_true, decide_eq_true_eq] at h3
        omega
      · cases this
theorem r3meet_con (a b : Span) : Con Tryz.prog gl 85 [spV a, spV b] (spV (meetS a b)) := by
  obtain ⟨a, a'⟩ := a
  obtain ⟨b, b'⟩ := b
  unfold meetS
  dsimp only
  refine con_of Tryz.func85 rfl (by kernel_rfl) rfl ?_
  simp only [Tryz.ntmps85, Tryz.results85, argEnv, ofC, of1, List.map]
  by_cases h : min a' b' ≤ max a b
  · rw [if_pos h]
    repeat' (first
 | ((with_reducible apply aw_seq))
 | ((with_reducible apply aw_region))
 | ((with_reducible apply thn_normal))
 | ((with_reducible apply thn_ret))
 | ((with_reducible apply aw_ret))
 | ((with_reducible apply ao_nil))
 | ((with_reducible apply r_field_p); exact rfl; exact rfl)
 | ((with_reducible apply r_load_p); exact rfl; exact rfl; exact rfl; exact rfl)
 | ((with_reducible apply r_geq); exact rfl; exact rfl; exact rfl)
 | ((with_reducible apply r_max); exact rfl; exact rfl; exact rfl)
 | ((with_reducible apply r_min); exact rfl; exact rfl; exact rfl)
 | ((with_reducible apply r_box_a); exact rfl; exact rfl)
 | ((with_reducible apply r_store_pa); exact rfl; exact rfl; exact rfl; exact rfl; exact rfl; exact rfl)
 | ((with_reducible apply r_build); exact rfl; exact rfl; exact rfl)
 | ((with_reducible apply r_alloc); exact rfl)
 | (((with_reducible apply aw_cond); exact rfl) <;> intro hg <;> (first | (exact absurd hg (by decide)) | ((try simp only [decide_eq_true_eq, decide_eq_false_iff_not, Bool.not_eq_true', Bool.not_eq_false', Bool.not_true, Bool.not_false, Bool.not_not, Int.not_lt, Int.not_le, Nat.not_lt, Nat.not_le, gt_iff_lt, ge_iff_le, List.cons.injEq, and_true] at hg); first | (exact absurd trivial hg) | (exfalso; omega) | (have hT : True := hg; clear hT hg) | skip)))
 )
    exact ret1 (.cell_a inferInstance rfl rfl rfl rfl (cl_cons cl_c (cl_cons cl_c cl_nil)))
  · rw [if_neg h]
    repeat' (first
 | ((with_reducible apply aw_seq))
 | ((with_reducible apply aw_region))
 | ((with_reducible apply thn_normal))
 | ((with_reducible apply aw_skip))
 | ((with_reducible apply aw_ret))
 | ((with_reducible apply ao_nil))
 | ((with_reducible apply r_field_p); exact rfl; exact rfl)
 | ((with_reducible apply r_load_p); exact rfl; exact rfl; exact rfl; exact rfl)
 | ((with_reducible apply r_load_pa); exact rfl; exact rfl; exact rfl; exact rfl; exact rfl)
 | ((with_reducible apply r_geq); exact rfl; exact rfl; exact rfl)
 | ((with_reducible apply r_max); exact rfl; exact rfl; exact rfl)
 | ((with_reducible apply r_min); exact rfl; exact rfl; exact rfl)
 | ((with_reducible apply r_box_a); exact rfl; exact rfl)
 | ((with_reducible apply r_store_pa); exact rfl; exact rfl; exact rfl; exact rfl; exact rfl; exact rfl)
 | ((with_reducible apply r_build); exact rfl; exact rfl; exact rfl)
 | ((with_reducible apply r_alloc); exact rfl)
 | (((with_reducible apply aw_cond); exact rfl) <;> intro hg <;> (first | (exact absurd hg (by decide)) | ((try simp only [decide_eq_true_eq, decide_eq_false_iff_not, Bool.not_eq_true', Bool.not_eq_false', Bool.not_true, Bool.not_false, Bool.not_not, Int.not_lt, Int.not_le, Nat.not_lt, Nat.not_le, gt_iff_lt, ge_iff_le, List.cons.injEq, and_true] at hg); first | (exact absurd trivial hg) | (exfalso; omega) | (have hT : True := hg; clear hT hg) | skip)))
 )
    exact ret1 (.cell_a inferInstance rfl rfl rfl rfl (cl_cons cl_c (cl_cons cl_c cl_nil)))
theorem rby_con (a b n : Int) (h : -100000000 ≤ a ∧ a ≤ 100000000 ∧ -100000000 ≤ b ∧ b ≤ 100000000 ∧ -100000000 ≤ n ∧ n ≤ 100000000) : Con Tryz.prog gl 110 [.agg [I a, I b], I n] (.agg [I (a + n), I (b + n)]) := by
  refine con_of Tryz.func110 rfl (by kernel_rfl) rfl ?_
  simp only [Tryz.ntmps110, Tryz.results110, argEnv, ofC, of1, List.map]
  repeat' (first
 | ((with_reducible apply aw_seq))
 | ((with_reducible apply aw_region))
 | ((with_reducible apply thn_normal))
 | ((with_reducible apply aw_ret))
 | ((with_reducible apply ao_nil))
 | ((with_reducible apply r_move); exact rfl; exact rfl)
 | ((with_reducible apply r_field_p); exact rfl; exact rfl)
 | ((with_reducible apply r_load_p); exact rfl; exact rfl; exact rfl; exact rfl)
 | ((with_reducible apply r_add); exact rfl; exact rfl; exact (by first | assumption | (unfold fits; omega)); exact rfl)
 | ((with_reducible apply r_box_a); exact rfl; exact rfl)
 | ((with_reducible apply r_store_pa); exact rfl; exact rfl; exact rfl; exact rfl; exact rfl; exact rfl)
 | ((with_reducible apply r_build); exact rfl; exact rfl; exact rfl)
 | ((with_reducible apply r_alloc); exact rfl)
 )
  exact ret1 (.cell_a inferInstance rfl rfl rfl rfl (cl_cons cl_c (cl_cons cl_c cl_nil)))
theorem rmove_con (x y : Span) (a b n : Int) (hx : -600 ≤ x.1 ∧ x.1 ≤ 600 ∧ -600 ≤ x.2 ∧ x.2 ≤ 600) (hy : -600 ≤ y.1 ∧ y.1 ≤ 600 ∧ -600 ≤ y.2 ∧ y.2 ≤ 600) (h : -100000000 ≤ a ∧ a ≤ 100000000 ∧ -100000000 ≤ b ∧ b ≤ 100000000 ∧ -100000000 ≤ n ∧ n ≤ 100000000) : Con Tryz.prog gl 86 [.agg [I x.1, I x.2, I y.1, I y.2, I a, I b], I 0, I 0, I n] (.agg [I x.1, I x.2, I y.1, I y.2, I (a + n), I (b + n)]) := by
  obtain ⟨x, x'⟩ := x
  obtain ⟨y, y'⟩ := y
  dsimp only at hx hy ⊢
  have c1 := rby_con (gl := gl) x x' 0 (by omega)
  have c2 := rby_con (gl := gl) y y' 0 (by omega)
  have c3 := rby_con (gl := gl) a b n h
  rw [Int.add_zero, Int.add_zero] at c1 c2
  refine con_of Tryz.func86 rfl (by kernel_rfl) rfl ?_
  simp only [Tryz.ntmps86, Tryz.results86, argEnv, ofC, of1, List.map]
  repeat' (first
 | (refine aw_drawt 13 ?_ ?_; (kernel_rfl); (simp only [List.take_succ_cons, List.take_zero, List.drop_succ_cons, List.drop_zero]))
 | ((with_reducible apply r_call); exact rfl; exact rfl; (first | exact c1 | exact c2 | exact c3); exact rfl; exact rfl)
 | ((with_reducible apply aw_seq))
 | ((with_reducible apply aw_region))
 | ((with_reducible apply thn_normal))
 | ((with_reducible apply aw_ret))
 | ((with_reducible apply ao_nil))
 | ((with_reducible apply r_move); exact rfl; exact rfl)
 | ((with_reducible apply r_field_p); exact rfl; exact rfl)
 | ((with_reducible apply r_load_pa); exact rfl; exact rfl; exact rfl; exact rfl; exact rfl)
 | ((with_reducible apply r_box_a); exact rfl; exact rfl)
 | ((with_reducible apply r_store_pa); exact rfl; exact rfl; exact rfl; exact rfl; exact rfl; exact rfl)
 | ((with_reducible apply r_build); exact rfl; exact rfl; exact rfl)
 | ((with_reducible apply r_alloc); exact rfl)
 | ((with_reducible apply ds_nil))
 )
  all_goals exact ret1 (.cell_a inferInstance rfl rfl rfl rfl (cl_cons cl_c (cl_cons cl_c (cl_cons cl_c (cl_cons cl_c (cl_cons cl_c (cl_cons cl_c cl_nil)))))))
theorem rPart_con (s : Lg) (z1 z2 : Int) (hz : 0 ≤ z1 ∧ z1 ≤ 4000000 ∧ 0 ≤ z2 ∧ z2 ≤ 4000000) (hl : s.1.length ≤ maxLen) (hd : defChk s.2 = 0) : Con Tryz.prog gl 52 [lgV s, .agg [I z1, I z2]] (lgV (partS s (z1, z2))) := by
  obtain ⟨l, d⟩ := s
  obtain ⟨d1, d2⟩ := def_z hd
  have d3 := def_xy hd
  unfold partS
  dsimp only at hl d1 d2 d3 ⊢
  have hc := rscut_con (gl := gl) l hl (z1, z2) (by unfold fits; dsimp only; omega)
  refine con_of Tryz.func52 rfl (by kernel_rfl) rfl ?_
  simp only [Tryz.ntmps52, Tryz.results52, argEnv, ofC, of1, List.map]
  repeat' (first
 | ((with_reducible apply r_call); exact rfl; exact rfl; exact hc; exact rfl; exact rfl)
 | ((with_reducible apply aw_seq))
 | ((with_reducible apply aw_region))
 | ((with_reducible apply aw_block))
 | ((with_reducible apply thn_normal))
 | ((with_reducible apply ao_nil))
 | ((with_reducible apply r_assign); exact rfl; exact rfl)
 | ((with_reducible apply r_field_p); exact rfl; exact rfl)
 | ((with_reducible apply r_load_p); exact rfl; exact rfl; exact rfl; exact rfl)
 | ((with_reducible apply r_load_pa); exact rfl; exact rfl; exact rfl; exact rfl; exact rfl)
 | ((with_reducible apply r_box_a); exact rfl; exact rfl)
 | ((with_reducible apply r_store_pa); exact rfl; exact rfl; exact rfl; exact rfl; exact rfl; exact rfl)
 | ((with_reducible apply r_build); exact rfl; exact rfl; exact rfl)
 | ((with_reducible apply r_alloc); exact rfl)
 )
  refine aw_nilcell 3 1 91 7 rfl rfl rfl rfl ?_
  refine aw_loopG (G := Nat × List Dfc) (fun ((j, acc) : Nat × List Dfc) => j ≤ d.length ∧ acc.length ≤ j ∧ acc = defCut (d.take j) (z1, z2)) (fun ((j, acc) : Nat × List Dfc) => d.length - j) (fun ((j, acc) : Nat × List Dfc) => [(2, .ptr 0 0), (3, .ptr 1 0), (4, .ptr 2 0), (5, .ptr 3 0), (6, A j)]) (fun ((j, acc) : Nat × List Dfc) => [(0, some (.cells 29 [.c (LL l), .c (LD d)])), (1, some (.cells 68 [A z1, A z2])), (2, some (.cells 29 [.c (.v (.slice none 0 0)), .c (.v (.slice none 0 0))])), (3, some (.cells 29 [.c (LL (cutS l (z1, z2))), .vec 4 acc.length])), (4, some (.vec 91 7 (acc.flatMap dfC)))]) 5 (0, []) ?_ (by refine weak_mk rfl ?_ ?_ <;> repeat (first | exact envW_nil | exact heapW_nil | refine envW_cons rfl rfl ?_ | refine heapW_cons rfl rfl rfl ?_)) rfl ?_
  · exact ⟨Nat.zero_le _, Nat.zero_le _, rfl⟩
  rintro ⟨j, acc⟩ hI
  try dsimp only at hI
  try dsimp only
  obtain ⟨hj, hal, hacc⟩ := hI
  by_cases hjl : j < d.length
  · have hb := d2 j hjl
    obtain ⟨hbx, hby⟩ := d3 j hjl
    have hm := r3meet_con (gl := gl) d[j].z (z1, z2)
    unfold meetS at hm
    dsimp only at hm
    by_cases hlt : max d[j].z.1 z1 < min d[j].z.2 z2
    · rw [if_neg (by omega)] at hm
      have hy := defCut_yes (Z := (z1, z2)) hjl hlt
      dsimp only at hy
      have hma1 : 0 ≤ max d[j].z.1 z1 ∧ max d[j].z.1 z1 ≤ 4000000 ∧ 0 ≤ min d[j].z.2 z2 ∧ min d[j].z.2 z2 ≤ 4000000 := by omega
      generalize hma : max d[j].z.1 z1 = ma at hm hlt hy hma1
      generalize hmb : min d[j].z.2 z2 = mb at hm hlt hy hma1
      have hmv : Con Tryz.prog gl 86 [.agg [I d[j].x.1, I d[j].x.2, I d[j].y.1, I d[j].y.2, I ma, I mb], I 0, I 0, I (-z1)] (.agg [I d[j].x.1, I d[j].x.2, I d[j].y.1, I d[j].y.2, I (ma - z1), I (mb - z1)]) := rmove_con d[j].x d[j].y ma mb (-z1) hbx hby (by omega)
      repeat' (first
 | ((with_reducible apply r_call); exact rfl; exact rfl; (first | exact hm | exact hmv); exact rfl; exact rfl)
 | ((with_reducible apply (r_push (enc := dfC) (x0 := (⟨d[j].kind, d[j].x, d[j].y, (ma - z1, mb - z1)⟩ : Dfc)))); exact rfl; exact rfl; exact inferInstance; exact rfl; exact rfl; exact rfl; exact rfl; exact (by omega); exact (by omega); exact rfl)
 | ((with_reducible apply aw_seq))
 | ((with_reducible apply aw_region))
 | ((with_reducible apply aw_block))
 | ((with_reducible apply thn_normal))
 | ((with_reducible apply inb_normal))
 | ((with_reducible apply aw_skip))
 | ((with_reducible apply ao_nil))
 | ((with_reducible apply r_move); exact rfl; exact rfl)
 | ((with_reducible apply r_assign); exact rfl; exact rfl)
 | ((with_reducible apply r_field_p); exact rfl; exact rfl)
 | ((with_reducible apply r_load_p); exact rfl; exact rfl; exact rfl; exact rfl)
 | ((with_reducible apply r_load_pa); exact rfl; exact rfl; exact rfl; exact rfl; exact rfl)
 | ((with_reducible apply r_lss); exact rfl; exact rfl; exact rfl)
 | ((with_reducible apply r_add); exact rfl; exact rfl; exact (by first | assumption | (unfold fits; omega)); exact rfl)
 | ((with_reducible apply r_len_f); exact rfl; exact inferInstance; exact rfl)
 | ((with_reducible apply r_index_f); exact rfl; exact inferInstance; exact rfl; exact rfl; (first | assumption | omega); exact rfl)
 | ((with_reducible apply r_load_fa0); exact rfl; exact inferInstance; exact List.getElem?_eq_getElem (by first | assumption | omega); exact rfl; exact rfl; exact rfl)
 | ((with_reducible apply r_store_p); exact rfl; exact rfl; exact rfl; exact rfl; exact rfl; exact rfl)
 | ((with_reducible apply r_store_pa); exact rfl; exact rfl; exact rfl; exact rfl; exact rfl; exact rfl)
 | ((with_reducible apply r_alloc); exact rfl)
 | (((with_reducible apply aw_cond); exact rfl) <;> intro hg <;> (first | (exact absurd hg (by decide)) | ((try simp only [decide_eq_true_eq, decide_eq_false_iff_not, Bool.not_eq_true', Bool.not_eq_false', Bool.not_true, Bool.not_false, Bool.not_not, Int.not_lt, Int.not_le, Nat.not_lt, Nat.not_le, gt_iff_lt, ge_iff_le, List.cons.injEq, and_true] at hg); first | (exact absurd trivial hg) | (exfalso; omega) | (have hT : True := hg; clear hT hg) | skip)))
 | ((with_reducible apply r_lit); exact rfl; exact rfl; exact rfl; exact rfl; exact rfl; exact rfl; exact rfl)
 | ((with_reducible apply r_neg); exact rfl; exact (by first | assumption | (unfold fits; omega)); exact rfl)
 )
      have e2 : acc.length + 1 = (acc ++ [(⟨d[j].kind, d[j].x, d[j].y, (ma - z1, mb - z1)⟩ : Dfc)]).length := by simp
      rw [e2]
      refine ⟨(j + 1, acc ++ [⟨d[j].kind, d[j].x, d[j].y, (ma - z1, mb - z1)⟩]), ?_, ?_, by refine weak_mk rfl ?_ ?_ <;> repeat (first | exact envW_nil | exact heapW_nil | refine envW_cons rfl rfl ?_ | refine heapW_cons rfl rfl rfl ?_)⟩
      · show _ - (j + 1) < _ - j; omega
      · refine ⟨by show j + 1 ≤ _; omega, by show (acc ++ [_]).length ≤ j + 1; simp; omega, ?_⟩
        show acc ++ [_] = defCut (d.take (j + 1)) (z1, z2)
        rw [hy, hacc]
    · rw [if_pos (by omega)] at hm
      repeat' (first
 | ((with_reducible apply r_call); exact rfl; exact rfl; exact hm; exact rfl; exact rfl)
 | ((with_reducible apply aw_seq))
 | ((with_reducible apply aw_region))
 | ((with_reducible apply aw_block))
 | ((with_reducible apply thn_normal))
 | ((with_reducible apply inb_normal))
 | ((with_reducible apply aw_skip))
 | ((with_reducible apply ao_nil))
 | ((with_reducible apply r_move); exact rfl; exact rfl)
 | ((with_reducible apply r_assign); exact rfl; exact rfl)
 | ((with_reducible apply r_field_p); exact rfl; exact rfl)
 | ((with_reducible apply r_load_p); exact rfl; exact rfl; exact rfl; exact rfl)
 | ((with_reducible apply r_load_pa); exact rfl; exact rfl; exact rfl; exact rfl; exact rfl)
 | ((with_reducible apply r_lss); exact rfl; exact rfl; exact rfl)
 | ((with_reducible apply r_add); exact rfl; exact rfl; exact (by first | assumption | (unfold fits; omega)); exact rfl)
 | ((with_reducible apply r_len_f); exact rfl; exact inferInstance; exact rfl)
 | ((with_reducible apply r_index_f); exact rfl; exact inferInstance; exact rfl; exact rfl; (first | assumption | omega); exact rfl)
 | ((with_reducible apply r_load_fa0); exact rfl; exact inferInstance; exact List.getElem?_eq_getElem (by first | assumption | omega); exact rfl; exact rfl; exact rfl)
 | ((with_reducible apply r_store_pa); exact rfl; exact rfl; exact rfl; exact rfl; exact rfl; exact rfl)
 | ((with_reducible apply r_alloc); exact rfl)
 | (((with_reducible apply aw_cond); exact rfl) <;> intro hg <;> (first | (exact absurd hg (by decide)) | ((try simp only [decide_eq_true_eq, decide_eq_false_iff_not, Bool.not_eq_true', Bool.not_eq_false', Bool.not_true, Bool.not_false, Bool.not_not, Int.not_lt, Int.not_le, Nat.not_lt, Nat.not_le, gt_iff_lt, ge_iff_le, List.cons.injEq, and_true] at hg); first | (exact absurd trivial hg) | (exfalso; omega) | (have hT : True := hg; clear hT hg) | skip)))
 )
      refine ⟨(j + 1, acc), ?_, ?_, by refine weak_mk rfl ?_ ?_ <;> repeat (first | exact envW_nil | exact heapW_nil | refine envW_cons rfl rfl ?_ | refine heapW_cons rfl rfl rfl ?_)⟩
      · show _ - (j + 1) < _ - j; omega
      · exact ⟨by show j + 1 ≤ _; omega, by show acc.length ≤ j + 1; omega, by show acc = defCut (d.take (j + 1)) (z1, z2); rw [defCut_no hjl hlt]; exact hacc⟩
  · have e : defCut d (z1, z2) = acc := by rw [hacc, List.take_of_length_le (by omega)]
    rw [e]
    repeat' (first
 | ((with_reducible apply aw_seq))
 | ((with_reducible apply aw_region))
 | ((with_reducible apply thn_normal))
 | ((with_reducible apply thn_exit))
 | ((with_reducible apply inb_exit))
 | ((with_reducible apply aw_exit))
 | ((with_reducible apply aw_ret))
 | ((with_reducible apply ao_nil))
 | ((with_reducible apply r_move); exact rfl; exact rfl)
 | ((with_reducible apply r_field_p); exact rfl; exact rfl)
 | ((with_reducible apply r_load_p); exact rfl; exact rfl; exact rfl; exact rfl)
 | ((with_reducible apply r_load_pa); exact rfl; exact rfl; exact rfl; exact rfl; exact rfl)
 | ((with_reducible apply r_lss); exact rfl; exact rfl; exact rfl)
 | ((with_reducible apply r_len_f); exact rfl; exact inferInstance; exact rfl)
 | ((with_reducible apply r_store_pa); exact rfl; exact rfl; exact rfl; exact rfl; exact rfl; exact rfl)
 | (((with_reducible apply aw_cond); exact rfl) <;> intro hg <;> (first | (exact absurd hg (by decide)) | ((try simp only [decide_eq_true_eq, decide_eq_false_iff_not, Bool.not_eq_true', Bool.not_eq_false', Bool.not_true, Bool.not_false, Bool.not_not, Int.not_lt, Int.not_le, Nat.not_lt, Nat.not_le, gt_iff_lt, ge_iff_le, List.cons.injEq, and_true] at hg); first | (exact absurd trivial hg) | (exfalso; omega) | (have hT : True := hg; clear hT hg) | skip)))
 )
    exact ret1 (.cell_a inferInstance rfl rfl rfl rfl (cl_cons cl_c (cl_cons (cl_vec rfl (flat_len EncL.len _)) cl_nil)))
theorem rpart_con (p : Plan) (s : Lg) (q n : Int) (hq : 0 ≤ q ∧ q ≤ 2000) (hn : 0 ≤ n ∧ n ≤ 2000) (hu : 1 ≤ p.unit ∧ p.unit ≤ 1000) (hl : s.1.length ≤ maxLen) (hd : defChk s.2 = 0) : Con Tryz.prog gl 31 [planV p, lgV s, I q, I n] (lgV (partS s (q * p.unit, (q + n) * p.unit))) := by
  obtain ⟨K, ls, u, kf⟩ := p
  have m1 := mul_fit (a := q) (u := u) (by omega) hu
  have m2 := mul_fit (a := q + n) (u := u) (by omega) hu
  have c0 := rPart_con (gl := gl) s (q * u) ((q + n) * u) (by omega) hl hd
  dsimp only
  generalize partS s (q * u, (q + n) * u) = r at c0 ⊢
  generalize hz1 : q * u = z1 at m1 c0
  generalize hz2 : (q + n) * u = z2 at m2 c0
  have f1 : fits (q * u) := by rw [hz1]; unfold fits; omega
  have f2 : fits ((q + n) * u) := by rw [hz2]; unfold fits; omega
  refine con_of Tryz.func31 rfl (by kernel_rfl) rfl ?_
  simp only [Tryz.ntmps31, Tryz.results31, argEnv, ofC, of1, List.map]
  repeat' (first
 | ((with_reducible apply r_mul); exact rfl; exact rfl; (first | exact f1 | exact f2); exact rfl; (first | rw [hz1] | rw [hz2]))
 | ((with_reducible apply r_call); exact rfl; exact rfl; exact c0; exact rfl; exact rfl)
 | ((with_reducible apply aw_seq))
 | ((with_reducible apply aw_region))
 | ((with_reducible apply thn_normal))
 | ((with_reducible apply aw_ret))
 | ((with_reducible apply ao_nil))
 | ((with_reducible apply r_move); exact rfl; exact rfl)
 | ((with_reducible apply r_field_p); exact rfl; exact rfl)
 | ((with_reducible apply r_load_p); exact rfl; exact rfl; exact rfl; exact rfl)
 | ((with_reducible apply r_load_pa); exact rfl; exact rfl; exact rfl; exact rfl; exact rfl)
 | ((with_reducible apply r_add); exact rfl; exact rfl; exact (by first | assumption | (unfold fits; omega)); exact rfl)
 | ((with_reducible apply r_box_a); exact rfl; exact rfl)
 | ((with_reducible apply r_store_pa); exact rfl; exact rfl; exact rfl; exact rfl; exact rfl; exact rfl)
 | ((with_reducible apply r_build); exact rfl; exact rfl; exact rfl)
 | ((with_reducible apply r_alloc); exact rfl)
 )
  exact ret1 (.cell_a inferInstance rfl rfl rfl rfl (cl_cons cl_c (cl_cons cl_c cl_nil)))
end Go.Proofs.YtkhljpbkebnnmaaGreatDoor.Bu
/- Walks of bucking: Best, Logs, sum, light. -/
namespace Go.Proofs.YtkhljpbkebnnmaaGreatDoor.Bu
set_option linter.unusedVariables false
set_option linter.unusedSimpArgs false
open Go.RowKit Go.Proofs.YtkhljpbkebnnmaaGreatDoor.Ev Go.Proofs.YtkhljpbkebnnmaaGreatDoor.Ge
variable {gl : List (Nat × List CV)}
theorem priceS_bd (K : List Kl) (l : List Slc) (d : List Dfc) : 0 ≤ priceS K l d ∧ priceS K l d ≤ 700000000 := by
  rcases of_cases K l d with h | ⟨i, hi, hk, h, _, _⟩
  · rw [priceS_none h]; decide
  · rw [priceS_some hi h]
    have hp := price_bd (kl_ok hk K[i] (List.getElem_mem _))
    have hm := mulp_bd hp (volS_bd l)
    omega
theorem rowL_len (p : Plan) (s : Lg) (u n : Int) : (rowL p s u n).length = (max 0 (u - n + 1)).toNat := rowN_len ..
theorem rowL_get (p : Plan) (s : Lg) (u n : Int) (k : Nat) (h : k < (rowL p s u n).length) : (rowL p s u n)[k] = gainS p s k n := by simp [rowL, rowN]
theorem rowL_small (p : Plan) (s : Lg) (u n : Int) : Cu.smallL (rowL p s u n) = true := by
  unfold Cu.smallL
  refine all_of (fun i hi => ?_)
  rw [rowL_get]
  have := priceS_bd p.classes (partS s ((i : Int) * p.unit, ((i : Int) + n) * p.unit)).1 (partS s ((i : Int) * p.unit, ((i : Int) + n) * p.unit)).2
  unfold Cu.smallN gainS
  rw [decide_eq_true (by omega), decide_eq_true (by omega)]; rfl
theorem zeros_small (n : Nat) : Cu.smallL (List.replicate n 0) = true := by
  unfold Cu.smallL
  refine all_of (fun i hi => ?_)
  rw [List.getElem_replicate]; rfl
theorem line_chk {p : Plan} (pk : PlanOk p) (s : Lg) {u : Int} (hu : 0 ≤ u ∧ u ≤ 2000) : Cu.chk (lineOf p s u) = 0 := by
  have hk := pk.kerf
  have hm : Cu.measS (lineOf p s u) = 0 := by
    unfold Cu.measS
    rw [if_neg (by unfold Cu.headBad lineOf; dsimp only; omega), if_neg (by unfold lineOf; dsimp only; have := pk.len; omega), if_pos]
    show p.lens.all Cu.sizeOk = true
    refine all_of (fun i hi => ?_)
    have := pk.one i hi
    unfold Cu.sizeOk
    rw [decide_eq_true this.1, decide_eq_true this.2]; rfl
  unfold Cu.chk
  rw [if_neg (fun hh => hh hm), if_pos]
  · rw [if_pos]
    show ((p.lens.map (rowL p s u)).all Cu.smallL && Cu.smallL (List.replicate u.toNat 0) && Cu.smallL (List.replicate u.toNat 0)) = true
    rw [zeros_small, Bool.and_true, Bool.and_true]
    refine all_of (fun i hi => ?_)
    rw [List.getElem_map]; exact rowL_small ..
  · refine ⟨by simp [lineOf], by show ((List.replicate u.toNat (0 : Int)).length : Int) = u; simp; omega, by show ((List.replicate u.toNat (0 : Int)).length : Int) = u; simp; omega, fun i hi h1 h2 => ?_⟩
    exact ((congrArg (fun r : List Int => (r.length : Int)) (List.getElem_map (rowL p s u) (l := p.lens) (i := i) (h := h1))).trans (by show ((rowL p s u (p.lens[i]'h2)).length : Int) = max 0 (u - (p.lens[i]'h2) + 1); rw [rowL_len]; omega))
structure LnOk (p : Plan) (s : Lg) (u : Int) : Prop where
  pk : PlanOk p
  sol : solChk s.1 = 0
  dfs : defChk s.2 = 0
  ub : 0 ≤ u ∧ u ≤ 2000
  ue : u = lengthS s.1 / p.unit
theorem line_cases (p : Plan) (s : Lg) : (∃ e, ¬ e = 0 ∧ lineS p s = (Cu.zeroL, e)) ∨ ∃ u, LnOk p s u ∧ lineS p s = (lineOf p s u, 0) := by
  by_cases h0 : planChk p = 0
  · by_cases h1 : solChk s.1 = 0
    · by_cases h2 : defChk s.2 = 0
      · have pk := plan_ok h0
        have hlb := length_bd s.1
        have hu := pk.unit
        have hu0 : 0 ≤ lengthS s.1 / p.unit := Int.ediv_nonneg hlb.1 (by omega)
        by_cases h3 : 2000 < lengthS s.1 / p.unit
        · exact .inl ⟨9, by decide, ls_long h0 h1 h2 h3⟩
        · exact .inr ⟨_, ⟨pk, h1, h2, ⟨hu0, by omega⟩, rfl⟩, ls_ok h0 h1 h2 h3⟩
      · exact .inl ⟨_, h2, ls_def h0 h1 h2⟩
    · exact .inl ⟨_, h1, ls_sol h0 h1⟩
  · exact .inl ⟨_, h0, ls_plan h0⟩
noncomputable def bbS (p : Plan) (s : Lg) : List Cu.Piece × Int × Int := if (lineS p s).2 ≠ 0 then ([], 0, (lineS p s).2) else Cu.bestS (lineS p s).1
theorem bb_err {p : Plan} {s : Lg} {e : Int} (he : ¬ e = 0) (h : lineS p s = (Cu.zeroL, e)) : bbS p s = ([], 0, e) := by unfold bbS; rw [h, if_pos he]
theorem bb_ok {p : Plan} {s : Lg} {u : Int} (h : lineS p s = (lineOf p s u, 0)) : bbS p s = Cu.bestS (lineOf p s u) := by unfold bbS; rw [h, if_neg (fun hh => hh rfl)]
theorem bbest_con (p : Plan) (s : Lg) (hK : p.classes.length ≤ maxLen) (hl : s.1.length ≤ maxLen) (hd : s.2.length ≤ maxLen) : Con Tryz.prog Cu.G 15 [planV p, lgV s] (Cu.bestC (bbS p s)) := by
  have c0 := bline_con (gl := Cu.G) p s hK hl hd
  refine con_of Tryz.func15 rfl (by kernel_rfl) rfl ?_
  simp only [Tryz.ntmps15, Tryz.results15, argEnv, ofC, of1, List.map]
  rcases line_cases p s with ⟨e, he, h⟩ | ⟨u, ok, h⟩
  · rw [bb_err he h]
    rw [h] at c0
    change Con _ _ _ _ (.tup [.agg [I 0, I 0, I 0, .lst 1 [], .lst 1 [], .lst 1 [], .lst 1 []], I e]) at c0
    repeat' (first
 | ((with_reducible apply r_call); exact rfl; exact rfl; exact c0; exact rfl; exact rfl)
 | ((with_reducible apply aw_seq))
 | ((with_reducible apply aw_region))
 | ((with_reducible apply thn_normal))
 | ((with_reducible apply thn_ret))
 | ((with_reducible apply aw_ret))
 | ((with_reducible apply ao_nil))
 | ((with_reducible apply r_move); exact rfl; exact rfl)
 | ((with_reducible apply r_assign); exact rfl; exact rfl)
 | ((with_reducible apply r_load_pa); exact rfl; exact rfl; exact rfl; exact rfl; exact rfl)
 | ((with_reducible apply r_neq); exact rfl; exact rfl; exact rfl)
 | ((with_reducible apply r_box_a); exact rfl; exact rfl)
 | ((with_reducible apply r_store_pa); exact rfl; exact rfl; exact rfl; exact rfl; exact rfl; exact rfl)
 | ((with_reducible apply r_extract); exact rfl; exact rfl; exact rfl)
 | ((with_reducible apply r_alloc); exact rfl)
 | (((with_reducible apply aw_cond); exact rfl) <;> intro hg <;> (first | (exact absurd hg (by decide)) | ((try simp only [decide_eq_true_eq, decide_eq_false_iff_not, Bool.not_eq_true', Bool.not_eq_false', Bool.not_true, Bool.not_false, Bool.not_not, Int.not_lt, Int.not_le, Nat.not_lt, Nat.not_le, gt_iff_lt, ge_iff_le, List.cons.injEq, and_true] at hg); first | (exact absurd trivial hg) | (exfalso; omega) | (have hT : True := hg; clear hT hg) | skip)))
 )
    exact ret2 (.cons (.tmp rfl cl_none) (.cons (.tmp rfl cl_c) (.cons (.tmp rfl cl_c) .nil)))
  · rw [bb_ok h]
    rw [h] at c0
    have c1 := Cu.best_con (lineOf p s u)
    rcases hb : Cu.bestS (lineOf p s u) with ⟨r1, r2, r3⟩
    rw [hb] at c1
    change Con _ _ _ _ (.tup [Cu.LP r1, I r2, I r3]) at c1
    change Con _ _ _ _ (.tup [.agg (Cu.lineL (lineOf p s u)), I 0]) at c0
    repeat' (first
 | ((with_reducible apply r_call); exact rfl; exact rfl; (first | exact c0 | exact c1); exact rfl; exact rfl)
 | ((with_reducible apply aw_seq))
 | ((with_reducible apply aw_region))
 | ((with_reducible apply thn_normal))
 | ((with_reducible apply aw_skip))
 | ((with_reducible apply aw_ret))
 | ((with_reducible apply ao_nil))
 | ((with_reducible apply r_move); exact rfl; exact rfl)
 | ((with_reducible apply r_assign); exact rfl; exact rfl)
 | ((with_reducible apply r_load_pa); exact rfl; exact rfl; exact rfl; exact rfl; exact rfl)
 | ((with_reducible apply r_neq); exact rfl; exact rfl; exact rfl)
 | ((with_reducible apply r_box_a); exact rfl; exact rfl)
 | ((with_reducible apply r_store_pa); exact rfl; exact rfl; exact rfl; exact rfl; exact rfl; exact rfl)
 | ((with_reducible apply r_extract); exact rfl; exact rfl; exact rfl)
 | ((with_reducible apply r_alloc); exact rfl)
 | (((with_reducible apply aw_cond); exact rfl) <;> intro hg <;> (first | (exact absurd hg (by decide)) | ((try simp only [decide_eq_true_eq, decide_eq_false_iff_not, Bool.not_eq_true', Bool.not_eq_false', Bool.not_true, Bool.not_false, Bool.not_not, Int.not_lt, Int.not_le, Nat.not_lt, Nat.not_le, gt_iff_lt, ge_iff_le, List.cons.injEq, and_true] at hg); first | (exact absurd trivial hg) | (exfalso; omega) | (have hT : True := hg; clear hT hg) | skip)))
 )
    exact ret2 (.cons (.tmp rfl cl_c) (.cons (.tmp rfl cl_c) (.cons (.tmp rfl cl_c) .nil)))
end Go.Proofs.YtkhljpbkebnnmaaGreatDoor.Bu
/- Walks of bucking: the reference's Line and Best. -/
namespace Go.Proofs.YtkhljpbkebnnmaaGreatDoor.Bu
set_option linter.unusedVariables false
set_option linter.unusedSimpArgs false
open Go.RowKit Go.Proofs.YtkhljpbkebnnmaaGreatDoor.Ev Go.Proofs.YtkhljpbkebnnmaaGreatDoor.Ge
variable {gl : List (Nat × List CV)}
theorem rline_con (p : Plan) (s : Lg) (hK : p.classes.length ≤ maxLen) (hl : s.1.length ≤ maxLen) (hd : s.2.length ≤ maxLen) : Con Tryz.prog gl 11 [planV p, lgV s] (lrC (lineS p s)) := by
  have c0 := rpcheck_con (gl := gl) p hK
  have c1 := rscheck_con (gl := gl) s.1 hl
  have c2 := rdcheck_con (gl := gl) s.2 hd
  have c3 := rslength_con (gl := gl) s.1 hl
  refine con_of Tryz.func11 rfl (by kernel_rfl) rfl ?_
  simp only [Tryz.ntmps11, Tryz.results11, argEnv, ofC, of1, List.map]
  by_cases h0 : planChk p = 0
  rotate_left
  · rw [ls_plan h0]
    repeat' (first
 | ((with_reducible apply r_call); exact rfl; exact rfl; exact c0; exact rfl; exact rfl)
 | ((with_reducible apply aw_seq))
 | ((with_reducible apply aw_region))
 | ((with_reducible apply thn_normal))
 | ((with_reducible apply thn_ret))
 | ((with_reducible apply aw_ret))
 | ((with_reducible apply ao_nil))
 | ((with_reducible apply r_move); exact rfl; exact rfl)
 | ((with_reducible apply r_assign); exact rfl; exact rfl)
 | ((with_reducible apply r_load_pa); exact rfl; exact rfl; exact rfl; exact rfl; exact rfl)
 | ((with_reducible apply r_neq); exact rfl; exact rfl; exact rfl)
 | ((with_reducible apply r_box_a); exact rfl; exact rfl)
 | ((with_reducible apply r_store_pa); exact rfl; exact rfl; exact rfl; exact rfl; exact rfl; exact rfl)
 | ((with_reducible apply r_build); exact rfl; exact rfl; exact rfl)
 | ((with_reducible apply r_alloc); exact rfl)
 | (((with_reducible apply aw_cond); exact rfl) <;> intro hg <;> (first | (exact absurd hg (by decide)) | ((try simp only [decide_eq_true_eq, decide_eq_false_iff_not, Bool.not_eq_true', Bool.not_eq_false', Bool.not_true, Bool.not_false, Bool.not_not, Int.not_lt, Int.not_le, Nat.not_lt, Nat.not_le, gt_iff_lt, ge_iff_le, List.cons.injEq, and_true] at hg); first | (exact absurd trivial hg) | (exfalso; omega) | (have hT : True := hg; clear hT hg) | skip)))
 )
    exact ret2 (.cons (.cell_a inferInstance rfl rfl rfl rfl (cl_cons cl_c (cl_cons cl_c (cl_cons cl_c (cl_cons cl_none (cl_cons cl_none (cl_cons cl_none (cl_cons cl_none cl_nil)))))))) (.cons (.tmp rfl cl_c) .nil))
  by_cases h1 : solChk s.1 = 0
  rotate_left
  · rw [ls_sol h0 h1]
    rw [h0] at c0
    repeat' (first
 | ((with_reducible apply r_call); exact rfl; exact rfl; (first | exact c0 | exact c1); exact rfl; exact rfl)
 | ((with_reducible apply aw_seq))
 | ((with_reducible apply aw_region))
 | ((with_reducible apply thn_normal))
 | ((with_reducible apply thn_ret))
 | ((with_reducible apply aw_skip))
 | ((with_reducible apply aw_ret))
 | ((with_reducible apply ao_nil))
 | ((with_reducible apply r_move); exact rfl; exact rfl)
 | ((with_reducible apply r_assign); exact rfl; exact rfl)
 | ((with_reducible apply r_field_p); exact rfl; exact rfl)
 | ((with_reducible apply r_load_p); exact rfl; exact rfl; exact rfl; exact rfl)
 | ((with_reducible apply r_load_pa); exact rfl; exact rfl; exact rfl; exact rfl; exact rfl)
 | ((with_reducible apply r_neq); exact rfl; exact rfl; exact rfl)
 | ((with_reducible apply r_box_a); exact rfl; exact rfl)
 | ((with_reducible apply r_store_pa); exact rfl; exact rfl; exact rfl; exact rfl; exact rfl; exact rfl)
 | ((with_reducible apply r_build); exact rfl; exact rfl; exact rfl)
 | ((with_reducible apply r_alloc); exact rfl)
 | (((with_reducible apply aw_cond); exact rfl) <;> intro hg <;> (first | (exact absurd hg (by decide)) | ((try simp only [decide_eq_true_eq, decide_eq_false_iff_not, Bool.not_eq_true', Bool.not_eq_false', Bool.not_true, Bool.not_false, Bool.not_not, Int.not_lt, Int.not_le, Nat.not_lt, Nat.not_le, gt_iff_lt, ge_iff_le, List.cons.injEq, and_true] at hg); first | (exact absurd trivial hg) | (exfalso; omega) | (have hT : True := hg; clear hT hg) | skip)))
 )
    exact ret2 (.cons (.cell_a inferInstance rfl rfl rfl rfl (cl_cons cl_c (cl_cons cl_c (cl_cons cl_c (cl_cons cl_none (cl_cons cl_none (cl_cons cl_none (cl_cons cl_none cl_nil)))))))) (.cons (.tmp rfl cl_c) .nil))
  by_cases h2 : defChk s.2 = 0
  rotate_left
  · rw [ls_def h0 h1 h2]
    rw [h0] at c0
    rw [h1] at c1
    repeat' (first
 | ((with_reducible apply r_call); exact rfl; exact rfl; (first | exact c0 | exact c1 | exact c2); exact rfl; exact rfl)
 | ((with_reducible apply aw_seq))
 | ((with_reducible apply aw_region))
 | ((with_reducible apply thn_normal))
 | ((with_reducible apply thn_ret))
 | ((with_reducible apply aw_skip))
 | ((with_reducible apply aw_ret))
 | ((with_reducible apply ao_nil))
 | ((with_reducible apply r_move); exact rfl; exact rfl)
 | ((with_reducible apply r_assign); exact rfl; exact rfl)
 | ((with_reducible apply r_field_p); exact rfl; exact rfl)
 | ((with_reducible apply r_load_p); exact rfl; exact rfl; exact rfl; exact rfl)
 | ((with_reducible apply r_load_pa); exact rfl; exact rfl; exact rfl; exact rfl; exact rfl)
 | ((with_reducible apply r_neq); exact rfl; exact rfl; exact rfl)
 | ((with_reducible apply r_box_a); exact rfl; exact rfl)
 | ((with_reducible apply r_store_pa); exact rfl; exact rfl; exact rfl; exact rfl; exact rfl; exact rfl)
 | ((with_reducible apply r_build); exact rfl; exact rfl; exact rfl)
 | ((with_reducible apply r_alloc); exact rfl)
 | (((with_reducible apply aw_cond); exact rfl) <;> intro hg <;> (first | (exact absurd hg (by decide)) | ((try simp only [decide_eq_true_eq, decide_eq_false_iff_not, Bool.not_eq_true', Bool.not_eq_false', Bool.not_true, Bool.not_false, Bool.not_not, Int.not_lt, Int.not_le, Nat.not_lt, Nat.not_le, gt_iff_lt, ge_iff_le, List.cons.injEq, and_true] at hg); first | (exact absurd trivial hg) | (exfalso; omega) | (have hT : True := hg; clear hT hg) | skip)))
 )
    exact ret2 (.cons (.cell_a inferInstance rfl rfl rfl rfl (cl_cons cl_c (cl_cons cl_c (cl_cons cl_c (cl_cons cl_none (cl_cons cl_none (cl_cons cl_none (cl_cons cl_none cl_nil)))))))) (.cons (.tmp rfl cl_c) .nil))
  have pk := plan_ok h0
  have hlb := length_bd s.1
  have hu := pk.unit
  have hq : (lengthS s.1).tdiv p.unit = lengthS s.1 / p.unit := Int.tdiv_eq_ediv_of_nonneg hlb.1
  have hu0 : 0 ≤ lengthS s.1 / p.unit := Int.ediv_nonneg hlb.1 (by omega)
  have hu1 : lengthS s.1 / p.unit ≤ 20000 := Int.le_trans (Int.ediv_le_self _ hlb.1) hlb.2
  have hls := ls_long (p := p) (s := s) h0 h1 h2
  have hlo := ls_ok (p := p) (s := s) h0 h1 h2
  rw [h0] at c0
  rw [h1] at c1
  rw [h2] at c2
  obtain ⟨u, eu⟩ : ∃ u, u = lengthS s.1 / p.unit := ⟨_, rfl⟩
  rw [← eu] at hq hu0 hu1 hls hlo
  obtain ⟨L, eL⟩ : ∃ L, L = lengthS s.1 := ⟨_, rfl⟩
  rw [← eL] at c3 hq
  have hf : fits (L.tdiv p.unit) := by rw [hq]; unfold fits; omega
  by_cases hlong : 2000 < u
  · rw [hls hlong]
    repeat' (first
 | ((with_reducible apply r_call); exact rfl; exact rfl; (first | exact c0 | exact c1 | exact c2 | exact c3); exact rfl; exact rfl)
 | ((with_reducible apply r_quo); exact rfl; exact rfl; exact (by omega); exact hf; exact rfl; rw [hq])
 | ((with_reducible apply aw_seq))
 | ((with_reducible apply aw_region))
 | ((with_reducible apply thn_normal))
 | ((with_reducible apply thn_ret))
 | ((with_reducible apply aw_skip))
 | ((with_reducible apply aw_ret))
 | ((with_reducible apply ao_nil))
 | ((with_reducible apply r_move); exact rfl; exact rfl)
 | ((with_reducible apply r_assign); exact rfl; exact rfl)
 | ((with_reducible apply r_field_p); exact rfl; exact rfl)
 | ((with_reducible apply r_load_p); exact rfl; exact rfl; exact rfl; exact rfl)
 | ((with_reducible apply r_load_pa); exact rfl; exact rfl; exact rfl; exact rfl; exact rfl)
 | ((with_reducible apply r_gtr); exact rfl; exact rfl; exact rfl)
 | ((with_reducible apply r_neq); exact rfl; exact rfl; exact rfl)
 | ((with_reducible apply r_box_a); exact rfl; exact rfl)
 | ((with_reducible apply r_store_pa); exact rfl; exact rfl; exact rfl; exact rfl; exact rfl; exact rfl)
 | ((with_reducible apply r_build); exact rfl; exact rfl; exact rfl)
 | ((with_reducible apply r_alloc); exact rfl)
 | (((with_reducible apply aw_cond); exact rfl) <;> intro hg <;> (first | (exact absurd hg (by decide)) | ((try simp only [decide_eq_true_eq, decide_eq_false_iff_not, Bool.not_eq_true', Bool.not_eq_false', Bool.not_true, Bool.not_false, Bool.not_not, Int.not_lt, Int.not_le, Nat.not_lt, Nat.not_le, gt_iff_lt, ge_iff_le, List.cons.injEq, and_true] at hg); first | (exact absurd trivial hg) | (exfalso; omega) | (have hT : True := hg; clear hT hg) | skip)))
 | (refine aw_drawq ?_ ?_; (kernel_rfl))
 | ((with_reducible apply ds_nil))
 )
    exact ret2 (.cons (.cell_a inferInstance rfl rfl rfl rfl (cl_cons cl_c (cl_cons cl_c (cl_cons cl_c (cl_cons cl_none (cl_cons cl_none (cl_cons cl_none (cl_cons cl_none cl_nil)))))))) (.cons (.tmp rfl cl_c) .nil))
  rw [hlo hlong]
  have hln := pk.len
  have hut : u = (u.toNat : Int) := (Int.toNat_of_nonneg hu0).symm
  have hut2 : u.toNat ≤ 2000 := by omega
  obtain ⟨zs, ezs⟩ : ∃ zs, zs = List.replicate u.toNat (0 : Int) := ⟨_, rfl⟩
  repeat' (first
 | (refine aw_drawA 12 ?_ rfl aop_alloc rfl ?_; (kernel_rfl); (simp only [List.take_succ_cons, List.take_zero, List.drop_succ_cons, List.drop_zero]))
 | ((with_reducible apply ds_nilA); exact rfl)
 | ((with_reducible apply r_lit0q); exact rfl)
 | ((with_reducible apply (r_append0q (enc := Cu.inC) (l2 := p.lens))); exact rfl; exact rfl; exact inferInstance; exact (by omega); exact (by omega); exact rfl)
 | ((with_reducible apply r_makeq (enc := Cu.inC) (0 : Int) u.toNat); exact inferInstance; exact rfl; exact rfl; exact rfl; exact hut; exact hut; omega; omega; exact rfl)
 | ((with_reducible apply r_call); exact rfl; exact rfl; (first | exact c0 | exact c1 | exact c2 | exact c3); exact rfl; exact rfl)
 | ((with_reducible apply r_quo); exact rfl; exact rfl; exact (by omega); exact hf; exact rfl; rw [hq])
 | ((with_reducible apply aw_seq))
 | ((with_reducible apply aw_region))
 | ((with_reducible apply aw_block))
 | ((with_reducible apply thn_normal))
 | ((with_reducible apply aw_skip))
 | ((with_reducible apply ao_nil))
 | ((with_reducible apply r_move); exact rfl; exact rfl)
 | ((with_reducible apply r_assign); exact rfl; exact rfl)
 | ((with_reducible apply r_field_p); exact rfl; exact rfl)
 | ((with_reducible apply r_load_p); exact rfl; exact rfl; exact rfl; exact rfl)
 | ((with_reducible apply r_load_pa); exact rfl; exact rfl; exact rfl; exact rfl; exact rfl)
 | ((with_reducible apply r_gtr); exact rfl; exact rfl; exact rfl)
 | ((with_reducible apply r_neq); exact rfl; exact rfl; exact rfl)
 | ((with_reducible apply r_box_a); exact rfl; exact rfl)
 | ((with_reducible apply r_store_pa); exact rfl; exact rfl; exact rfl; exact rfl; exact rfl; exact rfl)
 | ((with_reducible apply r_build); exact rfl; exact rfl; exact rfl)
 | ((with_reducible apply r_alloc); exact rfl)
 | (((with_reducible apply aw_cond); exact rfl) <;> intro hg <;> (first | (exact absurd hg (by decide)) | ((try simp only [decide_eq_true_eq, decide_eq_false_iff_not, Bool.not_eq_true', Bool.not_eq_false', Bool.not_true, Bool.not_false, Bool.not_not, Int.not_lt, Int.not_le, Nat.not_lt, Nat.not_le, gt_iff_lt, ge_iff_le, List.cons.injEq, and_true] at hg); first | (exact absurd trivial hg) | (exfalso; omega) | (have hT : True := hg; clear hT hg) | skip)))
 | (refine aw_drawq ?_ ?_; (kernel_rfl))
 | ((with_reducible apply ds_nil))
 )
  rw [← ezs]
  refine aw_nilcell 3 4 23 1 rfl rfl rfl rfl ?_
  refine aw_loopG (G := Nat) (fun (j : Nat) => j ≤ p.lens.length) (fun (j : Nat) => p.lens.length - j) (fun (j : Nat) => [(2, .ptr 0 0), (3, .ptr 1 0), (4, .ptr 2 0), (9, A u), (10, .ptr 3 0), (11, A j)]) (fun (j : Nat) => [(0, some (.cells 25 (planA p))), (1, some (.cells 29 [.c (LL s.1), .c (LD s.2)])), (2, some (.cells 36 nil7)), (3, some (.cells 36 [A u, A p.kerf, A 1, .c (Cu.LI p.lens), .vec 4 j, .c (Cu.LI zs), .c (Cu.LI zs)])), (4, some (.vec 23 1 (((p.lens.take j).map (rowL p s u)).flatMap Cu.rowC)))]) 5 0 ?_ (by refine weak_mk rfl ?_ ?_ <;> repeat (first | exact envW_nil | exact heapW_nil | refine envW_cons rfl rfl ?_ | refine heapW_cons rfl rfl rfl ?_)) rfl ?_
  · exact Nat.zero_le _
  rintro j hI
  try dsimp only at hI
  try dsimp only
  have hrl : ((p.lens.take j).map (rowL p s u)).length = j := by simp; omega
  by_cases hjl : j < p.lens.length
  · have hn := pk.one j hjl
    have hrs := rows_succ p s u j hjl
    have hgn2 : p.lens[j]? = some p.lens[j] := List.getElem?_eq_getElem hjl
    repeat' (first
 | ((with_reducible apply aw_seq))
 | ((with_reducible apply aw_region))
 | ((with_reducible apply aw_block))
 | ((with_reducible apply thn_normal))
 | ((with_reducible apply aw_skip))
 | ((with_reducible apply ao_nil))
 | ((with_reducible apply r_move); exact rfl; exact rfl)
 | ((with_reducible apply r_assign); exact rfl; exact rfl)
 | ((with_reducible apply r_field_p); exact rfl; exact rfl)
 | ((with_reducible apply r_load_p); exact rfl; exact rfl; exact rfl; exact rfl)
 | ((with_reducible apply r_lss); exact rfl; exact rfl; exact rfl)
 | ((with_reducible apply r_len_f); exact rfl; exact inferInstance; exact rfl)
 | (((with_reducible apply aw_cond); exact rfl) <;> intro hg <;> (first | (exact absurd hg (by decide)) | ((try simp only [decide_eq_true_eq, decide_eq_false_iff_not, Bool.not_eq_true', Bool.not_eq_false', Bool.not_true, Bool.not_false, Bool.not_not, Int.not_lt, Int.not_le, Nat.not_lt, Nat.not_le, gt_iff_lt, ge_iff_le, List.cons.injEq, and_true] at hg); first | (exact absurd trivial hg) | (exfalso; omega) | (have hT : True := hg; clear hT hg) | skip)))
 )
    refine aw_nilvec 12 3 1 rfl rfl ?_
    refine aw_loopG (G := Nat) (fun (k : Nat) => (k = 0 ∨ (k : Int) + p.lens[j] ≤ u + 1)) (fun (k : Nat) => (u + 1 - k).toNat) (fun (k : Nat) => [(2, .ptr 0 0), (3, .ptr 1 0), (4, .ptr 2 0), (9, A u), (10, .ptr 3 0), (11, A j), (12, .vec 5 k), (13, A k)]) (fun (k : Nat) => [(0, some (.cells 25 (planA p))), (1, some (.cells 29 [.c (LL s.1), .c (LD s.2)])), (2, some (.cells 36 nil7)), (3, some (.cells 36 [A u, A p.kerf, A 1, .c (Cu.LI p.lens), .vec 4 j, .c (Cu.LI zs), .c (Cu.LI zs)])), (4, some (.vec 23 1 (((p.lens.take j).map (rowL p s u)).flatMap Cu.rowC))), (5, some (.vec 3 1 ((rowN p s p.lens[j] k).flatMap Cu.inC)))]) 6 0 ?_ (by refine weak_mk rfl ?_ ?_ <;> repeat (first | exact envW_nil | exact heapW_nil | refine envW_cons rfl rfl ?_ | refine heapW_cons rfl rfl rfl ?_)) rfl ?_
    · exact .inl rfl
    rintro k hI
    try dsimp only at hI
    try dsimp only
    by_cases hk : (k : Int) + p.lens[j] ≤ u
    · have cp := rpart_con (gl := gl) p s k p.lens[j] (by omega) (by omega) hu hl h2
      obtain ⟨g1, g2⟩ := part_len s ((k : Int) * p.unit, ((k : Int) + p.lens[j]) * p.unit) h2
      have cpr := rprice_con (gl := gl) p.classes (partS s ((k : Int) * p.unit, ((k : Int) + p.lens[j]) * p.unit)).1 (partS s ((k : Int) * p.unit, ((k : Int) + p.lens[j]) * p.unit)).2 hK g1 g2
      have hgn := rowN_succ p s p.lens[j] k
      unfold gainS at hgn
      generalize priceS p.classes (partS s ((k : Int) * p.unit, ((k : Int) + p.lens[j]) * p.unit)).1 (partS s ((k : Int) * p.unit, ((k : Int) + p.lens[j]) * p.unit)).2 = g at cpr hgn
      generalize partS s ((k : Int) * p.unit, ((k : Int) + p.lens[j]) * p.unit) = pt at cp cpr
      repeat' (first
 | (refine aw_drawA 9 ?_ rfl aop_alloc rfl ?_; (kernel_rfl); (simp only [List.take_succ_cons, List.take_zero, List.drop_succ_cons, List.drop_zero]))
 | ((with_reducible apply ds_nilA); exact rfl)
 | ((with_reducible apply r_call); exact rfl; exact rfl; (first | exact cp | exact cpr); exact rfl; exact rfl)
 | ((with_reducible apply (r_push (enc := Cu.inC) (x0 := g))); exact rfl; exact rfl; exact inferInstance; exact (rowN_len _ _ _ _); exact rfl; exact rfl; exact rfl; exact (by omega); exact (by omega); exact rfl)
 | ((with_reducible apply aw_seq))
 | ((with_reducible apply aw_region))
 | ((with_reducible apply aw_block))
 | ((with_reducible apply thn_normal))
 | ((with_reducible apply inb_normal))
 | ((with_reducible apply aw_skip))
 | ((with_reducible apply ao_nil))
 | ((with_reducible apply r_move); exact rfl; exact rfl)
 | ((with_reducible apply r_assign); exact rfl; exact rfl)
 | ((with_reducible apply r_field_p); exact rfl; exact rfl)
 | ((with_reducible apply r_load_p); exact rfl; exact rfl; exact rfl; exact rfl)
 | ((with_reducible apply r_load_pa); exact rfl; exact rfl; exact rfl; exact rfl; exact rfl)
 | ((with_reducible apply r_leq); exact rfl; exact rfl; exact rfl)
 | ((with_reducible apply r_add); exact rfl; exact rfl; exact (by first | assumption | (unfold fits; omega)); exact rfl)
 | ((with_reducible apply r_index_f); exact rfl; exact inferInstance; exact rfl; exact rfl; (first | assumption | omega); exact rfl)
 | ((with_reducible apply r_load_f0); exact rfl; exact inferInstance; exact List.getElem?_eq_getElem (by first | assumption | omega); exact rfl; exact rfl)
 | ((with_reducible apply r_store_pa); exact rfl; exact rfl; exact rfl; exact rfl; exact rfl; exact rfl)
 | (((with_reducible apply aw_cond); exact rfl) <;> intro hg <;> (first | (exact absurd hg (by decide)) | ((try simp only [decide_eq_true_eq, decide_eq_false_iff_not, Bool.not_eq_true', Bool.not_eq_false', Bool.not_true, Bool.not_false, Bool.not_not, Int.not_lt, Int.not_le, Nat.not_lt, Nat.not_le, gt_iff_lt, ge_iff_le, List.cons.injEq, and_true] at hg); first | (exact absurd trivial hg) | (exfalso; omega) | (have hT : True := hg; clear hT hg) | skip)))
 | ((with_reducible apply r_lit); exact rfl; exact rfl; exact rfl; exact rfl; exact rfl; exact rfl; exact rfl)
 )
      rw [← hgn]
      refine ⟨k + 1, ?_, ?_, by refine weak_mk rfl ?_ ?_ <;> repeat (first | exact envW_nil | exact heapW_nil | refine envW_cons rfl rfl ?_ | refine heapW_cons rfl rfl rfl ?_)⟩
      · show (u + 1 - ((k + 1 : Nat) : Int)).toNat < (u + 1 - k).toNat; omega
      · exact .inr (by show ((k + 1 : Nat) : Int) + p.lens[j] ≤ u + 1; omega)
    · have hrow : rowN p s p.lens[j] k = rowL p s u p.lens[j] := by unfold rowL; congr 1; omega
      repeat' (first
 | ((with_reducible apply (r_freeze 95)); exact rfl; exact rfl; exact (by rw [flat_len EncL.len, rowN_len]))
 | ((with_reducible apply r_litq); exact rfl; exact rfl; exact rfl; exact rfl; exact rfl; exact rfl; exact rfl)
 | ((with_reducible apply (r_appendl (enc := Cu.rowC) (l2 := [rowN p s p.lens[j] k]))); exact rfl; exact rfl; exact inferInstance; exact hrl; exact rfl; exact (by show j + 1 < _; omega); exact (by show (j + 1) * _ ≤ _; omega); exact rfl)
 | ((with_reducible apply aw_seq))
 | ((with_reducible apply aw_region))
 | ((with_reducible apply thn_normal))
 | ((with_reducible apply thn_exit))
 | ((with_reducible apply inb_normal))
 | ((with_reducible apply inb_exit))
 | ((with_reducible apply aw_exit))
 | ((with_reducible apply ao_nil))
 | ((with_reducible apply r_move); exact rfl; exact rfl)
 | ((with_reducible apply r_assign); exact rfl; exact rfl)
 | ((with_reducible apply r_field_p); exact rfl; exact rfl)
 | ((with_reducible apply r_load_p); exact rfl; exact rfl; exact rfl; exact rfl)
 | ((with_reducible apply r_leq); exact rfl; exact rfl; exact rfl)
 | ((with_reducible apply r_add); exact rfl; exact rfl; exact (by first | assumption | (unfold fits; omega)); exact rfl)
 | ((with_reducible apply r_index_f); exact rfl; exact inferInstance; exact rfl; exact rfl; (first | assumption | omega); exact rfl)
 | ((with_reducible apply r_load_f0); exact rfl; exact inferInstance; exact List.getElem?_eq_getElem (by first | assumption | omega); exact rfl; exact rfl)
 | ((with_reducible apply r_store_p); exact rfl; exact rfl; exact rfl; exact rfl; exact rfl; exact rfl)
 | (((with_reducible apply aw_cond); exact rfl) <;> intro hg <;> (first | (exact absurd hg (by decide)) | ((try simp only [decide_eq_true_eq, decide_eq_false_iff_not, Bool.not_eq_true', Bool.not_eq_false', Bool.not_true, Bool.not_false, Bool.not_not, Int.not_lt, Int.not_le, Nat.not_lt, Nat.not_le, gt_iff_lt, ge_iff_le, List.cons.injEq, and_true] at hg); first | (exact absurd trivial hg) | (exfalso; omega) | (have hT : True := hg; clear hT hg) | skip)))
 )
      rw [hrow, ← hrs]
      refine ⟨j + 1, ?_, ?_, by refine weak_mk rfl ?_ ?_ <;> repeat (first | exact envW_nil | exact heapW_nil | refine envW_cons rfl rfl ?_ | refine heapW_cons rfl rfl rfl ?_)⟩
      · show _ - (j + 1) < _ - j; omega
      · show j + 1 ≤ _; omega
  · obtain rfl : j = p.lens.length := by omega
    rw [List.take_length] at hrl ⊢
    rw [ezs]
    repeat' (first
 | ((with_reducible apply aw_seq))
 | ((with_reducible apply aw_region))
 | ((with_reducible apply thn_normal))
 | ((with_reducible apply thn_exit))
 | ((with_reducible apply inb_exit))
 | ((with_reducible apply aw_exit))
 | ((with_reducible apply aw_ret))
 | ((with_reducible apply ao_nil))
 | ((with_reducible apply r_move); exact rfl; exact rfl)
 | ((with_reducible apply r_assign); exact rfl; exact rfl)
 | ((with_reducible apply r_field_p); exact rfl; exact rfl)
 | ((with_reducible apply r_load_p); exact rfl; exact rfl; exact rfl; exact rfl)
 | ((with_reducible apply r_load_pa); exact rfl; exact rfl; exact rfl; exact rfl; exact rfl)
 | ((with_reducible apply r_lss); exact rfl; exact rfl; exact rfl)
 | ((with_reducible apply r_len_f); exact rfl; exact inferInstance; exact rfl)
 | ((with_reducible apply r_store_pa); exact rfl; exact rfl; exact rfl; exact rfl; exact rfl; exact rfl)
 | (((with_reducible apply aw_cond); exact rfl) <;> intro hg <;> (first | (exact absurd hg (by decide)) | ((try simp only [decide_eq_true_eq, decide_eq_false_iff_not, Bool.not_eq_true', Bool.not_eq_false', Bool.not_true, Bool.not_false, Bool.not_not, Int.not_lt, Int.not_le, Nat.not_lt, Nat.not_le, gt_iff_lt, ge_iff_le, List.cons.injEq, and_true] at hg); first | (exact absurd trivial hg) | (exfalso; omega) | (have hT : True := hg; clear hT hg) | skip)))
 )
    exact ret2 (.cons (.cell_a inferInstance rfl rfl rfl rfl (cl_cons cl_c (cl_cons cl_c (cl_cons cl_c (cl_cons cl_c (cl_cons (cl_vec rfl ((flat_len EncL.len _).trans (congrArg (· * 1) hrl))) (cl_cons cl_c (cl_cons cl_c cl_nil)))))))) (.cons (.tmp rfl cl_c) .nil))
theorem rbbest_con (p : Plan) (s : Lg) (hK : p.classes.length ≤ maxLen) (hl : s.1.length ≤ maxLen) (hd : s.2.length ≤ maxLen) : Con Tryz.prog gl 16 [planV p, lgV s] (Cu.bestC (bbS p s)) := by
  have c0 := rline_con (gl := gl) p s hK hl hd
  refine con_of Tryz.func16 rfl (by kernel_rfl) rfl ?_
  simp only [Tryz.ntmps16, Tryz.results16, argEnv, ofC, of1, List.map]
  rcases line_cases p s with ⟨e, he, h⟩ | ⟨u, ok, h⟩
  · rw [bb_err he h]
    rw [h] at c0
    change Con _ _ _ _ (.tup [.agg [I 0, I 0, I 0, .lst 1 [], .lst 1 [], .lst 1 [], .lst 1 []], I e]) at c0
    repeat' (first
 | ((with_reducible apply r_call); exact rfl; exact rfl; exact c0; exact rfl; exact rfl)
 | ((with_reducible apply aw_seq))
 | ((with_reducible apply aw_region))
 | ((with_reducible apply thn_normal))
 | ((with_reducible apply thn_ret))
 | ((with_reducible apply aw_ret))
 | ((with_reducible apply ao_nil))
 | ((with_reducible apply r_move); exact rfl; exact rfl)
 | ((with_reducible apply r_assign); exact rfl; exact rfl)
 | ((with_reducible apply r_load_pa); exact rfl; exact rfl; exact rfl; exact rfl; exact rfl)
 | ((with_reducible apply r_neq); exact rfl; exact rfl; exact rfl)
 | ((with_reducible apply r_box_a); exact rfl; exact rfl)
 | ((with_reducible apply r_store_pa); exact rfl; exact rfl; exact rfl; exact rfl; exact rfl; exact rfl)
 | ((with_reducible apply r_extract); exact rfl; exact rfl; exact rfl)
 | ((with_reducible apply r_alloc); exact rfl)
 | (((with_reducible apply aw_cond); exact rfl) <;> intro hg <;> (first | (exact absurd hg (by decide)) | ((try simp only [decide_eq_true_eq, decide_eq_false_iff_not, Bool.not_eq_true', Bool.not_eq_false', Bool.not_true, Bool.not_false, Bool.not_not, Int.not_lt, Int.not_le, Nat.not_lt, Nat.not_le, gt_iff_lt, ge_iff_le, List.cons.injEq, and_true] at hg); first | (exact absurd trivial hg) | (exfalso; omega) | (have hT : True := hg; clear hT hg) | skip)))
 )
    exact ret2 (.cons (.tmp rfl cl_none) (.cons (.tmp rfl cl_c) (.cons (.tmp rfl cl_c) .nil)))
  · rw [bb_ok h]
    rw [h] at c0
    have c1 := Cu.rbest_con (gl := gl) (lineOf p s u)
    rcases hb : Cu.bestS (lineOf p s u) with ⟨r1, r2, r3⟩
    rw [hb] at c1
    change Con _ _ _ _ (.tup [Cu.LP r1, I r2, I r3]) at c1
    change Con _ _ _ _ (.tup [.agg (Cu.lineL (lineOf p s u)), I 0]) at c0
    repeat' (first
 | ((with_reducible apply r_call); exact rfl; exact rfl; (first | exact c0 | exact c1); exact rfl; exact rfl)
 | ((with_reducible apply aw_seq))
 | ((with_reducible apply aw_region))
 | ((with_reducible apply thn_normal))
 | ((with_reducible apply aw_skip))
 | ((with_reducible apply aw_ret))
 | ((with_reducible apply ao_nil))
 | ((with_reducible apply r_move); exact rfl; exact rfl)
 | ((with_reducible apply r_assign); exact rfl; exact rfl)
 | ((with_reducible apply r_load_pa); exact rfl; exact rfl; exact rfl; exact rfl; exact rfl)
 | ((with_reducible apply r_neq); exact rfl; exact rfl; exact rfl)
 | ((with_reducible apply r_box_a); exact rfl; exact rfl)
 | ((with_reducible apply r_store_pa); exact rfl; exact rfl; exact rfl; exact rfl; exact rfl; exact rfl)
 | ((with_reducible apply r_extract); exact rfl; exact rfl; exact rfl)
 | ((with_reducible apply r_alloc); exact rfl)
 | (((with_reducible apply aw_cond); exact rfl) <;> intro hg <;> (first | (exact absurd hg (by decide)) | ((try simp only [decide_eq_true_eq, decide_eq_false_iff_not, Bool.not_eq_true', Bool.not_eq_false', Bool.not_true, Bool.not_false, Bool.not_not, Int.not_lt, Int.not_le, Nat.not_lt, Nat.not_le, gt_iff_lt, ge_iff_le, List.cons.injEq, and_true] at hg); first | (exact absurd trivial hg) | (exfalso; omega) | (have hT : True := hg; clear hT hg) | skip)))
 )
    exact ret2 (.cons (.tmp rfl cl_c) (.cons (.tmp rfl cl_c) (.cons (.tmp rfl cl_c) .nil)))
end Go.Proofs.YtkhljpbkebnnmaaGreatDoor.Bu
/- Walks of bucking: Logs, sum. -/
namespace Go.Proofs.YtkhljpbkebnnmaaGreatDoor.Bu
set_option linter.unusedVariables false
set_option linter.unusedSimpArgs false
open Go.RowKit Go.Proofs.YtkhljpbkebnnmaaGreatDoor.Ev Go.Proofs.YtkhljpbkebnnmaaGreatDoor.Ge
variable {gl : List (Nat × List CV)}
noncomputable def logOf (p : Plan) (s : Lg) (x : Cu.Piece) : Lg := partS s (x.2 * p.unit, (x.2 + p.lens.getD x.1.toNat 0) * p.unit)
noncomputable def logsS (p : Plan) (s : Lg) (l : List Cu.Piece) : List Lg × Int :=
  if (lineS p s).2 ≠ 0 then ([], (lineS p s).2) else if (Cu.cutsS (lineS p s).1 l).1 ≠ 0 then ([], (Cu.cutsS (lineS p s).1 l).1) else (l.map (logOf p s), 0)
abbrev lgsC (r : List Lg × Int) : CV := .tup [LStem r.1, I r.2]
theorem lg_err {p : Plan} {s : Lg} {l : List Cu.Piece} {e : Int} (he : ¬ e = 0) (h : lineS p s = (Cu.zeroL, e)) : logsS p s l = ([], e) := by unfold logsS; rw [h, if_pos he]
theorem lg_cut {p : Plan} {s : Lg} {l : List Cu.Piece} {u e : Int} {D C : List Span} (h : lineS p s = (lineOf p s u, 0)) (hc : Cu.cutsS (lineOf p s u) l = (e, D, C)) (he : ¬ e = 0) : logsS p s l = ([], e) := by
  unfold logsS; rw [h, if_neg (fun hh => hh rfl), hc, if_pos he]
theorem lg_ok {p : Plan} {s : Lg} {l : List Cu.Piece} {u : Int} {D C : List Span} (h : lineS p s = (lineOf p s u, 0)) (hc : Cu.cutsS (lineOf p s u) l = (0, D, C)) : logsS p s l = (l.map (logOf p s), 0) := by
  unfold logsS; rw [h, if_neg (fun hh => hh rfl), hc, if_neg (fun hh => hh rfl)]
theorem piece_in {p : Plan} {s : Lg} {u : Int} (ok : LnOk p s u) {l : List Cu.Piece} {D C : List Span} (hc : Cu.cutsS (lineOf p s u) l = (0, D, C)) : ∀ j (h : j < l.length), 0 ≤ l[j].1 ∧ ∃ hk : l[j].1.toNat < p.lens.length, p.lens.getD l[j].1.toNat 0 = p.lens[l[j].1.toNat] ∧ 0 ≤ l[j].2 ∧ l[j].2 + p.lens[l[j].1.toNat] ≤ u := by
  intro j hj
  obtain ⟨h1, h2⟩ := Cu.cutsS_ok hc
  have v := Cu.valid_of h1
  obtain ⟨_, _, _, h3⟩ := Cu.cuts_ok v h2
  obtain ⟨e, he⟩ := h3 _ (List.getElem_mem hj)
  obtain ⟨q1, q2, q3, q4, _⟩ := Cu.perm0 (l := lineOf p s u) (e := e) (s := l[j].1) (p := l[j].2) he
  have q2' : l[j].1 < (p.lens.length : Int) := q2
  have hk : l[j].1.toNat < p.lens.length := by omega
  have hg : p.lens.getD l[j].1.toNat 0 = p.lens[l[j].1.toNat] := by simp [List.getD_eq_getElem?_getD, hk]
  have q4' : l[j].2 ≤ u - p.lens.getD l[j].1.toNat 0 := q4
  rw [hg] at q4'
  exact ⟨q1, hk, hg, q3, by omega⟩
theorem tot_nn' {n : Int} {ss : List Span} (h : Cu.AllSp n ss) : 0 ≤ Cu.tot ss := by
  have := Cu.tot_nn h; omega
theorem cut_few {p : Plan} {s : Lg} {u : Int} (ok : LnOk p s u) {l : List Cu.Piece} {D C : List Span} (hc : Cu.cutsS (lineOf p s u) l = (0, D, C)) : l.length ≤ 2000 := by
  obtain ⟨h1, h2⟩ := Cu.cutsS_ok hc
  have v := Cu.valid_of h1
  obtain ⟨a1, a2, h3, _⟩ := Cu.cuts_ok v h2
  have t1 := tot_nn' a1
  have t2 := tot_nn' a2
  have := ok.ub
  have h3' : Cu.tot D + Cu.tot C + (l.length : Int) ≤ u := h3
  omega
theorem blogs_con (p : Plan) (s : Lg) (l : List Cu.Piece) (hK : p.classes.length ≤ maxLen) (hl : s.1.length ≤ maxLen) (hd : s.2.length ≤ maxLen) (hp : l.length ≤ 100000) : Con Tryz.prog gl 18 [planV p, lgV s, Cu.LP l] (lgsC (logsS p s l)) := by
  have c0 := bline_con (gl := gl) p s hK hl hd
  refine con_of Tryz.func18 rfl (by kernel_rfl) rfl ?_
  simp only [Tryz.ntmps18, Tryz.results18, argEnv, ofC, of1, List.map]
  rcases line_cases p s with ⟨e, he, h⟩ | ⟨u, ok, h⟩
  · rw [lg_err he h]
    rw [h] at c0
    change Con _ _ _ _ (.tup [.agg [I 0, I 0, I 0, .lst 1 [], .lst 1 [], .lst 1 [], .lst 1 []], I e]) at c0
    repeat' (first
 | ((with_reducible apply r_call); exact rfl; exact rfl; exact c0; exact rfl; exact rfl)
 | ((with_reducible apply aw_seq))
 | ((with_reducible apply aw_region))
 | ((with_reducible apply thn_normal))
 | ((with_reducible apply thn_ret))
 | ((with_reducible apply aw_ret))
 | ((with_reducible apply ao_nil))
 | ((with_reducible apply r_move); exact rfl; exact rfl)
 | ((with_reducible apply r_assign); exact rfl; exact rfl)
 | ((with_reducible apply r_load_pa); exact rfl; exact rfl; exact rfl; exact rfl; exact rfl)
 | ((with_reducible apply r_neq); exact rfl; exact rfl; exact rfl)
 | ((with_reducible apply r_box_a); exact rfl; exact rfl)
 | ((with_reducible apply r_store_pa); exact rfl; exact rfl; exact rfl; exact rfl; exact rfl; exact rfl)
 | ((with_reducible apply r_extract); exact rfl; exact rfl; exact rfl)
 | ((with_reducible apply r_alloc); exact rfl)
 | (((with_reducible apply aw_cond); exact rfl) <;> intro hg <;> (first | (exact absurd hg (by decide)) | ((try simp only [decide_eq_true_eq, decide_eq_false_iff_not, Bool.not_eq_true', Bool.not_eq_false', Bool.not_true, Bool.not_false, Bool.not_not, Int.not_lt, Int.not_le, Nat.not_lt, Nat.not_le, gt_iff_lt, ge_iff_le, List.cons.injEq, and_true] at hg); first | (exact absurd trivial hg) | (exfalso; omega) | (have hT : True := hg; clear hT hg) | skip)))
 )
    exact ret2 (.cons (.tmp rfl cl_none) (.cons (.tmp rfl cl_c) .nil))
  rw [h] at c0
  have c1 := Cu.cuts_con (gl := gl) (lineOf p s u) l hp
  rcases hc : Cu.cutsS (lineOf p s u) l with ⟨e, D, C⟩
  rw [hc] at c1
  change Con _ _ _ _ (.tup [Cu.LS D, Cu.LS C, I e]) at c1
  change Con _ _ _ _ (.tup [.agg (Cu.lineL (lineOf p s u)), I 0]) at c0
  by_cases he : e = 0
  rotate_left
  · rw [lg_cut h hc he]
    repeat' (first
 | ((with_reducible apply r_call); exact rfl; exact rfl; (first | exact c0 | exact c1); exact rfl; exact rfl)
 | ((with_reducible apply aw_seq))
 | ((with_reducible apply aw_region))
 | ((with_reducible apply thn_normal))
 | ((with_reducible apply thn_ret))
 | ((with_reducible apply aw_skip))
 | ((with_reducible apply aw_ret))
 | ((with_reducible apply ao_nil))
 | ((with_reducible apply r_move); exact rfl; exact rfl)
 | ((with_reducible apply r_assign); exact rfl; exact rfl)
 | ((with_reducible apply r_load_pa); exact rfl; exact rfl; exact rfl; exact rfl; exact rfl)
 | ((with_reducible apply r_neq); exact rfl; exact rfl; exact rfl)
 | ((with_reducible apply r_box_a); exact rfl; exact rfl)
 | ((with_reducible apply r_store_pa); exact rfl; exact rfl; exact rfl; exact rfl; exact rfl; exact rfl)
 | ((with_reducible apply r_extract); exact rfl; exact rfl; exact rfl)
 | ((with_reducible apply r_alloc); exact rfl)
 | (((with_reducible apply aw_cond); exact rfl) <;> intro hg <;> (first | (exact absurd hg (by decide)) | ((try simp only [decide_eq_true_eq, decide_eq_false_iff_not, Bool.not_eq_true', Bool.not_eq_false', Bool.not_true, Bool.not_false, Bool.not_not, Int.not_lt, Int.not_le, Nat.not_lt, Nat.not_le, gt_iff_lt, ge_iff_le, List.cons.injEq, and_true] at hg); first | (exact absurd trivial hg) | (exfalso; omega) | (have hT : True := hg; clear hT hg) | skip)))
 )
    exact ret2 (.cons (.tmp rfl cl_none) (.cons (.tmp rfl cl_c) .nil))
  subst he
  rw [lg_ok h hc]
  have hin := piece_in ok hc
  have hu := ok.pk.unit
  have hone := ok.pk.one
  have huu := ok.ub
  repeat' (first
 | ((with_reducible apply r_call); exact rfl; exact rfl; (first | exact c0 | exact c1); exact rfl; exact rfl)
 | ((with_reducible apply aw_seq))
 | ((with_reducible apply aw_region))
 | ((with_reducible apply aw_block))
 | ((with_reducible apply thn_normal))
 | ((with_reducible apply aw_skip))
 | ((with_reducible apply ao_nil))
 | ((with_reducible apply r_move); exact rfl; exact rfl)
 | ((with_reducible apply r_assign); exact rfl; exact rfl)
 | ((with_reducible apply r_load_pa); exact rfl; exact rfl; exact rfl; exact rfl; exact rfl)
 | ((with_reducible apply r_neq); exact rfl; exact rfl; exact rfl)
 | ((with_reducible apply r_box_a); exact rfl; exact rfl)
 | ((with_reducible apply r_len_f); exact rfl; exact inferInstance; exact rfl)
 | ((with_reducible apply r_store_pa); exact rfl; exact rfl; exact rfl; exact rfl; exact rfl; exact rfl)
 | ((with_reducible apply r_extract); exact rfl; exact rfl; exact rfl)
 | ((with_reducible apply r_alloc); exact rfl)
 | (((with_reducible apply aw_cond); exact rfl) <;> intro hg <;> (first | (exact absurd hg (by decide)) | ((try simp only [decide_eq_true_eq, decide_eq_false_iff_not, Bool.not_eq_true', Bool.not_eq_false', Bool.not_true, Bool.not_false, Bool.not_not, Int.not_lt, Int.not_le, Nat.not_lt, Nat.not_le, gt_iff_lt, ge_iff_le, List.cons.injEq, and_true] at hg); first | (exact absurd trivial hg) | (exfalso; omega) | (have hT : True := hg; clear hT hg) | skip)))
 )
  refine aw_nilvec 13 42 2 rfl rfl ?_
  refine aw_loopG (G := Nat) (fun (j : Nat) => j ≤ l.length) (fun (j : Nat) => l.length - j) (fun (j : Nat) => [(3, .ptr 0 0), (4, .ptr 1 0), (13, .vec 3 j), (35, .c (Cu.LP l)), (36, A l.length), (37, A j)]) (fun (j : Nat) => [(0, some (.cells 40 (planA p))), (1, some (.cells 42 [.c (LL s.1), .c (LD s.2)])), (3, some (.vec 42 2 (((l.take j).map (logOf p s)).flatMap stC)))]) 4 0 ?_ (by refine weak_mk rfl ?_ ?_ <;> repeat (first | exact envW_nil | exact heapW_nil | refine envW_cons rfl rfl ?_ | refine heapW_cons rfl rfl rfl ?_)) rfl ?_
  · exact Nat.zero_le _
  rintro j hI
  try dsimp only at hI
  try dsimp only
  have hml : ((l.take j).map (logOf p s)).length = j := by simp; omega
  by_cases hjl : j < l.length
  · obtain ⟨i1, i2, i3, i4, i5⟩ := hin j hjl
    have i6 := hone _ i2
    have cp := part_con (gl := gl) p s l[j].2 p.lens[l[j].1.toNat] (by omega) (by omega) hu hl ok.dfs
    have hst : (l.take (j + 1)).map (logOf p s) = (l.take j).map (logOf p s) ++ [partS s (l[j].2 * p.unit, (l[j].2 + p.lens[l[j].1.toNat]) * p.unit)] := by
      rw [List.take_succ_eq_append_getElem hjl, List.map_append, List.map_singleton]
      unfold logOf; rw [i3]
    generalize partS s (l[j].2 * p.unit, (l[j].2 + p.lens[l[j].1.toNat]) * p.unit) = g at cp hst
    repeat' (first
 | (refine aw_drawt 13 ?_ ?_; (kernel_rfl); (simp only [List.take_succ_cons, List.take_zero, List.drop_succ_cons, List.drop_zero]))
 | ((with_reducible apply r_call); exact rfl; exact rfl; exact cp; exact rfl; exact rfl)
 | ((with_reducible apply r_litq); exact rfl; exact rfl; exact rfl; exact rfl; exact rfl; exact rfl; exact rfl)
 | ((with_reducible apply (r_appendl (enc := stC) (l2 := [g]))); exact rfl; exact rfl; exact inferInstance; exact hml; exact rfl; exact (by show j + 1 < _; omega); exact (by show (j + 1) * _ ≤ _; omega); exact rfl)
 | ((with_reducible apply aw_seq))
 | ((with_reducible apply aw_region))
 | ((with_reducible apply aw_block))
 | ((with_reducible apply thn_normal))
 | ((with_reducible apply inb_normal))
 | ((with_reducible apply aw_skip))
 | ((with_reducible apply ao_nil))
 | ((with_reducible apply r_move); exact rfl; exact rfl)
 | ((with_reducible apply r_assign); exact rfl; exact rfl)
 | ((with_reducible apply r_field_p); exact rfl; exact rfl)
 | ((with_reducible apply r_load_p); exact rfl; exact rfl; exact rfl; exact rfl)
 | ((with_reducible apply r_load_pa); exact rfl; exact rfl; exact rfl; exact rfl; exact rfl)
 | ((with_reducible apply r_lss); exact rfl; exact rfl; exact rfl)
 | ((with_reducible apply r_add); exact rfl; exact rfl; exact (by first | assumption | (unfold fits; omega)); exact rfl)
 | ((with_reducible apply r_index_f); exact rfl; exact inferInstance; exact rfl; exact rfl; (first | assumption | omega); exact rfl)
 | ((with_reducible apply r_index_f); exact rfl; exact inferInstance; exact rfl; exact (Int.toNat_of_nonneg (by omega)).symm; (first | assumption | omega); exact rfl)
 | ((with_reducible apply r_load_f0); exact rfl; exact inferInstance; exact List.getElem?_eq_getElem (by first | assumption | omega); exact rfl; exact rfl)
 | ((with_reducible apply r_load_fa0); exact rfl; exact inferInstance; exact List.getElem?_eq_getElem (by first | assumption | omega); exact rfl; exact rfl; exact rfl)
 | ((with_reducible apply r_store_pa); exact rfl; exact rfl; exact rfl; exact rfl; exact rfl; exact rfl)
 | ((with_reducible apply r_alloc); exact rfl)
 | (((with_reducible apply aw_cond); exact rfl) <;> intro hg <;> (first | (exact absurd hg (by decide)) | ((try simp only [decide_eq_true_eq, decide_eq_false_iff_not, Bool.not_eq_true', Bool.not_eq_false', Bool.not_true, Bool.not_false, Bool.not_not, Int.not_lt, Int.not_le, Nat.not_lt, Nat.not_le, gt_iff_lt, ge_iff_le, List.cons.injEq, and_true] at hg); first | (exact absurd trivial hg) | (exfalso; omega) | (have hT : True := hg; clear hT hg) | skip)))
 | ((with_reducible apply ds_nil))
 )
    rw [← hst]
    refine ⟨j + 1, ?_, ?_, by refine weak_mk rfl ?_ ?_ <;> repeat (first | exact envW_nil | exact heapW_nil | refine envW_cons rfl rfl ?_ | refine heapW_cons rfl rfl rfl ?_)⟩
    · show _ - (j + 1) < _ - j; omega
    · show j + 1 ≤ _; omega
  · obtain rfl : j = l.length := by omega
    rw [List.take_length] at hml ⊢
    repeat' (first
 | ((with_reducible apply aw_seq))
 | ((with_reducible apply aw_region))
 | ((with_reducible apply thn_normal))
 | ((with_reducible apply thn_exit))
 | ((with_reducible apply inb_exit))
 | ((with_reducible apply aw_exit))
 | ((with_reducible apply aw_ret))
 | ((with_reducible apply ao_nil))
 | ((with_reducible apply r_move); exact rfl; exact rfl)
 | ((with_reducible apply r_assign); exact rfl; exact rfl)
 | ((with_reducible apply r_lss); exact rfl; exact rfl; exact rfl)
 | (((with_reducible apply aw_cond); exact rfl) <;> intro hg <;> (first | (exact absurd hg (by decide)) | ((try simp only [decide_eq_true_eq, decide_eq_false_iff_not, Bool.not_eq_true', Bool.not_eq_false', Bool.not_true, Bool.not_false, Bool.not_not, Int.not_lt, Int.not_le, Nat.not_lt, Nat.not_le, gt_iff_lt, ge_iff_le, List.cons.injEq, and_true] at hg); first | (exact absurd trivial hg) | (exfalso; omega) | (have hT : True := hg; clear hT hg) | skip)))
 )
    exact ret2 (.cons (.tmp rfl (cl_vec rfl (by rw [flat_len EncL.len, hml]))) (.cons (.tmp rfl cl_c) .nil))
noncomputable def sumP (K : List Kl) (l : List Lg) : Int := (l.map (fun x => priceS K x.1 x.2)).sum
end Go.Proofs.YtkhljpbkebnnmaaGreatDoor.Bu
/- Walks of bucking: the reference's Logs, and what compares stems. -/
namespace Go.Proofs.YtkhljpbkebnnmaaGreatDoor.Bu
set_option linter.unusedVariables false
set_option linter.unusedSimpArgs false
open Go.RowKit Go.Proofs.YtkhljpbkebnnmaaGreatDoor.Ev Go.Proofs.YtkhljpbkebnnmaaGreatDoor.Ge
variable {gl : List (Nat × List CV)}
instance : EqInts Tryz.prog 91 7 := ⟨fun w x y p q ha hb => by
  match p, q, ha, hb with
  | [a0, a1, a2, a3, a4, a5, a6], [b0, b1, b2, b3, b4, b5, b6], _, _ =>
    constructor <;> (simp [go_sem, Sem.run_bind]; (repeat split) <;> simp_all)⟩
end Go.Proofs.YtkhljpbkebnnmaaGreatDoor.Bu
/- Bucking: the examples, reckoned. -/
namespace Go.Proofs.YtkhljpbkebnnmaaGreatDoor.Bu
set_option linter.unusedVariables false
set_option linter.unusedSimpArgs false
open Go.RowKit Go.Proofs.YtkhljpbkebnnmaaGreatDoor.Ev Go.Proofs.YtkhljpbkebnnmaaGreatDoor.Ge
def LM (m : Int) : List Slc := [⟨m, Sq⟩]
theorem LM_chk {m : Int} (h : 1 ≤ m ∧ m ≤ 20000) : solChk (LM m) = 0 := by
  unfold solChk
  rw [if_neg (by show ¬ (1 = 0); decide), if_neg (by show ¬ 24 < 1; decide)]
  unfold LM solGo
  rw [if_neg (fun h => h Sq_chk), if_neg (by show ¬ (20 = 0); decide), if_neg (by show ¬ (m < 1 ∨ 20000 - 0 < m); omega)]
  rfl
theorem LM_top {m : Int} (h : 1 ≤ m ∧ m ≤ 20000) : topS (LM m) = 225 := by unfold topS; rw [if_pos (LM_chk h)]; exact Sq_dia
theorem LM_len {m : Int} (h : 1 ≤ m ∧ m ≤ 20000) : lengthS (LM m) = m := by
  unfold lengthS; rw [valL_ok (LM_chk h)]
  show 0 + m = m; omega
theorem LM_vol {m : Int} (h : 1 ≤ m ∧ m ≤ 20000) : volS (LM m) = m * 40000 := by
  unfold volS; rw [valL_ok (LM_chk h)]
  show 0 + m * areaV Sq = m * 40000
  rw [← areaS_ok Sq_chk, Sq_area]; omega
theorem LM_sweep (m : Int) : sweepS (LM m) = 0 := if_neg (fun h => absurd h.2 (by show ¬ 3 ≤ 1; decide))
theorem LM_taper {m : Int} (h : 1 ≤ m ∧ m ≤ 20000) : taperS (LM m) = 0 := by
  unfold taperS
  rw [if_pos (LM_chk h)]
  show max 0 (diaS Sq - diaS Sq) * 10000 / _ = 0
  rw [Int.sub_self]; simp
theorem LM_meas {m : Int} (h : 1 ≤ m ∧ m ≤ 20000) : measL (LM m) [] = ⟨225, m, 0, 0, 0, 0⟩ := by
  unfold measL
  rw [LM_top h, LM_len h, LM_sweep, LM_taper h]; rfl
def kX : Kl := ⟨nmA, 200, 2000, 6000, 100, 100, 100, 100, 1000⟩
theorem chk_X : klChk [kX] = 0 := by
  unfold klChk
  rw [if_neg (by decide)]
  unfold klGo
  rw [if_neg (by show ¬ nameS nmA = false; rw [nm_a]; decide), if_neg (by decide), if_neg (by decide)]
  rfl
theorem price_X {m : Int} (h : 2000 ≤ m ∧ m ≤ 6000) : priceS [kX] (LM m) [] = 1000 * (m * 40000) / 1000000000 := by
  have h' : 1 ≤ m ∧ m ≤ 20000 := by omega
  have ho : ofS [kX] (LM m) [] = (((0 : Nat) : Int), true) := of_some (i := 0) chk_X (by decide) (by
    show fitS (LM m) [] kX = true
    rw [fit_ok ⟨LM_chk h', rfl⟩, LM_meas h']
    unfold fitM
    exact decide_eq_true ⟨by show (200 : Int) ≤ 225; decide, by show 2000 ≤ m; omega, by show m ≤ 6000; omega, by show (0 : Int) ≤ 100; decide, by show (0 : Int) ≤ 100; decide, by show (0 : Int) ≤ 100; decide, by show (0 : Int) ≤ 100; decide⟩) (fun j hj hji => absurd hji (Nat.not_lt_zero _))
  rw [priceS_some (i := 0) (by decide) ho, LM_vol h']
  rfl
def sX : Lg := (LM 5000, [])
def pX (k : Int) : Plan := ⟨[kX], [20, 30], 100, k⟩
theorem part_X {q n : Int} (hq : 0 ≤ q) (hn : 1 ≤ n) (hqn : q + n ≤ 50) : partS sX (q * 100, (q + n) * 100) = (LM (n * 100), []) := by
  unfold partS sX
  have : cutS (LM 5000) (q * 100, (q + n) * 100) = LM (n * 100) := by
    unfold cutS
    rw [valL_ok (LM_chk (by decide))]
    have ho : ovZ (LM 5000) (q * 100, (q + n) * 100) 0 = n * 100 := by
      show max 0 (min (0 + 5000) ((q + n) * 100) - max 0 (q * 100)) = n * 100
      omega
    show (if 0 < ovZ (LM 5000) (q * 100, (q + n) * 100) 0 then ([] : List Slc) ++ [(⟨ovZ (LM 5000) (q * 100, (q + n) * 100) 0, secD (LM 5000) 0⟩ : Slc)] else []) = _
    rw [ho, if_pos (by omega)]; rfl
  rw [this]; rfl
theorem gain_X (k : Int) {q n : Int} (hq : 0 ≤ q) (hn : 20 ≤ n ∧ n ≤ 30) (hqn : q + n ≤ 50) : gainS (pX k) sX q n = 1000 * (n * 100 * 40000) / 1000000000 := by
  have e : ∀ Z : Span, Z = (q * 100, (q + n) * 100) → priceS [kX] (partS sX Z).1 (partS sX Z).2 = 1000 * (n * 100 * 40000) / 1000000000 := by
    intro Z hZ
    subst hZ
    rw [part_X hq (by omega) hqn]
    exact price_X (m := n * 100) (by omega)
  exact e _ rfl
def XL (k : Int) : Cu.Line := ⟨50, k, 1, [20, 30], [List.replicate 31 80, List.replicate 21 120], List.replicate 50 0, List.replicate 50 0⟩
theorem rows_X (k : Int) {n g : Int} {c : Nat} (hn : 20 ≤ n ∧ n ≤ 30) (hc : (c : Int) = 51 - n) (hg : 1000 * (n * 100 * 40000) / 1000000000 = g) : rowL (pX k) sX 50 n = List.replicate c g := by
  refine List.eq_replicate_iff.2 ⟨by rw [rowL_len]; omega, fun x hx => ?_⟩
  obtain ⟨i, hi, rfl⟩ := List.mem_iff_getElem.1 hx
  rw [rowL_get]
  rw [rowL_len] at hi
  rw [gain_X k (by omega) hn (by omega)]; exact hg
theorem line_X (k : Int) : lineOf (pX k) sX 50 = XL k := by
  unfold lineOf XL
  show (⟨50, k, 1, [20, 30], [rowL (pX k) sX 50 20, rowL (pX k) sX 50 30], _, _⟩ : Cu.Line) = _
  rw [rows_X k (n := 20) (g := 80) (c := 31) (by decide) (by decide) (by decide), rows_X k (n := 30) (g := 120) (c := 21) (by decide) (by decide) (by decide)]; rfl
theorem chk_pX {k : Int} (hk : 0 ≤ k ∧ k ≤ 20) : planChk (pX k) = 0 := (pc_ok (p := pX k) chk_X (by show ¬ (2 = 0); decide) (by show ¬ 32 < 2; decide) (fun i hi => by
  have hi : i < 2 := hi
  match i, hi with
  | 0, _ => rfl
  | 1, _ => rfl) (by unfold unitBad pX; dsimp only; omega)).symm
theorem lineS_X {k : Int} (hk : 0 ≤ k ∧ k ≤ 20) : lineS (pX k) sX = (XL k, 0) := by
  have h1 : lengthS sX.1 / (pX k).unit = 50 := by
    show lengthS (LM 5000) / 100 = 50
    rw [LM_len (by decide)]; rfl
  have := ls_ok (p := pX k) (s := sX) (chk_pX hk) (LM_chk (by decide)) rfl (by rw [h1]; decide)
  rw [h1, line_X] at this
  exact this
theorem chk_XL {k : Int} (hk : 0 ≤ k ∧ k ≤ 20) : Cu.chk (XL k) = 0 := by
  rw [← line_X k]
  exact line_chk (plan_ok (chk_pX hk)) sX (by decide)
def V0 (e : Int) : Int := if e ≤ 0 then 200 else if e ≤ 10 then 160 else if e ≤ 20 then 120 else if e ≤ 30 then 80 else 0
def U0 (e : Int) : Cu.Ch := if e ≤ 10 then (0, e, V0 e) else if e ≤ 20 then (1, e, V0 e) else if e ≤ 30 then (0, e, V0 e) else (-1, -1, 0)
def V1 (e : Int) : Int := if e ≤ 9 then 160 else if e ≤ 20 then 120 else if e ≤ 30 then 80 else 0
def U1 (e : Int) : Cu.Ch := if e ≤ 9 then (0, e, V1 e) else if e ≤ 20 then (1, e, V1 e) else if e ≤ 30 then (0, e, V1 e) else (-1, -1, 0)
theorem tabX0 : ∀ k : Nat, k ≤ 50 → Cu.chooseS (XL 0) V0 k = U0 k ∧ (U0 k).2.2 = V0 k := by decide +kernel
theorem tabX1 : ∀ k : Nat, k ≤ 50 → Cu.chooseS (XL 1) V1 k = U1 k ∧ (U1 k).2.2 = V1 k := by decide +kernel
theorem TTX0 (k : Nat) (hk : k ≤ 50) : Cu.TT (XL 0) k = U0 k := Cu.TT_table (Cu.valid_of (chk_XL (by decide))) V0 U0 tabX0 (50 - k) k (by show 50 - k + k = 50; omega)
theorem TTX1 (k : Nat) (hk : k ≤ 50) : Cu.TT (XL 1) k = U1 k := Cu.TT_table (Cu.valid_of (chk_XL (by decide))) V1 U1 tabX1 (50 - k) k (by show 50 - k + k = 50; omega)
theorem best_X0 : Cu.bestS (XL 0) = ([(0, 0), (1, 20)], 200, 0) := by
  rw [Cu.best_ok (chk_XL (by decide))]
  have t0 : Cu.TT (XL 0) 0 = (0, 0, 200) := TTX0 0 (by decide)
  have t1 : Cu.TT (XL 0) 20 = (1, 20, 120) := TTX0 20 (by decide)
  have hv : Cu.TV (XL 0) 0 = 200 := by unfold Cu.TV; rw [t0]
  rw [hv]
  show (Cu.chainS (XL 0) (49 + 1 + 1 + 1) 0, _, _) = _
  rw [Cu.chain_go (by decide) (by rw [t0]; decide), t0]
  dsimp only
  rw [show Cu.behindS (XL 0) (0 + Cu.szOf (XL 0) 0) = 20 from by decide, Cu.chain_go (by decide) (by rw [t1]; decide), t1]
  dsimp only
  rw [show Cu.behindS (XL 0) (20 + Cu.szOf (XL 0) 1) = -1 from by decide, Cu.chain_stop (.inl (by decide))]
theorem best_X1 : Cu.bestS (XL 1) = ([(0, 0), (0, 21)], 160, 0) := by
  rw [Cu.best_ok (chk_XL (by decide))]
  have t0 : Cu.TT (XL 1) 0 = (0, 0, 160) := TTX1 0 (by decide)
  have t1 : Cu.TT (XL 1) 21 = (0, 21, 80) := TTX1 21 (by decide)
  have t2 : Cu.TT (XL 1) 42 = (-1, -1, 0) := TTX1 42 (by decide)
  have hv : Cu.TV (XL 1) 0 = 160 := by unfold Cu.TV; rw [t0]
  rw [hv]
  show (Cu.chainS (XL 1) (49 + 1 + 1 + 1) 0, _, _) = _
  rw [Cu.chain_go (by decide) (by rw [t0]; decide), t0]
  dsimp only
  rw [show Cu.behindS (XL 1) (0 + Cu.szOf (XL 1) 0) = 21 from by decide, Cu.chain_go (by decide) (by rw [t1]; decide), t1]
  dsimp only
  rw [show Cu.behindS (XL 1) (21 + Cu.szOf (XL 1) 0) = 42 from by decide, Cu.chain_stop (.inr (by rw [t2]; decide))]
theorem cuts_X0 : Cu.cutsS (XL 0) [(0, 0), (1, 20)] = (0, [], []) := by
  unfold Cu.cutsS; rw [if_neg (fun hh => hh (chk_XL (by decide)))]; decide +kernel
theorem bb_X0 : bbS (pX 0) sX = ([(0, 0), (1, 20)], 200, 0) := by unfold bbS; rw [lineS_X (by decide), if_neg (fun hh => hh rfl)]; exact best_X0
theorem bb_X1 : bbS (pX 1) sX = ([(0, 0), (0, 21)], 160, 0) := by unfold bbS; rw [lineS_X (by decide), if_neg (fun hh => hh rfl)]; exact best_X1
theorem logs_X0 : logsS (pX 0) sX [(0, 0), (1, 20)] = ([(LM 2000, []), (LM 3000, [])], 0) := by
  unfold logsS
  rw [lineS_X (by decide), if_neg (fun hh => hh rfl), cuts_X0, if_neg (fun hh => hh rfl)]
  show ([partS sX (0 * 100, (0 + 20) * 100), partS sX (20 * 100, (20 + 30) * 100)], (0 : Int)) = _
  rw [part_X (by decide) (by decide) (by decide), part_X (by decide) (by decide) (by decide)]; rfl
theorem plan0 : planChk ⟨[], [], 0, 0⟩ = 3 := (pc_none (p := ⟨[], [], 0, 0⟩) rfl rfl).symm
end Go.Proofs.YtkhljpbkebnnmaaGreatDoor.Bu
/- Walks of the laws on bucking: plan, stem, light, awake. -/
namespace Go.Proofs.YtkhljpbkebnnmaaGreatDoor.Bu
set_option linter.unusedVariables false
set_option linter.unusedSimpArgs false
open Go.RowKit Go.Proofs.YtkhljpbkebnnmaaGreatDoor.Ev Go.Proofs.YtkhljpbkebnnmaaGreatDoor.Ge
variable {gl : List (Nat × List CV)}
theorem ao_app {P : Program} {ops : Array Oper} {Q : Exit → St → Prop} {st : St} {o : Oper} {l1 l2 : List Oper} (h : AOps P ops Q (o :: (List.append l1 l2)) st) : AOps P ops Q (List.append (o :: l1) l2) st := h
theorem ao_app0 {P : Program} {ops : Array Oper} {Q : Exit → St → Prop} {st : St} {l2 : List Oper} (h : AOps P ops Q l2 st) : AOps P ops Q (List.append [] l2) st := h
theorem plan_con (p : Plan) : Con Tryz.prog gl 9 [planV p] (planV p) := by
  refine con_of Tryz.func9 rfl (by kernel_rfl) rfl ?_
  simp only [Tryz.ntmps9, Tryz.results9, argEnv, ofC, of1, List.map]
  repeat' (first
 | ((with_reducible apply aw_seq))
 | ((with_reducible apply aw_region))
 | ((with_reducible apply thn_normal))
 | ((with_reducible apply aw_ret))
 | ((with_reducible apply ao_nil))
 | ((with_reducible apply r_field_p); exact rfl; exact rfl)
 | ((with_reducible apply r_load_p); exact rfl; exact rfl; exact rfl; exact rfl)
 | ((with_reducible apply r_box_a); exact rfl; exact rfl)
 | ((with_reducible apply r_store_pa); exact rfl; exact rfl; exact rfl; exact rfl; exact rfl; exact rfl)
 | ((with_reducible apply r_build); exact rfl; exact rfl; exact rfl)
 | ((with_reducible apply r_alloc); exact rfl)
 )
  exact ret1 (.cell_a inferInstance rfl rfl rfl rfl (cl_cons cl_c (cl_cons cl_c (cl_cons cl_c (cl_cons cl_c cl_nil)))))
theorem stem_con (s : Lg) : Con Tryz.prog gl 10 [lgV s] (lgV s) := by
  refine con_of Tryz.func10 rfl (by kernel_rfl) rfl ?_
  simp only [Tryz.ntmps10, Tryz.results10, argEnv, ofC, of1, List.map]
  repeat' (first
 | ((with_reducible apply aw_seq))
 | ((with_reducible apply aw_region))
 | ((with_reducible apply thn_normal))
 | ((with_reducible apply aw_ret))
 | ((with_reducible apply ao_nil))
 | ((with_reducible apply r_field_p); exact rfl; exact rfl)
 | ((with_reducible apply r_load_p); exact rfl; exact rfl; exact rfl; exact rfl)
 | ((with_reducible apply r_box_a); exact rfl; exact rfl)
 | ((with_reducible apply r_store_pa); exact rfl; exact rfl; exact rfl; exact rfl; exact rfl; exact rfl)
 | ((with_reducible apply r_build); exact rfl; exact rfl; exact rfl)
 | ((with_reducible apply r_alloc); exact rfl)
 )
  exact ret1 (.cell_a inferInstance rfl rfl rfl rfl (cl_cons cl_c (cl_cons cl_c cl_nil)))
abbrev caseV (p : Plan) (s : Lg) : CV := .agg [LK p.classes, LI p.lens, I p.unit, I p.kerf, LL s.1, LD s.2]
def big (p : Plan) (s : Lg) : Prop := 20 < p.classes.length ∨ (8 < p.lens.length ∧ p.lens.length ≤ 32) ∨ 40 < p.lens.length ∨ 8 < s.1.length ∨ 70 < s.2.length
theorem light_con (p : Plan) (s : Lg) (hK : p.classes.length ≤ maxLen) (hl : s.1.length ≤ maxLen) : ∃ b, Con Tryz.prog gl 6 [caseV p s] (.v (.bool b)) := by
  have c0 := rpcheck_con (gl := gl) p hK
  have c1 := rscheck_con (gl := gl) s.1 hl
  have c2 := rslength_con (gl := gl) s.1 hl
  by_cases hb : big p s
  · refine ⟨false, ?_⟩
    unfold big at hb
    refine con_of Tryz.func6 rfl (by kernel_rfl) rfl ?_
    simp only [Tryz.ntmps6, Tryz.results6, argEnv, ofC, of1, List.map]
    rcases (show 20 < p.classes.length ∨ (¬ 20 < p.classes.length ∧ 8 < p.lens.length ∧ p.lens.length ≤ 32) ∨ (¬ 20 < p.classes.length ∧ ¬ (8 < p.lens.length ∧ p.lens.length ≤ 32) ∧ 40 < p.lens.length) ∨ (¬ 20 < p.classes.length ∧ ¬ (8 < p.lens.length ∧ p.lens.length ≤ 32) ∧ ¬ 40 < p.lens.length ∧ 8 < s.1.length) ∨ (¬ 20 < p.classes.length ∧ ¬ (8 < p.lens.length ∧ p.lens.length ≤ 32) ∧ ¬ 40 < p.lens.length ∧ ¬ 8 < s.1.length ∧ 70 < s.2.length) by omega) with h | ⟨h1, h2, h3⟩ | ⟨h1, h2, h3⟩ | ⟨h1, h2, h3, h4⟩ | ⟨h1, h2, h3, h4, h5⟩
    all_goals
      repeat' (first
 | ((with_reducible apply aw_seq))
 | ((with_reducible apply aw_region))
 | ((with_reducible apply thn_normal))
 | ((with_reducible apply thn_ret))
 | ((with_reducible apply aw_ret))
 | ((with_reducible apply ao_nil))
 | ((with_reducible apply r_move); exact rfl; exact rfl)
 | ((with_reducible apply r_assign); exact rfl; exact rfl)
 | ((with_reducible apply r_field_p); exact rfl; exact rfl)
 | ((with_reducible apply r_load_p); exact rfl; exact rfl; exact rfl; exact rfl)
 | ((with_reducible apply r_leq); exact rfl; exact rfl; exact rfl)
 | ((with_reducible apply r_gtr); exact rfl; exact rfl; exact rfl)
 | ((with_reducible apply r_box_a); exact rfl; exact rfl)
 | ((with_reducible apply r_pick_t); exact rfl; exact rfl; exact rfl)
 | ((with_reducible apply r_pick_f); exact rfl; exact rfl; exact rfl)
 | ((with_reducible apply r_len_f); exact rfl; exact inferInstance; exact rfl)
 | (((with_reducible apply r_guard); exact rfl; exact rfl; exact rfl; exact rfl) <;> intro hg <;> (first | (exact absurd hg (by decide)) | ((try simp only [decide_eq_true_eq, decide_eq_false_iff_not, Bool.not_eq_true', Bool.not_eq_false', Bool.not_true, Bool.not_false, Bool.not_not, Int.not_lt, Int.not_le, Nat.not_lt, Nat.not_le, gt_iff_lt, ge_iff_le, List.cons.injEq, and_true] at hg); first | (exact absurd trivial hg) | (exfalso; omega) | (have hT : True := hg; clear hT hg) | skip)))
 | ((with_reducible apply r_guard_none); exact rfl; exact rfl; exact rfl; exact rfl)
 | (((with_reducible apply aw_cond); exact rfl) <;> intro hg <;> (first | (exact absurd hg (by decide)) | ((try simp only [decide_eq_true_eq, decide_eq_false_iff_not, Bool.not_eq_true', Bool.not_eq_false', Bool.not_true, Bool.not_false, Bool.not_not, Int.not_lt, Int.not_le, Nat.not_lt, Nat.not_le, gt_iff_lt, ge_iff_le, List.cons.injEq, and_true] at hg); first | (exact absurd trivial hg) | (exfalso; omega) | (have hT : True := hg; clear hT hg) | skip)))
 )
      all_goals exact ret_b rfl rfl
  unfold big at hb
  by_cases h0 : planChk p = 0
  rotate_left
  · refine ⟨true, ?_⟩
    refine con_of Tryz.func6 rfl (by kernel_rfl) rfl ?_
    simp only [Tryz.ntmps6, Tryz.results6, argEnv, ofC, of1, List.map]
    repeat' (first
 | ((with_reducible apply r_call); exact rfl; exact rfl; exact c0; exact rfl; exact rfl)
 | ((with_reducible apply aw_seq))
 | ((with_reducible apply aw_region))
 | ((with_reducible apply thn_normal))
 | ((with_reducible apply aw_skip))
 | ((with_reducible apply aw_ret))
 | ((with_reducible apply ao_nil))
 | ((with_reducible apply r_move); exact rfl; exact rfl)
 | ((with_reducible apply r_assign); exact rfl; exact rfl)
 | ((with_reducible apply r_field_p); exact rfl; exact rfl)
 | ((with_reducible apply r_load_p); exact rfl; exact rfl; exact rfl; exact rfl)
 | ((with_reducible apply r_load_pa); exact rfl; exact rfl; exact rfl; exact rfl; exact rfl)
 | ((with_reducible apply r_leq); exact rfl; exact rfl; exact rfl)
 | ((with_reducible apply r_gtr); exact rfl; exact rfl; exact rfl)
 | ((with_reducible apply r_neq); exact rfl; exact rfl; exact rfl)
 | ((with_reducible apply r_box_a); exact rfl; exact rfl)
 | ((with_reducible apply r_pick_t); exact rfl; exact rfl; exact rfl)
 | ((with_reducible apply r_pick_f); exact rfl; exact rfl; exact rfl)
 | ((with_reducible apply r_len_f); exact rfl; exact inferInstance; exact rfl)
 | (((with_reducible apply r_guard); exact rfl; exact rfl; exact rfl; exact rfl) <;> intro hg <;> (first | (exact absurd hg (by decide)) | ((try simp only [decide_eq_true_eq, decide_eq_false_iff_not, Bool.not_eq_true', Bool.not_eq_false', Bool.not_true, Bool.not_false, Bool.not_not, Int.not_lt, Int.not_le, Nat.not_lt, Nat.not_le, gt_iff_lt, ge_iff_le, List.cons.injEq, and_true] at hg); first | (exact absurd trivial hg) | (exfalso; omega) | (have hT : True := hg; clear hT hg) | skip)))
 | (((with_reducible apply aw_cond); exact rfl) <;> intro hg <;> (first | (exact absurd hg (by decide)) | ((try simp only [decide_eq_true_eq, decide_eq_false_iff_not, Bool.not_eq_true', Bool.not_eq_false', Bool.not_true, Bool.not_false, Bool.not_not, Int.not_lt, Int.not_le, Nat.not_lt, Nat.not_le, gt_iff_lt, ge_iff_le, List.cons.injEq, and_true] at hg); first | (exact absurd trivial hg) | (exfalso; omega) | (have hT : True := hg; clear hT hg) | skip)))
 | (refine aw_drawq ?_ ?_; (kernel_rfl))
 | ((with_reducible apply ds_nil))
 | (((with_reducible apply rd_guard); exact rfl; exact rfl; exact rfl) <;> intro hg <;> (first | (exact absurd hg (by decide)) | ((try rw [hg]); (try simp only [decide_eq_true_eq, decide_eq_false_iff_not, Bool.not_eq_true', Bool.not_eq_false', Bool.not_true, Bool.not_false, Bool.not_not, Int.not_lt, Int.not_le, Nat.not_lt, Nat.not_le, gt_iff_lt, ge_iff_le, List.cons.injEq, and_true] at hg); first | (exact absurd trivial hg) | (exfalso; omega) | (have hT : True := hg; clear hT hg) | skip)))
 )
    all_goals exact ret_b rfl rfl
  rw [h0] at c0
  by_cases h1 : solChk s.1 = 0
  rotate_left
  · refine ⟨true, ?_⟩
    refine con_of Tryz.func6 rfl (by kernel_rfl) rfl ?_
    simp only [Tryz.ntmps6, Tryz.results6, argEnv, ofC, of1, List.map]
    repeat' (first
 | ((with_reducible apply r_call); exact rfl; exact rfl; (first | exact c0 | exact c1); exact rfl; exact rfl)
 | ((with_reducible apply aw_seq))
 | ((with_reducible apply aw_region))
 | ((with_reducible apply thn_normal))
 | ((with_reducible apply aw_skip))
 | ((with_reducible apply aw_ret))
 | ((with_reducible apply ao_nil))
 | ((with_reducible apply r_move); exact rfl; exact rfl)
 | ((with_reducible apply r_assign); exact rfl; exact rfl)
 | ((with_reducible apply r_field_p); exact rfl; exact rfl)
 | ((with_reducible apply r_load_p); exact rfl; exact rfl; exact rfl; exact rfl)
 | ((with_reducible apply r_load_pa); exact rfl; exact rfl; exact rfl; exact rfl; exact rfl)
 | ((with_reducible apply r_leq); exact rfl; exact rfl; exact rfl)
 | ((with_reducible apply r_gtr); exact rfl; exact rfl; exact rfl)
 | ((with_reducible apply r_neq); exact rfl; exact rfl; exact rfl)
 | ((with_reducible apply r_box_a); exact rfl; exact rfl)
 | ((with_reducible apply r_pick_t); exact rfl; exact rfl; exact rfl)
 | ((with_reducible apply r_pick_f); exact rfl; exact rfl; exact rfl)
 | ((with_reducible apply r_len_f); exact rfl; exact inferInstance; exact rfl)
 | (((with_reducible apply r_guard); exact rfl; exact rfl; exact rfl; exact rfl) <;> intro hg <;> (first | (exact absurd hg (by decide)) | ((try simp only [decide_eq_true_eq, decide_eq_false_iff_not, Bool.not_eq_true', Bool.not_eq_false', Bool.not_true, Bool.not_false, Bool.not_not, Int.not_lt, Int.not_le, Nat.not_lt, Nat.not_le, gt_iff_lt, ge_iff_le, List.cons.injEq, and_true] at hg); first | (exact absurd trivial hg) | (exfalso; omega) | (have hT : True := hg; clear hT hg) | skip)))
 | (((with_reducible apply aw_cond); exact rfl) <;> intro hg <;> (first | (exact absurd hg (by decide)) | ((try simp only [decide_eq_true_eq, decide_eq_false_iff_not, Bool.not_eq_true', Bool.not_eq_false', Bool.not_true, Bool.not_false, Bool.not_not, Int.not_lt, Int.not_le, Nat.not_lt, Nat.not_le, gt_iff_lt, ge_iff_le, List.cons.injEq, and_true] at hg); first | (exact absurd trivial hg) | (exfalso; omega) | (have hT : True := hg; clear hT hg) | skip)))
 | (refine aw_drawq ?_ ?_; (kernel_rfl))
 | ((with_reducible apply ds_nil))
 | (((with_reducible apply rd_guard); exact rfl; exact rfl; exact rfl) <;> intro hg <;> (first | (exact absurd hg (by decide)) | ((try rw [hg]); (try simp only [decide_eq_true_eq, decide_eq_false_iff_not, Bool.not_eq_true', Bool.not_eq_false', Bool.not_true, Bool.not_false, Bool.not_not, Int.not_lt, Int.not_le, Nat.not_lt, Nat.not_le, gt_iff_lt, ge_iff_le, List.cons.injEq, and_true] at hg); first | (exact absurd trivial hg) | (exfalso; omega) | (have hT : True := hg; clear hT hg) | skip)))
 )
    all_goals exact ret_b rfl rfl
  rw [h1] at c1
  have hu := (plan_ok h0).unit
  have hlb := length_bd s.1
  obtain ⟨L, eL⟩ : ∃ L, L = lengthS s.1 := ⟨_, rfl⟩
  rw [← eL] at c2 hlb
  have hq : L.tdiv p.unit = L / p.unit := Int.tdiv_eq_ediv_of_nonneg hlb.1
  have hq0 : 0 ≤ L / p.unit := Int.ediv_nonneg hlb.1 (by omega)
  have hq1 : L / p.unit ≤ 20000 := Int.le_trans (Int.ediv_le_self _ hlb.1) hlb.2
  have hf : fits (L.tdiv p.unit) := by rw [hq]; unfold fits; omega
  obtain ⟨u, eu⟩ : ∃ u, u = L.tdiv p.unit := ⟨_, rfl⟩
  refine ⟨decide (u ≤ 60) || decide (u > 2000), ?_⟩
  refine con_of Tryz.func6 rfl (by kernel_rfl) rfl ?_
  simp only [Tryz.ntmps6, Tryz.results6, argEnv, ofC, of1, List.map]
  by_cases g1 : u ≤ 60
  · skip
    repeat' (first
 | ((with_reducible apply r_call); exact rfl; exact rfl; (first | exact c0 | exact c1 | exact c2); exact rfl; exact rfl)
 | ((with_reducible apply r_quo); exact rfl; exact rfl; exact (by omega); exact hf; exact rfl; rw [← eu])
 | ((with_reducible apply aw_seq))
 | ((with_reducible apply aw_region))
 | ((with_reducible apply thn_normal))
 | ((with_reducible apply aw_skip))
 | ((with_reducible apply aw_ret))
 | ((with_reducible apply ao_nil))
 | ((with_reducible apply r_move); exact rfl; exact rfl)
 | ((with_reducible apply r_assign); exact rfl; exact rfl)
 | ((with_reducible apply r_field_p); exact rfl; exact rfl)
 | ((with_reducible apply r_load_p); exact rfl; exact rfl; exact rfl; exact rfl)
 | ((with_reducible apply r_load_pa); exact rfl; exact rfl; exact rfl; exact rfl; exact rfl)
 | ((with_reducible apply r_leq); exact rfl; exact rfl; exact rfl)
 | ((with_reducible apply r_gtr); exact rfl; exact rfl; exact rfl)
 | ((with_reducible apply r_neq); exact rfl; exact rfl; exact rfl)
 | ((with_reducible apply r_box_a); exact rfl; exact rfl)
 | ((with_reducible apply r_pick_t); exact rfl; exact rfl; exact rfl)
 | ((with_reducible apply r_pick_f); exact rfl; exact rfl; exact rfl)
 | ((with_reducible apply r_len_f); exact rfl; exact inferInstance; exact rfl)
 | (((with_reducible apply r_guard); exact rfl; exact rfl; exact rfl; exact rfl) <;> intro hg <;> (first | (exact absurd hg (by decide)) | ((try simp only [decide_eq_true_eq, decide_eq_false_iff_not, Bool.not_eq_true', Bool.not_eq_false', Bool.not_true, Bool.not_false, Bool.not_not, Int.not_lt, Int.not_le, Nat.not_lt, Nat.not_le, gt_iff_lt, ge_iff_le, List.cons.injEq, and_true] at hg); first | (exact absurd trivial hg) | (exfalso; omega) | (have hT : True := hg; clear hT hg) | skip)))
 | (((with_reducible apply aw_cond); exact rfl) <;> intro hg <;> (first | (exact absurd hg (by decide)) | ((try simp only [decide_eq_true_eq, decide_eq_false_iff_not, Bool.not_eq_true', Bool.not_eq_false', Bool.not_true, Bool.not_false, Bool.not_not, Int.not_lt, Int.not_le, Nat.not_lt, Nat.not_le, gt_iff_lt, ge_iff_le, List.cons.injEq, and_true] at hg); first | (exact absurd trivial hg) | (exfalso; omega) | (have hT : True := hg; clear hT hg) | skip)))
 | (refine aw_drawq ?_ ?_; (kernel_rfl))
 | ((with_reducible apply ds_nil))
 | (((with_reducible apply rd_guard); exact rfl; exact rfl; exact rfl) <;> intro hg <;> (first | (exact absurd hg (by decide)) | ((try rw [hg]); (try simp only [decide_eq_true_eq, decide_eq_false_iff_not, Bool.not_eq_true', Bool.not_eq_false', Bool.not_true, Bool.not_false, Bool.not_not, Int.not_lt, Int.not_le, Nat.not_lt, Nat.not_le, gt_iff_lt, ge_iff_le, List.cons.injEq, and_true] at hg); first | (exact absurd trivial hg) | (exfalso; omega) | (have hT : True := hg; clear hT hg) | skip)))
 )
    all_goals first | exact ret_b rfl (by simp) | exact ret_b rfl (by simp [g1])
  · skip
    repeat' (first
 | ((with_reducible apply r_call); exact rfl; exact rfl; (first | exact c0 | exact c1 | exact c2); exact rfl; exact rfl)
 | ((with_reducible apply r_quo); exact rfl; exact rfl; exact (by omega); exact hf; exact rfl; rw [← eu])
 | ((with_reducible apply aw_seq))
 | ((with_reducible apply aw_region))
 | ((with_reducible apply thn_normal))
 | ((with_reducible apply aw_skip))
 | ((with_reducible apply aw_ret))
 | ((with_reducible apply ao_nil))
 | ((with_reducible apply r_move); exact rfl; exact rfl)
 | ((with_reducible apply r_assign); exact rfl; exact rfl)
 | ((with_reducible apply r_field_p); exact rfl; exact rfl)
 | ((with_reducible apply r_load_p); exact rfl; exact rfl; exact rfl; exact rfl)
 | ((with_reducible apply r_load_pa); exact rfl; exact rfl; exact rfl; exact rfl; exact rfl)
 | ((with_reducible apply r_leq); exact rfl; exact rfl; exact rfl)
 | ((with_reducible apply r_gtr); exact rfl; exact rfl; exact rfl)
 | ((with_reducible apply r_neq); exact rfl; exact rfl; exact rfl)
 | ((with_reducible apply r_box_a); exact rfl; exact rfl)
 | ((with_reducible apply r_pick_t); exact rfl; exact rfl; exact rfl)
 | ((with_reducible apply r_pick_f); exact rfl; exact rfl; exact rfl)
 | ((with_reducible apply r_len_f); exact rfl; exact inferInstance; exact rfl)
 | (((with_reducible apply r_guard); exact rfl; exact rfl; exact rfl; exact rfl) <;> intro hg <;> (first | (exact absurd hg (by decide)) | ((try simp only [decide_eq_true_eq, decide_eq_false_iff_not, Bool.not_eq_true', Bool.not_eq_false', Bool.not_true, Bool.not_false, Bool.not_not, Int.not_lt, Int.not_le, Nat.not_lt, Nat.not_le, gt_iff_lt, ge_iff_le, List.cons.injEq, and_true] at hg); first | (exact absurd trivial hg) | (exfalso; omega) | (have hT : True := hg; clear hT hg) | skip)))
 | (((with_reducible apply aw_cond); exact rfl) <;> intro hg <;> (first | (exact absurd hg (by decide)) | ((try simp only [decide_eq_true_eq, decide_eq_false_iff_not, Bool.not_eq_true', Bool.not_eq_false', Bool.not_true, Bool.not_false, Bool.not_not, Int.not_lt, Int.not_le, Nat.not_lt, Nat.not_le, gt_iff_lt, ge_iff_le, List.cons.injEq, and_true] at hg); first | (exact absurd trivial hg) | (exfalso; omega) | (have hT : True := hg; clear hT hg) | skip)))
 | (refine aw_drawq ?_ ?_; (kernel_rfl))
 | ((with_reducible apply ds_nil))
 | (((with_reducible apply rd_guard); exact rfl; exact rfl; exact rfl) <;> intro hg <;> (first | (exact absurd hg (by decide)) | ((try rw [hg]); (try simp only [decide_eq_true_eq, decide_eq_false_iff_not, Bool.not_eq_true', Bool.not_eq_false', Bool.not_true, Bool.not_false, Bool.not_not, Int.not_lt, Int.not_le, Nat.not_lt, Nat.not_le, gt_iff_lt, ge_iff_le, List.cons.injEq, and_true] at hg); first | (exact absurd trivial hg) | (exfalso; omega) | (have hT : True := hg; clear hT hg) | skip)))
 )
    all_goals first | exact ret_b rfl (by simp) | exact ret_b rfl (by simp [g1])
end Go.Proofs.YtkhljpbkebnnmaaGreatDoor.Bu
/- Walks of the laws on bucking: awake. -/
namespace Go.Proofs.YtkhljpbkebnnmaaGreatDoor.Bu
set_option linter.unusedVariables false
set_option linter.unusedSimpArgs false
open Go.RowKit Go.Proofs.YtkhljpbkebnnmaaGreatDoor.Ev Go.Proofs.YtkhljpbkebnnmaaGreatDoor.Ge
variable {gl : List (Nat × List CV)}
theorem awake18_con : Con Tryz.prog Cu.G 7 [] T := by
  have h1 : Con Tryz.prog Cu.G 15 [planV (pX 0), lgV sX] (.tup [Cu.LP [(0, 0), (1, 20)], I 200, I 0]) := by have := bbest_con (pX 0) sX (by decide) (by decide) (by decide); rw [bb_X0] at this; exact this
  have h2 : Con Tryz.prog Cu.G 15 [planV (pX 1), lgV sX] (.tup [Cu.LP [(0, 0), (0, 21)], I 160, I 0]) := by have := bbest_con (pX 1) sX (by decide) (by decide) (by decide); rw [bb_X1] at this; exact this
  have h3 : Con Tryz.prog Cu.G 18 [planV (pX 0), lgV sX, Cu.LP [(0, 0), (1, 20)]] (.tup [LStem [(LM 2000, []), (LM 3000, [])], I 0]) := by have := blogs_con (gl := Cu.G) (pX 0) sX [(0, 0), (1, 20)] (by decide) (by decide) (by decide) (by decide); rw [logs_X0] at this; exact this
  have h4 : Con Tryz.prog Cu.G 8 [planV (pX 1), lgV sX] (.tup [.agg (Cu.lineL (XL 1)), I 0]) := by have := bline_con (gl := Cu.G) (pX 1) sX (by decide) (by decide) (by decide); rw [lineS_X (by decide)] at this; exact this
  have h5 : Con Tryz.prog Cu.G 12 [planV (pX 1)] (I 0) := by have := pcheck_con (gl := Cu.G) (pX 1) (by decide); rw [chk_pX (by decide)] at this; exact this
  have h6 : Con Tryz.prog Cu.G 12 [planV ⟨[], [], 0, 0⟩] (I 3) := by have := pcheck_con (gl := Cu.G) ⟨[], [], 0, 0⟩ (by decide); rw [plan0] at this; exact this
  have h7 : Con Tryz.prog Cu.G 23 [LL (LM 3000)] (I 3000) := by have := rslength_con (gl := Cu.G) (LM 3000) (by decide); rw [LM_len (by decide)] at this; exact this
  have h8 := Cu.samePieces_con (gl := Cu.G) [(0, 0), (1, 20)] (by decide)
  have h9 := Cu.samePieces_con (gl := Cu.G) [(0, 0), (0, 21)] (by decide)
  have e1 : ((((XL 1).gain[1]'(by decide)).length : Nat) : Int) = 21 := by decide +kernel
  have e2 : ((XL 1).gain[1]'(by decide))[20]'(by decide +kernel) = 120 := by decide +kernel
  refine con_of Tryz.func7 rfl (by kernel_rfl) rfl ?_
  simp only [Tryz.ntmps7, Tryz.results7, argEnv, ofC, of1, List.map]
  repeat' (first
 | ((with_reducible apply aw_seq))
 | ((with_reducible apply aw_region))
 | ((with_reducible apply aw_block))
 | ((with_reducible apply thn_normal))
 | ((with_reducible apply ao_nil))
 | ((with_reducible apply r_assign); exact rfl; exact rfl)
 | ((with_reducible apply r_field_p); exact rfl; exact rfl)
 | ((with_reducible apply r_store_p); exact rfl; exact rfl; exact rfl; exact rfl; exact rfl; exact rfl)
 | ((with_reducible apply r_alloc); exact rfl)
 )
  refine aw_nilcell 0 1 68 2 rfl rfl rfl rfl ?_
  refine aw_loopG (G := List Span) (fun (l : List Span) => l.length ≤ 20 ∧ l = List.replicate l.length (-100, 100)) (fun (l : List Span) => 20 - l.length) (fun (l : List Span) => [(1, .ptr 0 0), (2, A l.length)]) (fun (l : List Span) => [(0, some (.cells 66 [A (-10), .vec 1 l.length])), (1, some (.vec 68 2 (l.flatMap spC)))]) 2 [] ?_ (by refine weak_mk rfl ?_ ?_ <;> repeat (first | exact envW_nil | exact heapW_nil | refine envW_cons rfl rfl ?_ | refine heapW_cons rfl rfl rfl ?_)) rfl ?_
  · exact ⟨Nat.zero_le _, rfl⟩
  rintro l hI
  try dsimp only at hI
  try dsimp only
  obtain ⟨hl, hr⟩ := hI
  by_cases hlt : l.length < 20
  · skip
    repeat' (first
 | ((with_reducible apply (r_push (x0 := ((-100, 100) : Span)))); exact rfl; exact rfl; exact inferInstance; exact rfl; exact rfl; exact rfl; exact rfl; exact (by omega); exact (by omega); exact rfl)
 | ((with_reducible apply aw_seq))
 | ((with_reducible apply aw_region))
 | ((with_reducible apply aw_block))
 | ((with_reducible apply thn_normal))
 | ((with_reducible apply inb_normal))
 | ((with_reducible apply aw_skip))
 | ((with_reducible apply ao_nil))
 | ((with_reducible apply r_move); exact rfl; exact rfl)
 | ((with_reducible apply r_assign); exact rfl; exact rfl)
 | ((with_reducible apply r_field_p); exact rfl; exact rfl)
 | ((with_reducible apply r_load_p); exact rfl; exact rfl; exact rfl; exact rfl)
 | ((with_reducible apply r_lss); exact rfl; exact rfl; exact rfl)
 | ((with_reducible apply r_add); exact rfl; exact rfl; exact (by first | assumption | (unfold fits; omega)); exact rfl)
 | ((with_reducible apply r_store_p); exact rfl; exact rfl; exact rfl; exact rfl; exact rfl; exact rfl)
 | ((with_reducible apply r_build); exact rfl; exact rfl; exact rfl)
 | (((with_reducible apply aw_cond); exact rfl) <;> intro hg <;> (first | (exact absurd hg (by decide)) | ((try simp only [decide_eq_true_eq, decide_eq_false_iff_not, Bool.not_eq_true', Bool.not_eq_false', Bool.not_true, Bool.not_false, Bool.not_not, Int.not_lt, Int.not_le, Nat.not_lt, Nat.not_le, gt_iff_lt, ge_iff_le, List.cons.injEq, and_true] at hg); first | (exact absurd trivial hg) | (exfalso; omega) | (have hT : True := hg; clear hT hg) | skip)))
 | ((with_reducible apply r_lit); exact rfl; exact rfl; exact rfl; exact rfl; exact rfl; exact rfl; exact rfl)
 )
    have e : ((l.length : Int) + 1) = ((l ++ [((-100, 100) : Span)]).length : Int) := by simp
    have e2 : l.length + 1 = (l ++ [((-100, 100) : Span)]).length := by simp
    rw [e, e2]
    refine ⟨l ++ [(-100, 100)], ?_, ?_, by refine weak_mk rfl ?_ ?_ <;> repeat (first | exact envW_nil | exact heapW_nil | refine envW_cons rfl rfl ?_ | refine heapW_cons rfl rfl rfl ?_)⟩
    · show 20 - (l ++ [((-100, 100) : Span)]).length < 20 - l.length; simp; omega
    · refine ⟨by show (l ++ [((-100, 100) : Span)]).length ≤ 20; simp; omega, ?_⟩
      show l ++ [((-100, 100) : Span)] = List.replicate (l ++ [((-100, 100) : Span)]).length (-100, 100)
      rw [List.length_append, List.length_singleton, List.replicate_succ', ← hr]
  · have h20 : l.length = 20 := by omega
    have hq : l = row20 := by rw [hr, h20]; rfl
    refine aw_freezecell 0 1 (E := 68) (size := 2) (xs := l.flatMap spC) rfl rfl rfl (flat_len EncL.len l) rfl ?_
    rw [hq]
    repeat' (first
 | ((with_reducible apply ao_app))
 | ((with_reducible apply ao_app0))
 | (refine aw_nilcell 2 1 91 7 rfl rfl rfl rfl ?_; refine aw_freezecell 2 1 (E := 91) (size := 7) (xs := []) rfl rfl rfl rfl rfl ?_)
 | ((with_reducible apply r_litq); exact rfl; exact rfl; exact rfl; exact rfl; exact rfl; exact rfl; exact rfl)
 | ((with_reducible apply r_call); exact rfl; exact rfl; (first | exact h1 | exact h2 | exact h3 | exact h4 | exact h5 | exact h7 | exact h8 | exact h9); exact rfl; exact rfl)
 | ((with_reducible apply r_callq); exact h6; exact rfl; exact cl_cons (cl_agg (cl_cons cl_none (cl_cons cl_none (cl_cons cl_c (cl_cons cl_c cl_nil))))) cl_nil; exact rfl; exact rfl)
 | ((with_reducible apply (r_index_f 1)); exact rfl; exact inferInstance; exact rfl; exact rfl; exact (by decide); exact rfl)
 | ((with_reducible apply (r_index_f 20)); exact rfl; exact inferInstance; exact rfl; exact rfl; exact (by decide); exact rfl)
 | ((with_reducible apply aw_seq))
 | ((with_reducible apply aw_region))
 | ((with_reducible apply thn_normal))
 | ((with_reducible apply thn_exit))
 | ((with_reducible apply inb_exit))
 | ((with_reducible apply aw_skip))
 | ((with_reducible apply aw_exit))
 | ((with_reducible apply aw_ret))
 | ((with_reducible apply ao_nil))
 | ((with_reducible apply r_move); exact rfl; exact rfl)
 | ((with_reducible apply r_assign); exact rfl; exact rfl)
 | ((with_reducible apply r_field_p); exact rfl; exact rfl)
 | ((with_reducible apply r_load_p); exact rfl; exact rfl; exact rfl; exact rfl)
 | ((with_reducible apply r_load_pa); exact rfl; exact rfl; exact rfl; exact rfl; exact rfl)
 | ((with_reducible apply r_lss); exact rfl; exact rfl; exact rfl)
 | ((with_reducible apply r_eql); exact rfl; exact rfl; exact rfl)
 | ((with_reducible apply r_neq); exact rfl; exact rfl; exact rfl)
 | ((with_reducible apply r_pick_t); exact rfl; exact rfl; exact rfl)
 | ((with_reducible apply r_pick_f); exact rfl; exact rfl; exact rfl)
 | ((with_reducible apply r_len_f); exact rfl; exact inferInstance; exact rfl)
 | ((with_reducible apply r_index_f); exact rfl; exact inferInstance; exact rfl; exact (Int.toNat_of_nonneg (by omega)).symm; (first | assumption | omega); exact rfl)
 | ((with_reducible apply r_load_f0); exact rfl; exact inferInstance; exact List.getElem?_eq_getElem (by first | assumption | omega); exact rfl; exact rfl)
 | ((with_reducible apply r_field_e); exact rfl; exact rfl)
 | ((with_reducible apply r_store_p); exact rfl; exact rfl; exact rfl; exact rfl; exact rfl; exact rfl)
 | ((with_reducible apply r_store_pa); exact rfl; exact rfl; exact rfl; exact rfl; exact rfl; exact rfl)
 | ((with_reducible apply r_build); exact rfl; exact rfl; exact rfl)
 | ((with_reducible apply r_extract); exact rfl; exact rfl; exact rfl)
 | ((with_reducible apply r_alloc); exact rfl)
 | (((with_reducible apply r_guard); exact rfl; exact rfl; exact rfl; exact rfl) <;> intro hg <;> (first | (exact absurd hg (by decide)) | ((try simp only [decide_eq_true_eq, decide_eq_false_iff_not, Bool.not_eq_true', Bool.not_eq_false', Bool.not_true, Bool.not_false, Bool.not_not, Int.not_lt, Int.not_le, Nat.not_lt, Nat.not_le, gt_iff_lt, ge_iff_le, List.cons.injEq, and_true] at hg); first | (exact absurd trivial hg) | (exfalso; omega) | (have hT : True := hg; clear hT hg) | skip)))
 | (((with_reducible apply aw_cond); exact rfl) <;> intro hg <;> (first | (exact absurd hg (by decide)) | ((try simp only [decide_eq_true_eq, decide_eq_false_iff_not, Bool.not_eq_true', Bool.not_eq_false', Bool.not_true, Bool.not_false, Bool.not_not, Int.not_lt, Int.not_le, Nat.not_lt, Nat.not_le, gt_iff_lt, ge_iff_le, List.cons.injEq, and_true] at hg); first | (exact absurd trivial hg) | (exfalso; omega) | (have hT : True := hg; clear hT hg) | skip)))
 )
    all_goals first | exact ret_b rfl rfl | exact ret_b rfl (by decide) | trace_state
end Go.Proofs.YtkhljpbkebnnmaaGreatDoor.Bu
/- The best pieces and their prices: plain. -/
namespace Go.Proofs.YtkhljpbkebnnmaaGreatDoor.Bu
set_option linter.unusedVariables false
set_option linter.unusedSimpArgs false
open Go.RowKit Go.Proofs.YtkhljpbkebnnmaaGreatDoor.Ev Go.Proofs.YtkhljpbkebnnmaaGreatDoor.Ge
theorem pre_zeros (n : Nat) : ∀ k, Cu.pre (List.replicate n 0) k = 0 := by
  intro k
  unfold Cu.pre
  rw [List.take_replicate]
  generalize min k n = m
  induction m with
  | zero => rfl
  | succ m ih => rw [List.replicate_succ, List.sum_cons, ih]; rfl
theorem sumSp_zeros (n : Nat) : ∀ ss : List Cu.Span, Cu.sumSp (List.replicate n 0) ss = 0
  | [] => rfl
  | z :: ss => by
    have := sumSp_zeros n ss
    unfold Cu.sumSp at this ⊢
    rw [List.map_cons, List.sum_cons, this]
    unfold Cu.spV
    rw [pre_zeros, pre_zeros]; rfl
theorem gOf_line {p : Plan} {s : Lg} {u : Int} {x : Cu.Piece} (h1 : 0 ≤ x.1) (h2 : x.1.toNat < p.lens.length) (h3 : 0 ≤ x.2) (h4 : x.2 + p.lens[x.1.toNat] ≤ u) : Cu.gOf (lineOf p s u) x.1 x.2 = priceS p.classes (logOf p s x).1 (logOf p s x).2 := by
  have e1 : (p.lens.map (rowL p s u)).getD x.1.toNat [] = rowL p s u p.lens[x.1.toNat] := by simp [List.getD_eq_getElem?_getD, h2]
  have hl : x.2.toNat < (rowL p s u p.lens[x.1.toNat]).length := by rw [rowL_len]; omega
  have e2 : (rowL p s u p.lens[x.1.toNat]).getD x.2.toNat 0 = gainS p s x.2.toNat p.lens[x.1.toNat] := by
    rw [List.getD_eq_getElem?_getD, List.getElem?_eq_getElem hl, Option.getD_some, rowL_get]
  show ((p.lens.map (rowL p s u)).getD x.1.toNat []).getD x.2.toNat 0 = _
  rw [e1, e2, Int.toNat_of_nonneg h3]
  unfold gainS logOf
  rw [show p.lens.getD x.1.toNat 0 = p.lens[x.1.toNat] by simp [List.getD_eq_getElem?_getD, h2]]
theorem gsum_line {p : Plan} {s : Lg} {u : Int} (ok : LnOk p s u) {l : List Cu.Piece} {D C : List Span} (hc : Cu.cutsS (lineOf p s u) l = (0, D, C)) : Cu.gsum (lineOf p s u) l = sumP p.classes (l.map (logOf p s)) := by
  have hin := piece_in ok hc
  unfold Cu.gsum sumP
  rw [List.map_map]
  congr 1
  refine List.map_congr_left (fun x hx => ?_)
  obtain ⟨i, hi, rfl⟩ := List.mem_iff_getElem.1 hx
  obtain ⟨i1, i2, i3, i4, i5⟩ := hin i hi
  exact gOf_line i1 i2 i4 i5
theorem val_line {p : Plan} {s : Lg} {u : Int} (ok : LnOk p s u) {l : List Cu.Piece} {D C : List Span} (hc : Cu.cutsS (lineOf p s u) l = (0, D, C)) : Cu.OKs (lineOf p s u) 0 l ∧ Cu.PV (lineOf p s u) 0 l = sumP p.classes (l.map (logOf p s)) := by
  obtain ⟨h1, h2⟩ := Cu.cutsS_ok hc
  have v := Cu.valid_of h1
  obtain ⟨g1, g2⟩ := Cu.go_val v l 0 [] [] D C (by decide) ok.ub.1 h2
  refine ⟨g1, ?_⟩
  have z1 : Cu.sumSp (lineOf p s u).dust D = 0 := sumSp_zeros _ D
  have z2 : Cu.sumSp (lineOf p s u).chip C = 0 := sumSp_zeros _ C
  rw [z1, z2, gsum_line ok hc] at g2
  have e1 : Cu.sumSp (lineOf p s u).dust [] = 0 := rfl
  have e2 : Cu.sumSp (lineOf p s u).chip [] = 0 := rfl
  omega
theorem best_line {p : Plan} {s : Lg} {u : Int} (ok : LnOk p s u) : ∃ l D C, Cu.cutsS (lineOf p s u) l = (0, D, C) ∧ Cu.bestS (lineOf p s u) = (l, sumP p.classes (l.map (logOf p s)), 0) ∧ sumP p.classes (l.map (logOf p s)) = Cu.TV (lineOf p s u) 0 := by
  have hk := line_chk ok.pk s ok.ub
  have v := Cu.valid_of hk
  have hub := ok.ub
  obtain ⟨h1, h2⟩ := Cu.chain_opt v ((lineOf p s u).len.toNat + 2) 0 (Int.le_refl 0) hub.1 (by show u - 0 + 1 ≤ ((u.toNat + 2 : Nat) : Int); omega)
  obtain ⟨D, C, hg⟩ := Cu.go_of _ 0 [] [] h1
  have hc : Cu.cutsS (lineOf p s u) (Cu.chainS (lineOf p s u) ((lineOf p s u).len.toNat + 2) 0) = (0, D, C) := by
    unfold Cu.cutsS; rw [if_neg (fun hh => hh hk)]; exact hg
  obtain ⟨_, hv⟩ := val_line ok hc
  refine ⟨_, D, C, hc, ?_, by rw [← hv, h2]⟩
  rw [Cu.best_ok hk, ← hv, h2]
theorem others {p : Plan} {s : Lg} {u : Int} (ok : LnOk p s u) {l : List Cu.Piece} {D C : List Span} (hc : Cu.cutsS (lineOf p s u) l = (0, D, C)) : sumP p.classes (l.map (logOf p s)) ≤ Cu.TV (lineOf p s u) 0 := by
  have v := Cu.valid_of (line_chk ok.pk s ok.ub)
  obtain ⟨h1, h2⟩ := val_line ok hc
  have hub := ok.ub
  have := (Cu.opt v l 0 ((lineOf p s u).len.toNat + 1) (Int.le_refl 0) hub.1 (by show u - 0 + 1 ≤ ((u.toNat + 1 : Nat) : Int); omega) h1).1
  omega
end Go.Proofs.YtkhljpbkebnnmaaGreatDoor.Bu
/- The law BuckVolume: logs, dust, chips and rest are the stem. -/
namespace Go.Proofs.YtkhljpbkebnnmaaGreatDoor.Bu
set_option linter.unusedVariables false
set_option linter.unusedSimpArgs false
open Go.RowKit Go.Proofs.YtkhljpbkebnnmaaGreatDoor.Ev Go.Proofs.YtkhljpbkebnnmaaGreatDoor.Ge
variable {gl : List (Nat × List CV)}
end Go.Proofs.YtkhljpbkebnnmaaGreatDoor.Bu
/- The walk of the law BuckVolume. -/
namespace Go.Proofs.YtkhljpbkebnnmaaGreatDoor.Bu
set_option linter.unusedVariables false
set_option linter.unusedSimpArgs false
open Go.RowKit Go.Proofs.YtkhljpbkebnnmaaGreatDoor.Ev Go.Proofs.YtkhljpbkebnnmaaGreatDoor.Ge
abbrev Case := Plan × Lg
abbrev CaseQ (x : Case) : Prop := x.1.classes.length ≤ maxLen ∧ x.2.1.length ≤ maxLen ∧ x.2.2.length ≤ maxLen
end Go.Proofs.YtkhljpbkebnnmaaGreatDoor.Bu
/- The walks of the laws BuckLines, BuckBests, BuckLogs. -/
namespace Go.Proofs.YtkhljpbkebnnmaaGreatDoor.Bu
set_option linter.unusedVariables false
set_option linter.unusedSimpArgs false
open Go.RowKit Go.Proofs.YtkhljpbkebnnmaaGreatDoor.Ev Go.Proofs.YtkhljpbkebnnmaaGreatDoor.Ge
theorem bb_len (p : Plan) (s : Lg) : (bbS p s).1.length ≤ 1000000 := by
  rcases line_cases p s with ⟨e, he, h⟩ | ⟨u, ok, h⟩
  · rw [bb_err he h]; exact Nat.zero_le _
  · obtain ⟨best, D, C, hc, hbest, _⟩ := best_line ok
    rw [bb_ok h, hbest]
    have := cut_few ok hc
    show best.length ≤ _
    omega
theorem bests_law (x : Case) (hx : CaseQ x) : Con Tryz.prog Cu.G 4 [caseV x.1 x.2] T := by
  obtain ⟨p, s⟩ := x
  obtain ⟨hK, hl, hd⟩ := hx
  dsimp only at hK hl hd ⊢
  obtain ⟨b, cl⟩ := light_con (gl := Cu.G) p s hK hl
  have aw := awake18_con
  have c0 := plan_con (gl := Cu.G) p
  have c1 := stem_con (gl := Cu.G) s
  have c2 := bbest_con p s hK hl hd
  have c3 := rbbest_con (gl := Cu.G) p s hK hl hd
  have c4 := Cu.samePieces_con (gl := Cu.G) (bbS p s).1 (bb_len p s)
  rcases hq : bbS p s with ⟨q, n, e⟩
  rw [hq] at c2 c3 c4
  change Con _ _ _ _ (.tup [Cu.LP q, I n, I e]) at c2
  change Con _ _ _ _ (.tup [Cu.LP q, I n, I e]) at c3
  refine con_of Tryz.func4 rfl (by kernel_rfl) rfl ?_
  simp only [Tryz.ntmps4, Tryz.results4, argEnv, ofC, of1, List.map]
  cases b
  · skip
    repeat' (first
 | ((with_reducible apply r_call); exact rfl; exact rfl; (first | exact cl | exact aw); exact rfl; exact rfl)
 | ((with_reducible apply aw_seq))
 | ((with_reducible apply aw_region))
 | ((with_reducible apply thn_normal))
 | ((with_reducible apply thn_ret))
 | ((with_reducible apply aw_ret))
 | ((with_reducible apply ao_nil))
 | ((with_reducible apply r_assign); exact rfl; exact rfl)
 | ((with_reducible apply r_load_pa); exact rfl; exact rfl; exact rfl; exact rfl; exact rfl)
 | ((with_reducible apply r_box_a); exact rfl; exact rfl)
 | ((with_reducible apply r_not); exact rfl; exact rfl)
 | (((with_reducible apply aw_cond); exact rfl) <;> intro hg <;> (first | (exact absurd hg (by decide)) | ((try simp only [decide_eq_true_eq, decide_eq_false_iff_not, Bool.not_eq_true', Bool.not_eq_false', Bool.not_true, Bool.not_false, Bool.not_not, Int.not_lt, Int.not_le, Nat.not_lt, Nat.not_le, gt_iff_lt, ge_iff_le, List.cons.injEq, and_true] at hg); first | (exact absurd trivial hg) | (exfalso; omega) | (have hT : True := hg; clear hT hg) | skip)))
 )
    all_goals exact ret_b rfl rfl
  repeat' (first
 | ((with_reducible apply r_call); exact rfl; exact rfl; (first | exact cl | exact c0 | exact c1 | exact c2 | exact c3 | exact c4 | exact aw); exact rfl; exact rfl)
 | ((with_reducible apply aw_seq))
 | ((with_reducible apply aw_region))
 | ((with_reducible apply thn_normal))
 | ((with_reducible apply aw_skip))
 | ((with_reducible apply aw_ret))
 | ((with_reducible apply ao_nil))
 | ((with_reducible apply r_move); exact rfl; exact rfl)
 | ((with_reducible apply r_assign); exact rfl; exact rfl)
 | ((with_reducible apply r_field_p); exact rfl; exact rfl)
 | ((with_reducible apply r_load_pa); exact rfl; exact rfl; exact rfl; exact rfl; exact rfl)
 | ((with_reducible apply r_eql); exact rfl; exact rfl; exact rfl)
 | ((with_reducible apply r_box_a); exact rfl; exact rfl)
 | ((with_reducible apply r_pick_t); exact rfl; exact rfl; exact rfl)
 | ((with_reducible apply r_not); exact rfl; exact rfl)
 | ((with_reducible apply r_extract); exact rfl; exact rfl; exact rfl)
 | (((with_reducible apply r_guard); exact rfl; exact rfl; exact rfl; exact rfl) <;> intro hg <;> (first | (exact absurd hg (by decide)) | ((try simp only [decide_eq_true_eq, decide_eq_false_iff_not, Bool.not_eq_true', Bool.not_eq_false', Bool.not_true, Bool.not_false, Bool.not_not, Int.not_lt, Int.not_le, Nat.not_lt, Nat.not_le, gt_iff_lt, ge_iff_le, List.cons.injEq, and_true] at hg); first | (exact absurd trivial hg) | (exfalso; omega) | (have hT : True := hg; clear hT hg) | skip)))
 | (((with_reducible apply aw_cond); exact rfl) <;> intro hg <;> (first | (exact absurd hg (by decide)) | ((try simp only [decide_eq_true_eq, decide_eq_false_iff_not, Bool.not_eq_true', Bool.not_eq_false', Bool.not_true, Bool.not_false, Bool.not_not, Int.not_lt, Int.not_le, Nat.not_lt, Nat.not_le, gt_iff_lt, ge_iff_le, List.cons.injEq, and_true] at hg); first | (exact absurd trivial hg) | (exfalso; omega) | (have hT : True := hg; clear hT hg) | skip)))
 | (refine aw_drawq ?_ ?_; (kernel_rfl))
 | ((with_reducible apply ds_nil))
 )
  all_goals first | exact ret_b rfl rfl | exact ret_b rfl (by simp) | trace_state
end Go.Proofs.YtkhljpbkebnnmaaGreatDoor.Bu
