/- BA BB BC BD BE BF BG BV BX: texts laid together. -/
import Derived.Test.YtkhljpbkebnnmaaDoorMrgM0
import Derived.Test.YtkhljpbkebnnmaaDoorMrgC0
import Derived.Test.YtkhljpbkebnnmaaDoorMrgG1
/- Walks of bucking: plans, parts of a stem. -/
namespace Go.Proofs.YtkhljpbkebnnmaaDoor.Bu
set_option linter.unusedVariables false
set_option linter.unusedSimpArgs false
open Go.RowKit Go.Proofs.YtkhljpbkebnnmaaDoor.Ev Go.Proofs.YtkhljpbkebnnmaaDoor.Ge
variable {gl : List (Nat × List CV)}

/-- A plan: classes, lengths, unit, kerf. -/
structure Plan where
  classes : List Kl
  lens : List Int
  unit : Int
  kerf : Int
def planL (p : Plan) : List CV := [LK p.classes, LI p.lens, I p.unit, I p.kerf]
abbrev planV (p : Plan) : CV := .agg [LK p.classes, LI p.lens, I p.unit, I p.kerf]
abbrev planA (p : Plan) : List AV := [.c (LK p.classes), .c (LI p.lens), A p.unit, A p.kerf]
abbrev Lg := List Slc × List Dfc
abbrev lgV (x : Lg) : CV := .agg [LL x.1, LD x.2]
def stC (x : Lg) : List CV := [LL x.1, LD x.2]
instance : EncL stC 2 := ⟨fun _ => rfl, by decide, fun _ => rfl⟩
abbrev LStem (l : List Lg) : CV := .lst 2 (l.flatMap stC)
def lenOk (n : Int) : Bool := decide (1 ≤ n ∧ n ≤ 2000)
def unitBad (p : Plan) : Prop := p.unit < 1 ∨ 1000 < p.unit ∨ p.kerf < 0 ∨ 20 < p.kerf
noncomputable def planChk (p : Plan) : Int :=
  open Classical in
  if klChk p.classes ≠ 0 then klChk p.classes else if p.lens.length = 0 then 3 else if 32 < p.lens.length then 4 else if p.lens.all lenOk = false then 9 else if unitBad p then 9 else 0
theorem pc_cls {p : Plan} (h : ¬ klChk p.classes = 0) : klChk p.classes = planChk p := by unfold planChk; rw [if_pos h]
theorem pc_none {p : Plan} (h : klChk p.classes = 0) (h2 : p.lens.length = 0) : 3 = planChk p := by unfold planChk; rw [if_neg (fun hh => hh h), if_pos h2]
theorem pc_long {p : Plan} (h : klChk p.classes = 0) (h2 : ¬ p.lens.length = 0) (h3 : 32 < p.lens.length) : 4 = planChk p := by unfold planChk; rw [if_neg (fun hh => hh h), if_neg h2, if_pos h3]
theorem pc_len {p : Plan} (h : klChk p.classes = 0) (h2 : ¬ p.lens.length = 0) (h3 : ¬ 32 < p.lens.length) {j : Nat} (hj : j < p.lens.length) (h4 : lenOk p.lens[j] = false) : 9 = planChk p := by
  unfold planChk; rw [if_neg (fun hh => hh h), if_neg h2, if_neg h3, if_pos (all_not hj h4)]
theorem pc_unit {p : Plan} (h : klChk p.classes = 0) (h2 : ¬ p.lens.length = 0) (h3 : ¬ 32 < p.lens.length) (h4 : ∀ i (h : i < p.lens.length), lenOk p.lens[i] = true) (h5 : unitBad p) : 9 = planChk p := by
  unfold planChk; rw [if_neg (fun hh => hh h), if_neg h2, if_neg h3, if_neg (by rw [all_of h4]; simp), if_pos h5]
theorem pc_ok {p : Plan} (h : klChk p.classes = 0) (h2 : ¬ p.lens.length = 0) (h3 : ¬ 32 < p.lens.length) (h4 : ∀ i (h : i < p.lens.length), lenOk p.lens[i] = true) (h5 : ¬ unitBad p) : 0 = planChk p := by
  unfold planChk; rw [if_neg (fun hh => hh h), if_neg h2, if_neg h3, if_neg (by rw [all_of h4]; simp), if_neg h5]
structure PlanOk (p : Plan) : Prop where
  cls : klChk p.classes = 0
  len : 1 ≤ p.lens.length ∧ p.lens.length ≤ 32
  one : ∀ i (h : i < p.lens.length), 1 ≤ p.lens[i] ∧ p.lens[i] ≤ 2000
  unit : 1 ≤ p.unit ∧ p.unit ≤ 1000
  kerf : 0 ≤ p.kerf ∧ p.kerf ≤ 20
theorem plan_ok {p : Plan} (h : planChk p = 0) : PlanOk p := by
  unfold planChk at h
  split at h
  · rename_i h1; exact absurd h h1
  · rename_i h1
    split at h
    · cases h
    · split at h
      · cases h
      · split at h
        · cases h
        · rename_i h4
          split at h
          · cases h
          · rename_i h5
            unfold unitBad at h5
            refine ⟨by simpa using h1, by omega, fun i hi => ?_, by omega, by omega⟩
            have h6 : p.lens.all lenOk = true := by simpa using h4
            have := List.all_eq_true.1 h6 _ (List.getElem_mem hi)
            unfold lenOk at this; simpa using this
set_option maxRecDepth 100000 in
set_option maxHeartbeats 4000000 in
theorem pcheck_con (p : Plan) (hK : p.classes.length ≤ maxLen) : Con Tryd.prog gl 19 [planV p] (I (planChk p)) := by
  have c0 := kcheck_con (gl := gl) p.classes hK
  refine con_of Tryd.func19 rfl (by kernel_rfl) rfl ?_
  simp only [Tryd.ntmps19, Tryd.results19, argEnv, ofC, of1, List.map]
  by_cases h1 : klChk p.classes = 0
  rotate_left
  · skip
    repeat' (first
      | ((with_reducible apply r_call); exact rfl; exact rfl; exact c0; exact rfl; exact rfl)
      | ((with_reducible apply aw_seq))
      | ((with_reducible apply aw_region))
      | ((with_reducible apply thn_normal))
      | ((with_reducible apply thn_ret))
      | ((with_reducible apply aw_ret))
      | ((with_reducible apply ao_nil))
      | ((with_reducible apply r_move); exact rfl; exact rfl)
      | ((with_reducible apply r_assign); exact rfl; exact rfl)
      | ((with_reducible apply r_field_p); exact rfl; exact rfl)
      | ((with_reducible apply r_load_p); exact rfl; exact rfl; exact rfl; exact rfl)
      | ((with_reducible apply r_neq); exact rfl; exact rfl; exact rfl)
      | ((with_reducible apply r_box_a); exact rfl; exact rfl)
      | (((with_reducible apply aw_cond); exact rfl) <;> intro hg <;> (first | (exact absurd hg (by decide)) | ((try simp only [decide_eq_true_eq, decide_eq_false_iff_not, Bool.not_eq_true', Bool.not_eq_false', Bool.not_true, Bool.not_false, Bool.not_not, Int.not_lt, Int.not_le, Nat.not_lt, Nat.not_le, gt_iff_lt, ge_iff_le, List.cons.injEq, and_true] at hg); first | (exact absurd trivial hg) | (exfalso; omega) | (have hT : True := hg; clear hT hg) | skip)))
      )
    exact ret_i rfl (pc_cls h1)
  rw [h1] at c0
  by_cases h2 : p.lens.length = 0
  · skip
    repeat' (first
      | ((with_reducible apply r_call); exact rfl; exact rfl; exact c0; exact rfl; exact rfl)
      | ((with_reducible apply aw_seq))
      | ((with_reducible apply aw_region))
      | ((with_reducible apply thn_normal))
      | ((with_reducible apply thn_ret))
      | ((with_reducible apply aw_skip))
      | ((with_reducible apply aw_ret))
      | ((with_reducible apply ao_nil))
      | ((with_reducible apply r_move); exact rfl; exact rfl)
      | ((with_reducible apply r_assign); exact rfl; exact rfl)
      | ((with_reducible apply r_field_p); exact rfl; exact rfl)
      | ((with_reducible apply r_load_p); exact rfl; exact rfl; exact rfl; exact rfl)
      | ((with_reducible apply r_eql); exact rfl; exact rfl; exact rfl)
      | ((with_reducible apply r_neq); exact rfl; exact rfl; exact rfl)
      | ((with_reducible apply r_box_a); exact rfl; exact rfl)
      | ((with_reducible apply r_len_f); exact rfl; exact inferInstance; exact rfl)
      | (((with_reducible apply aw_cond); exact rfl) <;> intro hg <;> (first | (exact absurd hg (by decide)) | ((try simp only [decide_eq_true_eq, decide_eq_false_iff_not, Bool.not_eq_true', Bool.not_eq_false', Bool.not_true, Bool.not_false, Bool.not_not, Int.not_lt, Int.not_le, Nat.not_lt, Nat.not_le, gt_iff_lt, ge_iff_le, List.cons.injEq, and_true] at hg); first | (exact absurd trivial hg) | (exfalso; omega) | (have hT : True := hg; clear hT hg) | skip)))
      )
    exact ret_i rfl (pc_none h1 h2)
  by_cases h3 : 32 < p.lens.length
  · skip
    repeat' (first
      | ((with_reducible apply r_call); exact rfl; exact rfl; exact c0; exact rfl; exact rfl)
      | ((with_reducible apply aw_seq))
      | ((with_reducible apply aw_region))
      | ((with_reducible apply thn_normal))
      | ((with_reducible apply thn_ret))
      | ((with_reducible apply aw_skip))
      | ((with_reducible apply aw_ret))
      | ((with_reducible apply ao_nil))
      | ((with_reducible apply r_move); exact rfl; exact rfl)
      | ((with_reducible apply r_assign); exact rfl; exact rfl)
      | ((with_reducible apply r_field_p); exact rfl; exact rfl)
      | ((with_reducible apply r_load_p); exact rfl; exact rfl; exact rfl; exact rfl)
      | ((with_reducible apply r_gtr); exact rfl; exact rfl; exact rfl)
      | ((with_reducible apply r_eql); exact rfl; exact rfl; exact rfl)
      | ((with_reducible apply r_neq); exact rfl; exact rfl; exact rfl)
      | ((with_reducible apply r_box_a); exact rfl; exact rfl)
      | ((with_reducible apply r_len_f); exact rfl; exact inferInstance; exact rfl)
      | (((with_reducible apply aw_cond); exact rfl) <;> intro hg <;> (first | (exact absurd hg (by decide)) | ((try simp only [decide_eq_true_eq, decide_eq_false_iff_not, Bool.not_eq_true', Bool.not_eq_false', Bool.not_true, Bool.not_false, Bool.not_not, Int.not_lt, Int.not_le, Nat.not_lt, Nat.not_le, gt_iff_lt, ge_iff_le, List.cons.injEq, and_true] at hg); first | (exact absurd trivial hg) | (exfalso; omega) | (have hT : True := hg; clear hT hg) | skip)))
      )
    exact ret_i rfl (pc_long h1 h2 h3)
  repeat' (first
    | ((with_reducible apply r_call); exact rfl; exact rfl; exact c0; exact rfl; exact rfl)
    | ((with_reducible apply aw_seq))
    | ((with_reducible apply aw_region))
    | ((with_reducible apply aw_block))
    | ((with_reducible apply thn_normal))
    | ((with_reducible apply aw_skip))
    | ((with_reducible apply ao_nil))
    | ((with_reducible apply r_move); exact rfl; exact rfl)
    | ((with_reducible apply r_assign); exact rfl; exact rfl)
    | ((with_reducible apply r_field_p); exact rfl; exact rfl)
    | ((with_reducible apply r_load_p); exact rfl; exact rfl; exact rfl; exact rfl)
    | ((with_reducible apply r_gtr); exact rfl; exact rfl; exact rfl)
    | ((with_reducible apply r_eql); exact rfl; exact rfl; exact rfl)
    | ((with_reducible apply r_neq); exact rfl; exact rfl; exact rfl)
    | ((with_reducible apply r_box_a); exact rfl; exact rfl)
    | ((with_reducible apply r_len_f); exact rfl; exact inferInstance; exact rfl)
    | (((with_reducible apply aw_cond); exact rfl) <;> intro hg <;> (first | (exact absurd hg (by decide)) | ((try simp only [decide_eq_true_eq, decide_eq_false_iff_not, Bool.not_eq_true', Bool.not_eq_false', Bool.not_true, Bool.not_false, Bool.not_not, Int.not_lt, Int.not_le, Nat.not_lt, Nat.not_le, gt_iff_lt, ge_iff_le, List.cons.injEq, and_true] at hg); first | (exact absurd trivial hg) | (exfalso; omega) | (have hT : True := hg; clear hT hg) | skip)))
    )
  refine aw_loopG (G := Nat) (fun (j : Nat) => j ≤ p.lens.length ∧ ∀ i (h : i < p.lens.length), i < j → lenOk p.lens[i] = true) (fun (j : Nat) => p.lens.length - j) (fun (j : Nat) => [(1, .ptr 0 0), (21, .c (LI p.lens)), (22, A p.lens.length), (23, A j)]) (fun (j : Nat) => [(0, some (.cells 41 (planA p)))]) 1 0 ?_ (by refine weak_mk rfl ?_ ?_ <;> repeat (first | exact envW_nil | exact heapW_nil | refine envW_cons rfl rfl ?_ | refine heapW_cons rfl rfl rfl ?_)) rfl ?_
  · exact ⟨Nat.zero_le _, fun _ _ h => absurd h (Nat.not_lt_zero _)⟩
  rintro j hI
  try dsimp only at hI
  try dsimp only
  obtain ⟨hj, hall⟩ := hI
  by_cases hjl : j < p.lens.length
  · by_cases hok : 1 ≤ p.lens[j] ∧ p.lens[j] ≤ 2000
    · skip
      repeat' (first
        | ((with_reducible apply aw_seq))
        | ((with_reducible apply aw_region))
        | ((with_reducible apply aw_block))
        | ((with_reducible apply thn_normal))
        | ((with_reducible apply inb_normal))
        | ((with_reducible apply aw_skip))
        | ((with_reducible apply ao_nil))
        | ((with_reducible apply r_move); exact rfl; exact rfl)
        | ((with_reducible apply r_assign); exact rfl; exact rfl)
        | ((with_reducible apply r_lss); exact rfl; exact rfl; exact rfl)
        | ((with_reducible apply r_gtr); exact rfl; exact rfl; exact rfl)
        | ((with_reducible apply r_add); exact rfl; exact rfl; exact (by first | assumption | (unfold fits; omega)); exact rfl)
        | ((with_reducible apply r_pick_f); exact rfl; exact rfl; exact rfl)
        | ((with_reducible apply r_index_f); exact rfl; exact inferInstance; exact rfl; exact rfl; (first | assumption | omega); exact rfl)
        | ((with_reducible apply r_load_f0); exact rfl; exact inferInstance; exact List.getElem?_eq_getElem (by first | assumption | omega); exact rfl; exact rfl)
        | (((with_reducible apply r_guard); exact rfl; exact rfl; exact rfl; exact rfl) <;> intro hg <;> (first | (exact absurd hg (by decide)) | ((try simp only [decide_eq_true_eq, decide_eq_false_iff_not, Bool.not_eq_true', Bool.not_eq_false', Bool.not_true, Bool.not_false, Bool.not_not, Int.not_lt, Int.not_le, Nat.not_lt, Nat.not_le, gt_iff_lt, ge_iff_le, List.cons.injEq, and_true] at hg); first | (exact absurd trivial hg) | (exfalso; omega) | (have hT : True := hg; clear hT hg) | skip)))
        | (((with_reducible apply aw_cond); exact rfl) <;> intro hg <;> (first | (exact absurd hg (by decide)) | ((try simp only [decide_eq_true_eq, decide_eq_false_iff_not, Bool.not_eq_true', Bool.not_eq_false', Bool.not_true, Bool.not_false, Bool.not_not, Int.not_lt, Int.not_le, Nat.not_lt, Nat.not_le, gt_iff_lt, ge_iff_le, List.cons.injEq, and_true] at hg); first | (exact absurd trivial hg) | (exfalso; omega) | (have hT : True := hg; clear hT hg) | skip)))
        )
      all_goals
        refine ⟨j + 1, ?_, ?_, by refine weak_mk rfl ?_ ?_ <;> repeat (first | exact envW_nil | exact heapW_nil | refine envW_cons rfl rfl ?_ | refine heapW_cons rfl rfl rfl ?_)⟩
        · show _ - (j + 1) < _ - j; omega
        · exact ⟨by show j + 1 ≤ _; omega, step_all hjl hall (decide_eq_true hok)⟩
    · skip
      repeat' (first
        | ((with_reducible apply aw_seq))
        | ((with_reducible apply aw_region))
        | ((with_reducible apply aw_block))
        | ((with_reducible apply thn_normal))
        | ((with_reducible apply thn_ret))
        | ((with_reducible apply inb_ret))
        | ((with_reducible apply aw_skip))
        | ((with_reducible apply aw_ret))
        | ((with_reducible apply ao_nil))
        | ((with_reducible apply r_move); exact rfl; exact rfl)
        | ((with_reducible apply r_assign); exact rfl; exact rfl)
        | ((with_reducible apply r_lss); exact rfl; exact rfl; exact rfl)
        | ((with_reducible apply r_gtr); exact rfl; exact rfl; exact rfl)
        | ((with_reducible apply r_pick_t); exact rfl; exact rfl; exact rfl)
        | ((with_reducible apply r_pick_f); exact rfl; exact rfl; exact rfl)
        | ((with_reducible apply r_index_f); exact rfl; exact inferInstance; exact rfl; exact rfl; (first | assumption | omega); exact rfl)
        | ((with_reducible apply r_load_f0); exact rfl; exact inferInstance; exact List.getElem?_eq_getElem (by first | assumption | omega); exact rfl; exact rfl)
        | (((with_reducible apply r_guard); exact rfl; exact rfl; exact rfl; exact rfl) <;> intro hg <;> (first | (exact absurd hg (by decide)) | ((try simp only [decide_eq_true_eq, decide_eq_false_iff_not, Bool.not_eq_true', Bool.not_eq_false', Bool.not_true, Bool.not_false, Bool.not_not, Int.not_lt, Int.not_le, Nat.not_lt, Nat.not_le, gt_iff_lt, ge_iff_le, List.cons.injEq, and_true] at hg); first | (exact absurd trivial hg) | (exfalso; omega) | (have hT : True := hg; clear hT hg) | skip)))
        | (((with_reducible apply aw_cond); exact rfl) <;> intro hg <;> (first | (exact absurd hg (by decide)) | ((try simp only [decide_eq_true_eq, decide_eq_false_iff_not, Bool.not_eq_true', Bool.not_eq_false', Bool.not_true, Bool.not_false, Bool.not_not, Int.not_lt, Int.not_le, Nat.not_lt, Nat.not_le, gt_iff_lt, ge_iff_le, List.cons.injEq, and_true] at hg); first | (exact absurd trivial hg) | (exfalso; omega) | (have hT : True := hg; clear hT hg) | skip)))
        )
      all_goals exact ret_i rfl (pc_len h1 h2 h3 hjl (decide_eq_false hok))
  · have hall' : ∀ i (h : i < p.lens.length), lenOk p.lens[i] = true := fun i hi => hall i hi (by omega)
    by_cases hb : unitBad p
    · have hb2 := hb
      unfold unitBad at hb2
      repeat' (first
        | ((with_reducible apply aw_seq))
        | ((with_reducible apply aw_region))
        | ((with_reducible apply thn_normal))
        | ((with_reducible apply thn_ret))
        | ((with_reducible apply thn_exit))
        | ((with_reducible apply inb_exit))
        | ((with_reducible apply aw_exit))
        | ((with_reducible apply aw_ret))
        | ((with_reducible apply ao_nil))
        | ((with_reducible apply r_move); exact rfl; exact rfl)
        | ((with_reducible apply r_assign); exact rfl; exact rfl)
        | ((with_reducible apply r_field_p); exact rfl; exact rfl)
        | ((with_reducible apply r_load_p); exact rfl; exact rfl; exact rfl; exact rfl)
        | ((with_reducible apply r_lss); exact rfl; exact rfl; exact rfl)
        | ((with_reducible apply r_gtr); exact rfl; exact rfl; exact rfl)
        | ((with_reducible apply r_pick_t); exact rfl; exact rfl; exact rfl)
        | ((with_reducible apply r_pick_f); exact rfl; exact rfl; exact rfl)
        | (((with_reducible apply r_guard); exact rfl; exact rfl; exact rfl; exact rfl) <;> intro hg <;> (first | (exact absurd hg (by decide)) | ((try simp only [decide_eq_true_eq, decide_eq_false_iff_not, Bool.not_eq_true', Bool.not_eq_false', Bool.not_true, Bool.not_false, Bool.not_not, Int.not_lt, Int.not_le, Nat.not_lt, Nat.not_le, gt_iff_lt, ge_iff_le, List.cons.injEq, and_true] at hg); first | (exact absurd trivial hg) | (exfalso; omega) | (have hT : True := hg; clear hT hg) | skip)))
        | (((with_reducible apply aw_cond); exact rfl) <;> intro hg <;> (first | (exact absurd hg (by decide)) | ((try simp only [decide_eq_true_eq, decide_eq_false_iff_not, Bool.not_eq_true', Bool.not_eq_false', Bool.not_true, Bool.not_false, Bool.not_not, Int.not_lt, Int.not_le, Nat.not_lt, Nat.not_le, gt_iff_lt, ge_iff_le, List.cons.injEq, and_true] at hg); first | (exact absurd trivial hg) | (exfalso; omega) | (have hT : True := hg; clear hT hg) | skip)))
        )
      all_goals exact ret_i rfl (pc_unit h1 h2 h3 hall' hb)
    · have hb2 := hb
      unfold unitBad at hb2
      repeat' (first
        | ((with_reducible apply aw_seq))
        | ((with_reducible apply aw_region))
        | ((with_reducible apply thn_normal))
        | ((with_reducible apply thn_exit))
        | ((with_reducible apply inb_exit))
        | ((with_reducible apply aw_skip))
        | ((with_reducible apply aw_exit))
        | ((with_reducible apply aw_ret))
        | ((with_reducible apply ao_nil))
        | ((with_reducible apply r_move); exact rfl; exact rfl)
        | ((with_reducible apply r_assign); exact rfl; exact rfl)
        | ((with_reducible apply r_field_p); exact rfl; exact rfl)
        | ((with_reducible apply r_load_p); exact rfl; exact rfl; exact rfl; exact rfl)
        | ((with_reducible apply r_lss); exact rfl; exact rfl; exact rfl)
        | ((with_reducible apply r_gtr); exact rfl; exact rfl; exact rfl)
        | ((with_reducible apply r_pick_f); exact rfl; exact rfl; exact rfl)
        | (((with_reducible apply r_guard); exact rfl; exact rfl; exact rfl; exact rfl) <;> intro hg <;> (first | (exact absurd hg (by decide)) | ((try simp only [decide_eq_true_eq, decide_eq_false_iff_not, Bool.not_eq_true', Bool.not_eq_false', Bool.not_true, Bool.not_false, Bool.not_not, Int.not_lt, Int.not_le, Nat.not_lt, Nat.not_le, gt_iff_lt, ge_iff_le, List.cons.injEq, and_true] at hg); first | (exact absurd trivial hg) | (exfalso; omega) | (have hT : True := hg; clear hT hg) | skip)))
        | (((with_reducible apply aw_cond); exact rfl) <;> intro hg <;> (first | (exact absurd hg (by decide)) | ((try simp only [decide_eq_true_eq, decide_eq_false_iff_not, Bool.not_eq_true', Bool.not_eq_false', Bool.not_true, Bool.not_false, Bool.not_not, Int.not_lt, Int.not_le, Nat.not_lt, Nat.not_le, gt_iff_lt, ge_iff_le, List.cons.injEq, and_true] at hg); first | (exact absurd trivial hg) | (exfalso; omega) | (have hT : True := hg; clear hT hg) | skip)))
        )
      all_goals exact ret_i rfl (pc_ok h1 h2 h3 hall' hb)
set_option maxRecDepth 100000 in
set_option maxHeartbeats 4000000 in
theorem rpcheck_con (p : Plan) (hK : p.classes.length ≤ maxLen) : Con Tryd.prog gl 16 [planV p] (I (planChk p)) := by
  have c0 := rkcheck_con (gl := gl) p.classes hK
  refine con_of Tryd.func16 rfl (by kernel_rfl) rfl ?_
  simp only [Tryd.ntmps16, Tryd.results16, argEnv, ofC, of1, List.map]
  by_cases h1 : klChk p.classes = 0
  rotate_left
  · skip
    repeat' (first
      | ((with_reducible apply r_call); exact rfl; exact rfl; exact c0; exact rfl; exact rfl)
      | ((with_reducible apply aw_seq))
      | ((with_reducible apply aw_region))
      | ((with_reducible apply thn_normal))
      | ((with_reducible apply thn_ret))
      | ((with_reducible apply aw_ret))
      | ((with_reducible apply ao_nil))
      | ((with_reducible apply r_move); exact rfl; exact rfl)
      | ((with_reducible apply r_assign); exact rfl; exact rfl)
      | ((with_reducible apply r_field_p); exact rfl; exact rfl)
      | ((with_reducible apply r_load_p); exact rfl; exact rfl; exact rfl; exact rfl)
      | ((with_reducible apply r_neq); exact rfl; exact rfl; exact rfl)
      | ((with_reducible apply r_box_a); exact rfl; exact rfl)
      | (((with_reducible apply aw_cond); exact rfl) <;> intro hg <;> (first | (exact absurd hg (by decide)) | ((try simp only [decide_eq_true_eq, decide_eq_false_iff_not, Bool.not_eq_true', Bool.not_eq_false', Bool.not_true, Bool.not_false, Bool.not_not, Int.not_lt, Int.not_le, Nat.not_lt, Nat.not_le, gt_iff_lt, ge_iff_le, List.cons.injEq, and_true] at hg); first | (exact absurd trivial hg) | (exfalso; omega) | (have hT : True := hg; clear hT hg) | skip)))
      )
    exact ret_i rfl (pc_cls h1)
  rw [h1] at c0
  by_cases h2 : p.lens.length = 0
  · skip
    repeat' (first
      | ((with_reducible apply r_call); exact rfl; exact rfl; exact c0; exact rfl; exact rfl)
      | ((with_reducible apply aw_seq))
      | ((with_reducible apply aw_region))
      | ((with_reducible apply thn_normal))
      | ((with_reducible apply thn_ret))
      | ((with_reducible apply aw_skip))
      | ((with_reducible apply aw_ret))
      | ((with_reducible apply ao_nil))
      | ((with_reducible apply r_move); exact rfl; exact rfl)
      | ((with_reducible apply r_assign); exact rfl; exact rfl)
      | ((with_reducible apply r_field_p); exact rfl; exact rfl)
      | ((with_reducible apply r_load_p); exact rfl; exact rfl; exact rfl; exact rfl)
      | ((with_reducible apply r_eql); exact rfl; exact rfl; exact rfl)
      | ((with_reducible apply r_neq); exact rfl; exact rfl; exact rfl)
      | ((with_reducible apply r_box_a); exact rfl; exact rfl)
      | ((with_reducible apply r_len_f); exact rfl; exact inferInstance; exact rfl)
      | (((with_reducible apply aw_cond); exact rfl) <;> intro hg <;> (first | (exact absurd hg (by decide)) | ((try simp only [decide_eq_true_eq, decide_eq_false_iff_not, Bool.not_eq_true', Bool.not_eq_false', Bool.not_true, Bool.not_false, Bool.not_not, Int.not_lt, Int.not_le, Nat.not_lt, Nat.not_le, gt_iff_lt, ge_iff_le, List.cons.injEq, and_true] at hg); first | (exact absurd trivial hg) | (exfalso; omega) | (have hT : True := hg; clear hT hg) | skip)))
      )
    exact ret_i rfl (pc_none h1 h2)
  by_cases h3 : 32 < p.lens.length
  · skip
    repeat' (first
      | ((with_reducible apply r_call); exact rfl; exact rfl; exact c0; exact rfl; exact rfl)
      | ((with_reducible apply aw_seq))
      | ((with_reducible apply aw_region))
      | ((with_reducible apply thn_normal))
      | ((with_reducible apply thn_ret))
      | ((with_reducible apply aw_skip))
      | ((with_reducible apply aw_ret))
      | ((with_reducible apply ao_nil))
      | ((with_reducible apply r_move); exact rfl; exact rfl)
      | ((with_reducible apply r_assign); exact rfl; exact rfl)
      | ((with_reducible apply r_field_p); exact rfl; exact rfl)
      | ((with_reducible apply r_load_p); exact rfl; exact rfl; exact rfl; exact rfl)
      | ((with_reducible apply r_gtr); exact rfl; exact rfl; exact rfl)
      | ((with_reducible apply r_eql); exact rfl; exact rfl; exact rfl)
      | ((with_reducible apply r_neq); exact rfl; exact rfl; exact rfl)
      | ((with_reducible apply r_box_a); exact rfl; exact rfl)
      | ((with_reducible apply r_len_f); exact rfl; exact inferInstance; exact rfl)
      | (((with_reducible apply aw_cond); exact rfl) <;> intro hg <;> (first | (exact absurd hg (by decide)) | ((try simp only [decide_eq_true_eq, decide_eq_false_iff_not, Bool.not_eq_true', Bool.not_eq_false', Bool.not_true, Bool.not_false, Bool.not_not, Int.not_lt, Int.not_le, Nat.not_lt, Nat.not_le, gt_iff_lt, ge_iff_le, List.cons.injEq, and_true] at hg); first | (exact absurd trivial hg) | (exfalso; omega) | (have hT : True := hg; clear hT hg) | skip)))
      )
    exact ret_i rfl (pc_long h1 h2 h3)
  repeat' (first
    | ((with_reducible apply r_call); exact rfl; exact rfl; exact c0; exact rfl; exact rfl)
    | ((with_reducible apply aw_seq))
    | ((with_reducible apply aw_region))
    | ((with_reducible apply aw_block))
    | ((with_reducible apply thn_normal))
    | ((with_reducible apply aw_skip))
    | ((with_reducible apply ao_nil))
    | ((with_reducible apply r_move); exact rfl; exact rfl)
    | ((with_reducible apply r_assign); exact rfl; exact rfl)
    | ((with_reducible apply r_field_p); exact rfl; exact rfl)
    | ((with_reducible apply r_load_p); exact rfl; exact rfl; exact rfl; exact rfl)
    | ((with_reducible apply r_gtr); exact rfl; exact rfl; exact rfl)
    | ((with_reducible apply r_eql); exact rfl; exact rfl; exact rfl)
    | ((with_reducible apply r_neq); exact rfl; exact rfl; exact rfl)
    | ((with_reducible apply r_box_a); exact rfl; exact rfl)
    | ((with_reducible apply r_len_f); exact rfl; exact inferInstance; exact rfl)
    | (((with_reducible apply aw_cond); exact rfl) <;> intro hg <;> (first | (exact absurd hg (by decide)) | ((try simp only [decide_eq_true_eq, decide_eq_false_iff_not, Bool.not_eq_true', Bool.not_eq_false', Bool.not_true, Bool.not_false, Bool.not_not, Int.not_lt, Int.not_le, Nat.not_lt, Nat.not_le, gt_iff_lt, ge_iff_le, List.cons.injEq, and_true] at hg); first | (exact absurd trivial hg) | (exfalso; omega) | (have hT : True := hg; clear hT hg) | skip)))
    )
  refine aw_loopG (G := Nat) (fun (j : Nat) => j ≤ p.lens.length ∧ ∀ i (h : i < p.lens.length), i < j → lenOk p.lens[i] = true) (fun (j : Nat) => p.lens.length - j) (fun (j : Nat) => [(1, .ptr 0 0), (4, A j)]) (fun (j : Nat) => [(0, some (.cells 25 (planA p)))]) 1 0 ?_ (by refine weak_mk rfl ?_ ?_ <;> repeat (first | exact envW_nil | exact heapW_nil | refine envW_cons rfl rfl ?_ | refine heapW_cons rfl rfl rfl ?_)) rfl ?_
  · exact ⟨Nat.zero_le _, fun _ _ h => absurd h (Nat.not_lt_zero _)⟩
  rintro j hI
  try dsimp only at hI
  try dsimp only
  obtain ⟨hj, hall⟩ := hI
  by_cases hjl : j < p.lens.length
  · by_cases hok : 1 ≤ p.lens[j] ∧ p.lens[j] ≤ 2000
    · skip
      repeat' (first
        | ((with_reducible apply aw_seq))
        | ((with_reducible apply aw_region))
        | ((with_reducible apply aw_block))
        | ((with_reducible apply thn_normal))
        | ((with_reducible apply inb_normal))
        | ((with_reducible apply aw_skip))
        | ((with_reducible apply ao_nil))
        | ((with_reducible apply r_move); exact rfl; exact rfl)
        | ((with_reducible apply r_assign); exact rfl; exact rfl)
        | ((with_reducible apply r_field_p); exact rfl; exact rfl)
        | ((with_reducible apply r_load_p); exact rfl; exact rfl; exact rfl; exact rfl)
        | ((with_reducible apply r_lss); exact rfl; exact rfl; exact rfl)
        | ((with_reducible apply r_gtr); exact rfl; exact rfl; exact rfl)
        | ((with_reducible apply r_add); exact rfl; exact rfl; exact (by first | assumption | (unfold fits; omega)); exact rfl)
        | ((with_reducible apply r_pick_f); exact rfl; exact rfl; exact rfl)
        | ((with_reducible apply r_len_f); exact rfl; exact inferInstance; exact rfl)
        | ((with_reducible apply r_index_f); exact rfl; exact inferInstance; exact rfl; exact rfl; (first | assumption | omega); exact rfl)
        | ((with_reducible apply r_load_f0); exact rfl; exact inferInstance; exact List.getElem?_eq_getElem (by first | assumption | omega); exact rfl; exact rfl)
        | (((with_reducible apply r_guard); exact rfl; exact rfl; exact rfl; exact rfl) <;> intro hg <;> (first | (exact absurd hg (by decide)) | ((try simp only [decide_eq_true_eq, decide_eq_false_iff_not, Bool.not_eq_true', Bool.not_eq_false', Bool.not_true, Bool.not_false, Bool.not_not, Int.not_lt, Int.not_le, Nat.not_lt, Nat.not_le, gt_iff_lt, ge_iff_le, List.cons.injEq, and_true] at hg); first | (exact absurd trivial hg) | (exfalso; omega) | (have hT : True := hg; clear hT hg) | skip)))
        | (((with_reducible apply aw_cond); exact rfl) <;> intro hg <;> (first | (exact absurd hg (by decide)) | ((try simp only [decide_eq_true_eq, decide_eq_false_iff_not, Bool.not_eq_true', Bool.not_eq_false', Bool.not_true, Bool.not_false, Bool.not_not, Int.not_lt, Int.not_le, Nat.not_lt, Nat.not_le, gt_iff_lt, ge_iff_le, List.cons.injEq, and_true] at hg); first | (exact absurd trivial hg) | (exfalso; omega) | (have hT : True := hg; clear hT hg) | skip)))
        )
      all_goals
        refine ⟨j + 1, ?_, ?_, by refine weak_mk rfl ?_ ?_ <;> repeat (first | exact envW_nil | exact heapW_nil | refine envW_cons rfl rfl ?_ | refine heapW_cons rfl rfl rfl ?_)⟩
        · show _ - (j + 1) < _ - j; omega
        · exact ⟨by show j + 1 ≤ _; omega, step_all hjl hall (decide_eq_true hok)⟩
    · skip
      repeat' (first
        | ((with_reducible apply aw_seq))
        | ((with_reducible apply aw_region))
        | ((with_reducible apply aw_block))
        | ((with_reducible apply thn_normal))
        | ((with_reducible apply thn_ret))
        | ((with_reducible apply inb_ret))
        | ((with_reducible apply aw_skip))
        | ((with_reducible apply aw_ret))
        | ((with_reducible apply ao_nil))
        | ((with_reducible apply r_move); exact rfl; exact rfl)
        | ((with_reducible apply r_assign); exact rfl; exact rfl)
        | ((with_reducible apply r_field_p); exact rfl; exact rfl)
        | ((with_reducible apply r_load_p); exact rfl; exact rfl; exact rfl; exact rfl)
        | ((with_reducible apply r_lss); exact rfl; exact rfl; exact rfl)
        | ((with_reducible apply r_gtr); exact rfl; exact rfl; exact rfl)
        | ((with_reducible apply r_pick_t); exact rfl; exact rfl; exact rfl)
        | ((with_reducible apply r_pick_f); exact rfl; exact rfl; exact rfl)
        | ((with_reducible apply r_len_f); exact rfl; exact inferInstance; exact rfl)
        | ((with_reducible apply r_index_f); exact rfl; exact inferInstance; exact rfl; exact rfl; (first | assumption | omega); exact rfl)
        | ((with_reducible apply r_load_f0); exact rfl; exact inferInstance; exact List.getElem?_eq_getElem (by first | assumption | omega); exact rfl; exact rfl)
        | (((with_reducible apply r_guard); exact rfl; exact rfl; exact rfl; exact rfl) <;> intro hg <;> (first | (exact absurd hg (by decide)) | ((try simp only [decide_eq_true_eq, decide_eq_false_iff_not, Bool.not_eq_true', Bool.not_eq_false', Bool.not_true, Bool.not_false, Bool.not_not, Int.not_lt, Int.not_le, Nat.not_lt, Nat.not_le, gt_iff_lt, ge_iff_le, List.cons.injEq, and_true] at hg); first | (exact absurd trivial hg) | (exfalso; omega) | (have hT : True := hg; clear hT hg) | skip)))
        | (((with_reducible apply aw_cond); exact rfl) <;> intro hg <;> (first | (exact absurd hg (by decide)) | ((try simp only [decide_eq_true_eq, decide_eq_false_iff_not, Bool.not_eq_true', Bool.not_eq_false', Bool.not_true, Bool.not_false, Bool.not_not, Int.not_lt, Int.not_le, Nat.not_lt, Nat.not_le, gt_iff_lt, ge_iff_le, List.cons.injEq, and_true] at hg); first | (exact absurd trivial hg) | (exfalso; omega) | (have hT : True := hg; clear hT hg) | skip)))
        )
      all_goals exact ret_i rfl (pc_len h1 h2 h3 hjl (decide_eq_false hok))
  · have hall' : ∀ i (h : i < p.lens.length), lenOk p.lens[i] = true := fun i hi => hall i hi (by omega)
    by_cases hb : unitBad p
    · have hb2 := hb
      unfold unitBad at hb2
      repeat' (first
        | ((with_reducible apply aw_seq))
        | ((with_reducible apply aw_region))
        | ((with_reducible apply thn_normal))
        | ((with_reducible apply thn_ret))
        | ((with_reducible apply thn_exit))
        | ((with_reducible apply inb_exit))
        | ((with_reducible apply aw_exit))
        | ((with_reducible apply aw_ret))
        | ((with_reducible apply ao_nil))
        | ((with_reducible apply r_move); exact rfl; exact rfl)
        | ((with_reducible apply r_assign); exact rfl; exact rfl)
        | ((with_reducible apply r_field_p); exact rfl; exact rfl)
        | ((with_reducible apply r_load_p); exact rfl; exact rfl; exact rfl; exact rfl)
        | ((with_reducible apply r_lss); exact rfl; exact rfl; exact rfl)
        | ((with_reducible apply r_gtr); exact rfl; exact rfl; exact rfl)
        | ((with_reducible apply r_pick_t); exact rfl; exact rfl; exact rfl)
        | ((with_reducible apply r_pick_f); exact rfl; exact rfl; exact rfl)
        | ((with_reducible apply r_len_f); exact rfl; exact inferInstance; exact rfl)
        | (((with_reducible apply r_guard); exact rfl; exact rfl; exact rfl; exact rfl) <;> intro hg <;> (first | (exact absurd hg (by decide)) | ((try simp only [decide_eq_true_eq, decide_eq_false_iff_not, Bool.not_eq_true', Bool.not_eq_false', Bool.not_true, Bool.not_false, Bool.not_not, Int.not_lt, Int.not_le, Nat.not_lt, Nat.not_le, gt_iff_lt, ge_iff_le, List.cons.injEq, and_true] at hg); first | (exact absurd trivial hg) | (exfalso; omega) | (have hT : True := hg; clear hT hg) | skip)))
        | (((with_reducible apply aw_cond); exact rfl) <;> intro hg <;> (first | (exact absurd hg (by decide)) | ((try simp only [decide_eq_true_eq, decide_eq_false_iff_not, Bool.not_eq_true', Bool.not_eq_false', Bool.not_true, Bool.not_false, Bool.not_not, Int.not_lt, Int.not_le, Nat.not_lt, Nat.not_le, gt_iff_lt, ge_iff_le, List.cons.injEq, and_true] at hg); first | (exact absurd trivial hg) | (exfalso; omega) | (have hT : True := hg; clear hT hg) | skip)))
        )
      all_goals exact ret_i rfl (pc_unit h1 h2 h3 hall' hb)
    · have hb2 := hb
      unfold unitBad at hb2
      repeat' (first
        | ((with_reducible apply aw_seq))
        | ((with_reducible apply aw_region))
        | ((with_reducible apply thn_normal))
        | ((with_reducible apply thn_exit))
        | ((with_reducible apply inb_exit))
        | ((with_reducible apply aw_skip))
        | ((with_reducible apply aw_exit))
        | ((with_reducible apply aw_ret))
        | ((with_reducible apply ao_nil))
        | ((with_reducible apply r_move); exact rfl; exact rfl)
        | ((with_reducible apply r_assign); exact rfl; exact rfl)
        | ((with_reducible apply r_field_p); exact rfl; exact rfl)
        | ((with_reducible apply r_load_p); exact rfl; exact rfl; exact rfl; exact rfl)
        | ((with_reducible apply r_lss); exact rfl; exact rfl; exact rfl)
        | ((with_reducible apply r_gtr); exact rfl; exact rfl; exact rfl)
        | ((with_reducible apply r_pick_f); exact rfl; exact rfl; exact rfl)
        | ((with_reducible apply r_len_f); exact rfl; exact inferInstance; exact rfl)
        | (((with_reducible apply r_guard); exact rfl; exact rfl; exact rfl; exact rfl) <;> intro hg <;> (first | (exact absurd hg (by decide)) | ((try simp only [decide_eq_true_eq, decide_eq_false_iff_not, Bool.not_eq_true', Bool.not_eq_false', Bool.not_true, Bool.not_false, Bool.not_not, Int.not_lt, Int.not_le, Nat.not_lt, Nat.not_le, gt_iff_lt, ge_iff_le, List.cons.injEq, and_true] at hg); first | (exact absurd trivial hg) | (exfalso; omega) | (have hT : True := hg; clear hT hg) | skip)))
        | (((with_reducible apply aw_cond); exact rfl) <;> intro hg <;> (first | (exact absurd hg (by decide)) | ((try simp only [decide_eq_true_eq, decide_eq_false_iff_not, Bool.not_eq_true', Bool.not_eq_false', Bool.not_true, Bool.not_false, Bool.not_not, Int.not_lt, Int.not_le, Nat.not_lt, Nat.not_le, gt_iff_lt, ge_iff_le, List.cons.injEq, and_true] at hg); first | (exact absurd trivial hg) | (exfalso; omega) | (have hT : True := hg; clear hT hg) | skip)))
        )
      all_goals exact ret_i rfl (pc_ok h1 h2 h3 hall' hb)
def cutD (x : Dfc) (Z : Span) : Option Dfc := if max x.z.1 Z.1 < min x.z.2 Z.2 then some ⟨x.kind, x.x, x.y, (max x.z.1 Z.1 - Z.1, min x.z.2 Z.2 - Z.1)⟩ else none
def defCut (d : List Dfc) (Z : Span) : List Dfc := d.filterMap (fun x => cutD x Z)
noncomputable def partS (s : Lg) (Z : Span) : Lg := (cutS s.1 Z, defCut s.2 Z)
theorem defCut_yes {d : List Dfc} {Z : Span} {j : Nat} (hj : j < d.length) (h : max d[j].z.1 Z.1 < min d[j].z.2 Z.2) : defCut (d.take (j + 1)) Z = defCut (d.take j) Z ++ [⟨d[j].kind, d[j].x, d[j].y, (max d[j].z.1 Z.1 - Z.1, min d[j].z.2 Z.2 - Z.1)⟩] := by
  unfold defCut
  rw [List.take_succ_eq_append_getElem hj, List.filterMap_append]
  have : cutD d[j] Z = some ⟨d[j].kind, d[j].x, d[j].y, (max d[j].z.1 Z.1 - Z.1, min d[j].z.2 Z.2 - Z.1)⟩ := if_pos h
  simp [this]
theorem defCut_no {d : List Dfc} {Z : Span} {j : Nat} (hj : j < d.length) (h : ¬ max d[j].z.1 Z.1 < min d[j].z.2 Z.2) : defCut (d.take (j + 1)) Z = defCut (d.take j) Z := by
  unfold defCut
  rw [List.take_succ_eq_append_getElem hj, List.filterMap_append]
  have : cutD d[j] Z = none := if_neg h
  simp [this]
theorem defCut_len (d : List Dfc) (Z : Span) : (defCut d Z).length ≤ d.length := List.length_filterMap_le ..
theorem defGo_iff : ∀ d : List Dfc, defGo d = 0 ↔ ∀ x ∈ d, dfChk x = 0
  | [] => by simp [defGo]
  | y :: l => by
    unfold defGo
    by_cases h : dfChk y = 0
    · rw [if_pos h, defGo_iff l]; simp [h]
    · rw [if_neg h]; simp [h]
theorem defChk_iff (d : List Dfc) : defChk d = 0 ↔ d.length ≤ 64 ∧ ∀ x ∈ d, dfChk x = 0 := by
  unfold defChk
  by_cases h : 64 < d.length
  · rw [if_pos h]; simp; omega
  · rw [if_neg h, defGo_iff]; exact ⟨fun hh => ⟨by omega, hh⟩, fun hh => hh.2⟩
theorem def_z {d : List Dfc} (h : defChk d = 0) : d.length ≤ 64 ∧ ∀ i (hi : i < d.length), 0 ≤ d[i].z.1 ∧ d[i].z.1 ≤ 20000 ∧ 0 ≤ d[i].z.2 ∧ d[i].z.2 ≤ 20000 := by
  obtain ⟨h1, h2⟩ := (defChk_iff d).1 h
  refine ⟨h1, fun i hi => ?_⟩
  have := h2 _ (List.getElem_mem hi)
  unfold dfChk at this
  split at this
  · cases this
  · split at this
    · cases this
    · split at this
      · rename_i h3
        unfold dfRange inB at h3
        simp only [Bool.and_eq_true, decide_eq_true_eq] at h3
        omega
      · cases this
theorem bmeet_con (a b : Span) : Con Tryd.prog gl 43 [spV a, spV b] (spV (meetS a b)) := by
  obtain ⟨a, a'⟩ := a
  obtain ⟨b, b'⟩ := b
  unfold meetS
  dsimp only
  refine con_of Tryd.func43 rfl (by kernel_rfl) rfl ?_
  simp only [Tryd.ntmps43, Tryd.results43, argEnv, ofC, of1, List.map]
  by_cases h : min a' b' ≤ max a b
  · rw [if_pos h]
    repeat' (first
      | ((with_reducible apply aw_seq))
      | ((with_reducible apply aw_region))
      | ((with_reducible apply thn_normal))
      | ((with_reducible apply thn_ret))
      | ((with_reducible apply aw_ret))
      | ((with_reducible apply ao_nil))
      | ((with_reducible apply r_field_p); exact rfl; exact rfl)
      | ((with_reducible apply r_load_p); exact rfl; exact rfl; exact rfl; exact rfl)
      | ((with_reducible apply r_geq); exact rfl; exact rfl; exact rfl)
      | ((with_reducible apply r_max); exact rfl; exact rfl; exact rfl)
      | ((with_reducible apply r_min); exact rfl; exact rfl; exact rfl)
      | ((with_reducible apply r_box_a); exact rfl; exact rfl)
      | ((with_reducible apply r_store_pa); exact rfl; exact rfl; exact rfl; exact rfl; exact rfl; exact rfl)
      | ((with_reducible apply r_build); exact rfl; exact rfl; exact rfl)
      | ((with_reducible apply r_alloc); exact rfl)
      | (((with_reducible apply aw_cond); exact rfl) <;> intro hg <;> (first | (exact absurd hg (by decide)) | ((try simp only [decide_eq_true_eq, decide_eq_false_iff_not, Bool.not_eq_true', Bool.not_eq_false', Bool.not_true, Bool.not_false, Bool.not_not, Int.not_lt, Int.not_le, Nat.not_lt, Nat.not_le, gt_iff_lt, ge_iff_le, List.cons.injEq, and_true] at hg); first | (exact absurd trivial hg) | (exfalso; omega) | (have hT : True := hg; clear hT hg) | skip)))
      )
    exact ret1 (.cell_a inferInstance rfl rfl rfl rfl (cl_cons cl_c (cl_cons cl_c cl_nil)))
  · rw [if_neg h]
    repeat' (first
      | ((with_reducible apply aw_seq))
      | ((with_reducible apply aw_region))
      | ((with_reducible apply thn_normal))
      | ((with_reducible apply aw_skip))
      | ((with_reducible apply aw_ret))
      | ((with_reducible apply ao_nil))
      | ((with_reducible apply r_field_p); exact rfl; exact rfl)
      | ((with_reducible apply r_load_p); exact rfl; exact rfl; exact rfl; exact rfl)
      | ((with_reducible apply r_load_pa); exact rfl; exact rfl; exact rfl; exact rfl; exact rfl)
      | ((with_reducible apply r_geq); exact rfl; exact rfl; exact rfl)
      | ((with_reducible apply r_max); exact rfl; exact rfl; exact rfl)
      | ((with_reducible apply r_min); exact rfl; exact rfl; exact rfl)
      | ((with_reducible apply r_box_a); exact rfl; exact rfl)
      | ((with_reducible apply r_store_pa); exact rfl; exact rfl; exact rfl; exact rfl; exact rfl; exact rfl)
      | ((with_reducible apply r_build); exact rfl; exact rfl; exact rfl)
      | ((with_reducible apply r_alloc); exact rfl)
      | (((with_reducible apply aw_cond); exact rfl) <;> intro hg <;> (first | (exact absurd hg (by decide)) | ((try simp only [decide_eq_true_eq, decide_eq_false_iff_not, Bool.not_eq_true', Bool.not_eq_false', Bool.not_true, Bool.not_false, Bool.not_not, Int.not_lt, Int.not_le, Nat.not_lt, Nat.not_le, gt_iff_lt, ge_iff_le, List.cons.injEq, and_true] at hg); first | (exact absurd trivial hg) | (exfalso; omega) | (have hT : True := hg; clear hT hg) | skip)))
      )
    exact ret1 (.cell_a inferInstance rfl rfl rfl rfl (cl_cons cl_c (cl_cons cl_c cl_nil)))
theorem mul_fit {a u : Int} (ha : 0 ≤ a ∧ a ≤ 4000) (hu : 1 ≤ u ∧ u ≤ 1000) : 0 ≤ a * u ∧ a * u ≤ 4000000 := mul_bd2 (m := 4000) (k := 1000) ha ⟨by omega, hu.2⟩
set_option maxRecDepth 100000 in
set_option maxHeartbeats 8000000 in
theorem part_con (p : Plan) (s : Lg) (q n : Int) (hq : 0 ≤ q ∧ q ≤ 2000) (hn : 0 ≤ n ∧ n ≤ 2000) (hu : 1 ≤ p.unit ∧ p.unit ≤ 1000) (hl : s.1.length ≤ maxLen) (hd : defChk s.2 = 0) : Con Tryd.prog gl 25 [planV p, lgV s, I q, I n] (lgV (partS s (q * p.unit, (q + n) * p.unit))) := by
  obtain ⟨l, d⟩ := s
  obtain ⟨K, ls, u, kf⟩ := p
  obtain ⟨d1, d2⟩ := def_z hd
  have m1 := mul_fit (a := q) (u := u) (by omega) hu
  have m2 := mul_fit (a := q + n) (u := u) (by omega) hu
  unfold partS
  dsimp only at hl d1 d2 ⊢
  generalize hz1 : q * u = z1 at m1
  generalize hz2 : (q + n) * u = z2 at m2
  have f1 : fits (q * u) := by rw [hz1]; unfold fits; omega
  have f2 : fits ((q + n) * u) := by rw [hz2]; unfold fits; omega
  have hc := scut_con (gl := gl) l hl (z1, z2)
  refine con_of Tryd.func25 rfl (by kernel_rfl) rfl ?_
  simp only [Tryd.ntmps25, Tryd.results25, argEnv, ofC, of1, List.map]
  repeat' (first
    | ((with_reducible apply r_mul); exact rfl; exact rfl; (first | exact f1 | exact f2); exact rfl; (first | rw [hz1] | rw [hz2]))
    | ((with_reducible apply r_call); exact rfl; exact rfl; exact hc; exact rfl; exact rfl)
    | ((with_reducible apply aw_seq))
    | ((with_reducible apply aw_region))
    | ((with_reducible apply aw_block))
    | ((with_reducible apply thn_normal))
    | ((with_reducible apply ao_nil))
    | ((with_reducible apply r_move); exact rfl; exact rfl)
    | ((with_reducible apply r_field_p); exact rfl; exact rfl)
    | ((with_reducible apply r_load_p); exact rfl; exact rfl; exact rfl; exact rfl)
    | ((with_reducible apply r_load_pa); exact rfl; exact rfl; exact rfl; exact rfl; exact rfl)
    | ((with_reducible apply r_add); exact rfl; exact rfl; exact (by first | assumption | (unfold fits; omega)); exact rfl)
    | ((with_reducible apply r_box_a); exact rfl; exact rfl)
    | ((with_reducible apply r_len_f); exact rfl; exact inferInstance; exact rfl)
    | ((with_reducible apply r_store_pa); exact rfl; exact rfl; exact rfl; exact rfl; exact rfl; exact rfl)
    | ((with_reducible apply r_build); exact rfl; exact rfl; exact rfl)
    | ((with_reducible apply r_alloc); exact rfl)
    )
  refine aw_nilcell 4 1 92 7 rfl rfl rfl rfl ?_
  refine aw_loopG (G := Nat × List Dfc) (fun ((j, acc) : Nat × List Dfc) => j ≤ d.length ∧ acc.length ≤ j ∧ acc = defCut (d.take j) (z1, z2)) (fun ((j, acc) : Nat × List Dfc) => d.length - j) (fun ((j, acc) : Nat × List Dfc) => [(8, .ptr 2 0), (9, .ptr 3 0), (10, .ptr 4 0), (31, .c (LD d)), (32, A d.length), (33, A j)]) (fun ((j, acc) : Nat × List Dfc) => [(2, some (.cells 43 [.c (.v (.slice none 0 0)), .c (.v (.slice none 0 0))])), (3, some (.cells 54 [A z1, A z2])), (4, some (.cells 43 [.c (LL (cutS l (z1, z2))), .vec 5 acc.length])), (5, some (.vec 92 7 (acc.flatMap dfC)))]) 6 (0, []) ?_ (by refine weak_mk rfl ?_ ?_ <;> repeat (first | exact envW_nil | exact heapW_nil | refine envW_cons rfl rfl ?_ | refine heapW_cons rfl rfl rfl ?_)) rfl ?_
  · exact ⟨Nat.zero_le _, Nat.zero_le _, rfl⟩
  rintro ⟨j, acc⟩ hI
  try dsimp only at hI
  try dsimp only
  obtain ⟨hj, hal, hacc⟩ := hI
  by_cases hjl : j < d.length
  · have hb := d2 j hjl
    have hm := bmeet_con (gl := gl) d[j].z (z1, z2)
    unfold meetS at hm
    dsimp only at hm
    by_cases hlt : max d[j].z.1 z1 < min d[j].z.2 z2
    · rw [if_neg (by omega)] at hm
      have hy := defCut_yes (Z := (z1, z2)) hjl hlt
      dsimp only at hy
      generalize hma : max d[j].z.1 z1 = ma at hm hlt hy
      generalize hmb : min d[j].z.2 z2 = mb at hm hlt hy
      repeat' (first
        | ((with_reducible apply r_call); exact rfl; exact rfl; exact hm; exact rfl; exact rfl)
        | ((with_reducible apply (r_push (enc := dfC) (x0 := (⟨d[j].kind, d[j].x, d[j].y, (ma - z1, mb - z1)⟩ : Dfc)))); exact rfl; exact rfl; exact inferInstance; exact rfl; exact rfl; exact rfl; exact rfl; exact (by omega); exact (by omega); exact rfl)
        | ((with_reducible apply aw_seq))
        | ((with_reducible apply aw_region))
        | ((with_reducible apply aw_block))
        | ((with_reducible apply thn_normal))
        | ((with_reducible apply inb_normal))
        | ((with_reducible apply aw_skip))
        | ((with_reducible apply ao_nil))
        | ((with_reducible apply r_move); exact rfl; exact rfl)
        | ((with_reducible apply r_field_p); exact rfl; exact rfl)
        | ((with_reducible apply r_load_p); exact rfl; exact rfl; exact rfl; exact rfl)
        | ((with_reducible apply r_load_pa); exact rfl; exact rfl; exact rfl; exact rfl; exact rfl)
        | ((with_reducible apply r_lss); exact rfl; exact rfl; exact rfl)
        | ((with_reducible apply r_add); exact rfl; exact rfl; exact (by first | assumption | (unfold fits; omega)); exact rfl)
        | ((with_reducible apply r_sub); exact rfl; exact rfl; exact (by first | assumption | (unfold fits; omega)); exact rfl)
        | ((with_reducible apply r_index_f); exact rfl; exact inferInstance; exact rfl; exact rfl; (first | assumption | omega); exact rfl)
        | ((with_reducible apply r_load_fa0); exact rfl; exact inferInstance; exact List.getElem?_eq_getElem (by first | assumption | omega); exact rfl; exact rfl; exact rfl)
        | ((with_reducible apply r_store_p); exact rfl; exact rfl; exact rfl; exact rfl; exact rfl; exact rfl)
        | ((with_reducible apply r_store_pa); exact rfl; exact rfl; exact rfl; exact rfl; exact rfl; exact rfl)
        | ((with_reducible apply r_build); exact rfl; exact rfl; exact rfl)
        | ((with_reducible apply r_alloc); exact rfl)
        | (((with_reducible apply aw_cond); exact rfl) <;> intro hg <;> (first | (exact absurd hg (by decide)) | ((try simp only [decide_eq_true_eq, decide_eq_false_iff_not, Bool.not_eq_true', Bool.not_eq_false', Bool.not_true, Bool.not_false, Bool.not_not, Int.not_lt, Int.not_le, Nat.not_lt, Nat.not_le, gt_iff_lt, ge_iff_le, List.cons.injEq, and_true] at hg); first | (exact absurd trivial hg) | (exfalso; omega) | (have hT : True := hg; clear hT hg) | skip)))
        | ((with_reducible apply r_eqs); exact rfl; exact rfl; exact rfl; exact rfl; exact rfl; exact rfl; exact rfl)
        | ((with_reducible apply r_lit); exact rfl; exact rfl; exact rfl; exact rfl; exact rfl; exact rfl; exact rfl)
        )
      have e2 : acc.length + 1 = (acc ++ [(⟨d[j].kind, d[j].x, d[j].y, (ma - z1, mb - z1)⟩ : Dfc)]).length := by simp
      rw [e2]
      refine ⟨(j + 1, acc ++ [⟨d[j].kind, d[j].x, d[j].y, (ma - z1, mb - z1)⟩]), ?_, ?_, by refine weak_mk rfl ?_ ?_ <;> repeat (first | exact envW_nil | exact heapW_nil | refine envW_cons rfl rfl ?_ | refine heapW_cons rfl rfl rfl ?_)⟩
      · show _ - (j + 1) < _ - j; omega
      · refine ⟨by show j + 1 ≤ _; omega, by show (acc ++ [_]).length ≤ j + 1; simp; omega, ?_⟩
        show acc ++ [_] = defCut (d.take (j + 1)) (z1, z2)
        rw [hy, hacc]
    · rw [if_pos (by omega)] at hm
      repeat' (first
        | ((with_reducible apply r_call); exact rfl; exact rfl; exact hm; exact rfl; exact rfl)
        | ((with_reducible apply aw_seq))
        | ((with_reducible apply aw_region))
        | ((with_reducible apply aw_block))
        | ((with_reducible apply thn_normal))
        | ((with_reducible apply thn_exit))
        | ((with_reducible apply inb_exit))
        | ((with_reducible apply aw_skip))
        | ((with_reducible apply aw_exit))
        | ((with_reducible apply ao_nil))
        | ((with_reducible apply r_move); exact rfl; exact rfl)
        | ((with_reducible apply r_field_p); exact rfl; exact rfl)
        | ((with_reducible apply r_load_pa); exact rfl; exact rfl; exact rfl; exact rfl; exact rfl)
        | ((with_reducible apply r_lss); exact rfl; exact rfl; exact rfl)
        | ((with_reducible apply r_add); exact rfl; exact rfl; exact (by first | assumption | (unfold fits; omega)); exact rfl)
        | ((with_reducible apply r_index_f); exact rfl; exact inferInstance; exact rfl; exact rfl; (first | assumption | omega); exact rfl)
        | ((with_reducible apply r_load_fa0); exact rfl; exact inferInstance; exact List.getElem?_eq_getElem (by first | assumption | omega); exact rfl; exact rfl; exact rfl)
        | ((with_reducible apply r_store_pa); exact rfl; exact rfl; exact rfl; exact rfl; exact rfl; exact rfl)
        | ((with_reducible apply r_build); exact rfl; exact rfl; exact rfl)
        | ((with_reducible apply r_alloc); exact rfl)
        | (((with_reducible apply aw_cond); exact rfl) <;> intro hg <;> (first | (exact absurd hg (by decide)) | ((try simp only [decide_eq_true_eq, decide_eq_false_iff_not, Bool.not_eq_true', Bool.not_eq_false', Bool.not_true, Bool.not_false, Bool.not_not, Int.not_lt, Int.not_le, Nat.not_lt, Nat.not_le, gt_iff_lt, ge_iff_le, List.cons.injEq, and_true] at hg); first | (exact absurd trivial hg) | (exfalso; omega) | (have hT : True := hg; clear hT hg) | skip)))
        | ((with_reducible apply r_eqs); exact rfl; exact rfl; exact rfl; exact rfl; exact rfl; exact rfl; exact rfl)
        )
      refine ⟨(j + 1, acc), ?_, ?_, by refine weak_mk rfl ?_ ?_ <;> repeat (first | exact envW_nil | exact heapW_nil | refine envW_cons rfl rfl ?_ | refine heapW_cons rfl rfl rfl ?_)⟩
      · show _ - (j + 1) < _ - j; omega
      · exact ⟨by show j + 1 ≤ _; omega, by show acc.length ≤ j + 1; omega, by show acc = defCut (d.take (j + 1)) (z1, z2); rw [defCut_no hjl hlt]; exact hacc⟩
  · have e : defCut d (z1, z2) = acc := by rw [hacc, List.take_of_length_le (by omega)]
    rw [e]
    repeat' (first
      | ((with_reducible apply aw_seq))
      | ((with_reducible apply aw_region))
      | ((with_reducible apply thn_normal))
      | ((with_reducible apply thn_exit))
      | ((with_reducible apply inb_exit))
      | ((with_reducible apply aw_exit))
      | ((with_reducible apply aw_ret))
      | ((with_reducible apply ao_nil))
      | ((with_reducible apply r_load_pa); exact rfl; exact rfl; exact rfl; exact rfl; exact rfl)
      | ((with_reducible apply r_lss); exact rfl; exact rfl; exact rfl)
      | ((with_reducible apply r_store_pa); exact rfl; exact rfl; exact rfl; exact rfl; exact rfl; exact rfl)
      | (((with_reducible apply aw_cond); exact rfl) <;> intro hg <;> (first | (exact absurd hg (by decide)) | ((try simp only [decide_eq_true_eq, decide_eq_false_iff_not, Bool.not_eq_true', Bool.not_eq_false', Bool.not_true, Bool.not_false, Bool.not_not, Int.not_lt, Int.not_le, Nat.not_lt, Nat.not_le, gt_iff_lt, ge_iff_le, List.cons.injEq, and_true] at hg); first | (exact absurd trivial hg) | (exfalso; omega) | (have hT : True := hg; clear hT hg) | skip)))
      )
    exact ret1 (.cell_a inferInstance rfl rfl rfl rfl (cl_cons cl_c (cl_cons (cl_vec rfl (flat_len EncL.len _)) cl_nil)))
end Go.Proofs.YtkhljpbkebnnmaaDoor.Bu
/- Walks of bucking: Line. -/
namespace Go.Proofs.YtkhljpbkebnnmaaDoor.Bu
set_option linter.unusedVariables false
set_option linter.unusedSimpArgs false
open Go.RowKit Go.Proofs.YtkhljpbkebnnmaaDoor.Ev Go.Proofs.YtkhljpbkebnnmaaDoor.Ge
variable {gl : List (Nat × List CV)}

noncomputable def gainS (p : Plan) (s : Lg) (q n : Int) : Int := priceS p.classes (partS s (q * p.unit, (q + n) * p.unit)).1 (partS s (q * p.unit, (q + n) * p.unit)).2
noncomputable def rowN (p : Plan) (s : Lg) (n : Int) (k : Nat) : List Int := (List.range k).map (fun q : Nat => gainS p s q n)
noncomputable def rowL (p : Plan) (s : Lg) (u n : Int) : List Int := rowN p s n (max 0 (u - n + 1)).toNat
noncomputable def lineOf (p : Plan) (s : Lg) (u : Int) : Cu.Line := ⟨u, p.kerf, 1, p.lens, p.lens.map (rowL p s u), List.replicate u.toNat 0, List.replicate u.toNat 0⟩
noncomputable def lineS (p : Plan) (s : Lg) : Cu.Line × Int :=
  open Classical in
  if planChk p ≠ 0 then (Cu.zeroL, planChk p) else if solChk s.1 ≠ 0 then (Cu.zeroL, solChk s.1) else if defChk s.2 ≠ 0 then (Cu.zeroL, defChk s.2) else if 2000 < lengthS s.1 / p.unit then (Cu.zeroL, 9) else (lineOf p s (lengthS s.1 / p.unit), 0)
abbrev lrC (r : Cu.Line × Int) : CV := .tup [Cu.lineC r.1, I r.2]
theorem ls_plan {p : Plan} {s : Lg} (h : ¬ planChk p = 0) : lineS p s = (Cu.zeroL, planChk p) := by unfold lineS; rw [if_pos h]
theorem ls_sol {p : Plan} {s : Lg} (h : planChk p = 0) (h2 : ¬ solChk s.1 = 0) : lineS p s = (Cu.zeroL, solChk s.1) := by unfold lineS; rw [if_neg (fun hh => hh h), if_pos h2]
theorem ls_def {p : Plan} {s : Lg} (h : planChk p = 0) (h2 : solChk s.1 = 0) (h3 : ¬ defChk s.2 = 0) : lineS p s = (Cu.zeroL, defChk s.2) := by unfold lineS; rw [if_neg (fun hh => hh h), if_neg (fun hh => hh h2), if_pos h3]
theorem ls_long {p : Plan} {s : Lg} (h : planChk p = 0) (h2 : solChk s.1 = 0) (h3 : defChk s.2 = 0) (h4 : 2000 < lengthS s.1 / p.unit) : lineS p s = (Cu.zeroL, 9) := by unfold lineS; rw [if_neg (fun hh => hh h), if_neg (fun hh => hh h2), if_neg (fun hh => hh h3), if_pos h4]
theorem ls_ok {p : Plan} {s : Lg} (h : planChk p = 0) (h2 : solChk s.1 = 0) (h3 : defChk s.2 = 0) (h4 : ¬ 2000 < lengthS s.1 / p.unit) : lineS p s = (lineOf p s (lengthS s.1 / p.unit), 0) := by unfold lineS; rw [if_neg (fun hh => hh h), if_neg (fun hh => hh h2), if_neg (fun hh => hh h3), if_neg h4]
theorem length_bd (l : List Slc) : 0 ≤ lengthS l ∧ lengthS l ≤ 20000 := by
  have := pos_bd (valL_V l) (Nat.le_refl _)
  unfold lengthS; omega
theorem rowN_len (p : Plan) (s : Lg) (n : Int) (k : Nat) : (rowN p s n k).length = k := by simp [rowN]
theorem rowN_succ (p : Plan) (s : Lg) (n : Int) (k : Nat) : rowN p s n (k + 1) = rowN p s n k ++ [gainS p s k n] := by simp [rowN, List.range_succ]
theorem part_len (s : Lg) (Z : Span) (hd : defChk s.2 = 0) : (partS s Z).1.length ≤ maxLen ∧ (partS s Z).2.length ≤ maxLen := by
  have h1 := cutS_len s.1 Z
  have h2 := defCut_len s.2 Z
  have h3 := (def_z hd).1
  unfold partS maxLen
  dsimp only
  omega
abbrev nil7 : List AV := [A 0, A 0, A 0, .c (.v (.slice none 0 0)), .c (.v (.slice none 0 0)), .c (.v (.slice none 0 0)), .c (.v (.slice none 0 0))]
theorem rows_succ (p : Plan) (s : Lg) (u : Int) (j : Nat) (hj : j < p.lens.length) : (p.lens.take (j + 1)).map (rowL p s u) = (p.lens.take j).map (rowL p s u) ++ [rowL p s u p.lens[j]] := by
  rw [List.take_succ_eq_append_getElem hj, List.map_append]; rfl
set_option maxRecDepth 100000 in
set_option maxHeartbeats 16000000 in
theorem bline_con (p : Plan) (s : Lg) (hK : p.classes.length ≤ maxLen) (hl : s.1.length ≤ maxLen) (hd : s.2.length ≤ maxLen) : Con Tryd.prog gl 7 [planV p, lgV s] (lrC (lineS p s)) := by
  have c0 := pcheck_con (gl := gl) p hK
  have c1 := scheck_con (gl := gl) s.1 hl
  have c2 := dcheck_con (gl := gl) s.2 hd
  have c3 := slength_con (gl := gl) s.1 hl
  refine con_of Tryd.func7 rfl (by kernel_rfl) rfl ?_
  simp only [Tryd.ntmps7, Tryd.results7, argEnv, ofC, of1, List.map]
  by_cases h0 : planChk p = 0
  rotate_left
  · rw [ls_plan h0]
    repeat' (first
      | ((with_reducible apply r_call); exact rfl; exact rfl; exact c0; exact rfl; exact rfl)
      | ((with_reducible apply aw_seq))
      | ((with_reducible apply aw_region))
      | ((with_reducible apply thn_normal))
      | ((with_reducible apply thn_ret))
      | ((with_reducible apply aw_ret))
      | ((with_reducible apply ao_nil))
      | ((with_reducible apply r_move); exact rfl; exact rfl)
      | ((with_reducible apply r_assign); exact rfl; exact rfl)
      | ((with_reducible apply r_load_pa); exact rfl; exact rfl; exact rfl; exact rfl; exact rfl)
      | ((with_reducible apply r_neq); exact rfl; exact rfl; exact rfl)
      | ((with_reducible apply r_box_a); exact rfl; exact rfl)
      | ((with_reducible apply r_store_pa); exact rfl; exact rfl; exact rfl; exact rfl; exact rfl; exact rfl)
      | ((with_reducible apply r_build); exact rfl; exact rfl; exact rfl)
      | ((with_reducible apply r_alloc); exact rfl)
      | (((with_reducible apply aw_cond); exact rfl) <;> intro hg <;> (first | (exact absurd hg (by decide)) | ((try simp only [decide_eq_true_eq, decide_eq_false_iff_not, Bool.not_eq_true', Bool.not_eq_false', Bool.not_true, Bool.not_false, Bool.not_not, Int.not_lt, Int.not_le, Nat.not_lt, Nat.not_le, gt_iff_lt, ge_iff_le, List.cons.injEq, and_true] at hg); first | (exact absurd trivial hg) | (exfalso; omega) | (have hT : True := hg; clear hT hg) | skip)))
      )
    exact ret2 (.cons (.cell_a inferInstance rfl rfl rfl rfl (cl_cons cl_c (cl_cons cl_c (cl_cons cl_c (cl_cons cl_none (cl_cons cl_none (cl_cons cl_none (cl_cons cl_none cl_nil)))))))) (.cons (.tmp rfl cl_c) .nil))
  by_cases h1 : solChk s.1 = 0
  rotate_left
  · rw [ls_sol h0 h1]
    rw [h0] at c0
    repeat' (first
      | ((with_reducible apply r_call); exact rfl; exact rfl; (first | exact c0 | exact c1); exact rfl; exact rfl)
      | ((with_reducible apply aw_seq))
      | ((with_reducible apply aw_region))
      | ((with_reducible apply thn_normal))
      | ((with_reducible apply thn_ret))
      | ((with_reducible apply aw_skip))
      | ((with_reducible apply aw_ret))
      | ((with_reducible apply ao_nil))
      | ((with_reducible apply r_move); exact rfl; exact rfl)
      | ((with_reducible apply r_assign); exact rfl; exact rfl)
      | ((with_reducible apply r_field_p); exact rfl; exact rfl)
      | ((with_reducible apply r_load_p); exact rfl; exact rfl; exact rfl; exact rfl)
      | ((with_reducible apply r_load_pa); exact rfl; exact rfl; exact rfl; exact rfl; exact rfl)
      | ((with_reducible apply r_neq); exact rfl; exact rfl; exact rfl)
      | ((with_reducible apply r_box_a); exact rfl; exact rfl)
      | ((with_reducible apply r_store_pa); exact rfl; exact rfl; exact rfl; exact rfl; exact rfl; exact rfl)
      | ((with_reducible apply r_build); exact rfl; exact rfl; exact rfl)
      | ((with_reducible apply r_alloc); exact rfl)
      | (((with_reducible apply aw_cond); exact rfl) <;> intro hg <;> (first | (exact absurd hg (by decide)) | ((try simp only [decide_eq_true_eq, decide_eq_false_iff_not, Bool.not_eq_true', Bool.not_eq_false', Bool.not_true, Bool.not_false, Bool.not_not, Int.not_lt, Int.not_le, Nat.not_lt, Nat.not_le, gt_iff_lt, ge_iff_le, List.cons.injEq, and_true] at hg); first | (exact absurd trivial hg) | (exfalso; omega) | (have hT : True := hg; clear hT hg) | skip)))
      )
    exact ret2 (.cons (.cell_a inferInstance rfl rfl rfl rfl (cl_cons cl_c (cl_cons cl_c (cl_cons cl_c (cl_cons cl_none (cl_cons cl_none (cl_cons cl_none (cl_cons cl_none cl_nil)))))))) (.cons (.tmp rfl cl_c) .nil))
  by_cases h2 : defChk s.2 = 0
  rotate_left
  · rw [ls_def h0 h1 h2]
    rw [h0] at c0
    rw [h1] at c1
    repeat' (first
      | ((with_reducible apply r_call); exact rfl; exact rfl; (first | exact c0 | exact c1 | exact c2); exact rfl; exact rfl)
      | ((with_reducible apply aw_seq))
      | ((with_reducible apply aw_region))
      | ((with_reducible apply thn_normal))
      | ((with_reducible apply thn_ret))
      | ((with_reducible apply aw_skip))
      | ((with_reducible apply aw_ret))
      | ((with_reducible apply ao_nil))
      | ((with_reducible apply r_move); exact rfl; exact rfl)
      | ((with_reducible apply r_assign); exact rfl; exact rfl)
      | ((with_reducible apply r_field_p); exact rfl; exact rfl)
      | ((with_reducible apply r_load_p); exact rfl; exact rfl; exact rfl; exact rfl)
      | ((with_reducible apply r_load_pa); exact rfl; exact rfl; exact rfl; exact rfl; exact rfl)
      | ((with_reducible apply r_neq); exact rfl; exact rfl; exact rfl)
      | ((with_reducible apply r_box_a); exact rfl; exact rfl)
      | ((with_reducible apply r_store_pa); exact rfl; exact rfl; exact rfl; exact rfl; exact rfl; exact rfl)
      | ((with_reducible apply r_build); exact rfl; exact rfl; exact rfl)
      | ((with_reducible apply r_alloc); exact rfl)
      | (((with_reducible apply aw_cond); exact rfl) <;> intro hg <;> (first | (exact absurd hg (by decide)) | ((try simp only [decide_eq_true_eq, decide_eq_false_iff_not, Bool.not_eq_true', Bool.not_eq_false', Bool.not_true, Bool.not_false, Bool.not_not, Int.not_lt, Int.not_le, Nat.not_lt, Nat.not_le, gt_iff_lt, ge_iff_le, List.cons.injEq, and_true] at hg); first | (exact absurd trivial hg) | (exfalso; omega) | (have hT : True := hg; clear hT hg) | skip)))
      )
    exact ret2 (.cons (.cell_a inferInstance rfl rfl rfl rfl (cl_cons cl_c (cl_cons cl_c (cl_cons cl_c (cl_cons cl_none (cl_cons cl_none (cl_cons cl_none (cl_cons cl_none cl_nil)))))))) (.cons (.tmp rfl cl_c) .nil))
  have pk := plan_ok h0
  have hlb := length_bd s.1
  have hu := pk.unit
  have hq : (lengthS s.1).tdiv p.unit = lengthS s.1 / p.unit := Int.tdiv_eq_ediv_of_nonneg hlb.1
  have hu0 : 0 ≤ lengthS s.1 / p.unit := Int.ediv_nonneg hlb.1 (by omega)
  have hu1 : lengthS s.1 / p.unit ≤ 20000 := Int.le_trans (Int.ediv_le_self _ hlb.1) hlb.2
  have hls := ls_long (p := p) (s := s) h0 h1 h2
  have hlo := ls_ok (p := p) (s := s) h0 h1 h2
  rw [h0] at c0
  rw [h1] at c1
  rw [h2] at c2
  obtain ⟨u, eu⟩ : ∃ u, u = lengthS s.1 / p.unit := ⟨_, rfl⟩
  rw [← eu] at hq hu0 hu1 hls hlo
  obtain ⟨L, eL⟩ : ∃ L, L = lengthS s.1 := ⟨_, rfl⟩
  rw [← eL] at c3 hq
  have hf : fits (L.tdiv p.unit) := by rw [hq]; unfold fits; omega
  by_cases hlong : 2000 < u
  · rw [hls hlong]
    repeat' (first
      | ((with_reducible apply r_call); exact rfl; exact rfl; (first | exact c0 | exact c1 | exact c2 | exact c3); exact rfl; exact rfl)
      | ((with_reducible apply r_quo); exact rfl; exact rfl; exact (by omega); exact hf; exact rfl; rw [hq])
      | ((with_reducible apply aw_seq))
      | ((with_reducible apply aw_region))
      | ((with_reducible apply thn_normal))
      | ((with_reducible apply thn_ret))
      | ((with_reducible apply aw_skip))
      | ((with_reducible apply aw_ret))
      | ((with_reducible apply ao_nil))
      | ((with_reducible apply r_move); exact rfl; exact rfl)
      | ((with_reducible apply r_assign); exact rfl; exact rfl)
      | ((with_reducible apply r_field_p); exact rfl; exact rfl)
      | ((with_reducible apply r_load_p); exact rfl; exact rfl; exact rfl; exact rfl)
      | ((with_reducible apply r_load_pa); exact rfl; exact rfl; exact rfl; exact rfl; exact rfl)
      | ((with_reducible apply r_gtr); exact rfl; exact rfl; exact rfl)
      | ((with_reducible apply r_neq); exact rfl; exact rfl; exact rfl)
      | ((with_reducible apply r_box_a); exact rfl; exact rfl)
      | ((with_reducible apply r_store_pa); exact rfl; exact rfl; exact rfl; exact rfl; exact rfl; exact rfl)
      | ((with_reducible apply r_build); exact rfl; exact rfl; exact rfl)
      | ((with_reducible apply r_alloc); exact rfl)
      | (((with_reducible apply aw_cond); exact rfl) <;> intro hg <;> (first | (exact absurd hg (by decide)) | ((try simp only [decide_eq_true_eq, decide_eq_false_iff_not, Bool.not_eq_true', Bool.not_eq_false', Bool.not_true, Bool.not_false, Bool.not_not, Int.not_lt, Int.not_le, Nat.not_lt, Nat.not_le, gt_iff_lt, ge_iff_le, List.cons.injEq, and_true] at hg); first | (exact absurd trivial hg) | (exfalso; omega) | (have hT : True := hg; clear hT hg) | skip)))
      | (refine aw_drawq ?_ ?_; (kernel_rfl))
      | ((with_reducible apply ds_nil))
      )
    exact ret2 (.cons (.cell_a inferInstance rfl rfl rfl rfl (cl_cons cl_c (cl_cons cl_c (cl_cons cl_c (cl_cons cl_none (cl_cons cl_none (cl_cons cl_none (cl_cons cl_none cl_nil)))))))) (.cons (.tmp rfl cl_c) .nil))
  rw [hlo hlong]
  have hln := pk.len
  have c4 := Cu.clone_con (gl := gl) p.lens (by omega)
  repeat' (first
    | (refine aw_drawA 7 ?_ rfl aop_alloc rfl ?_; (kernel_rfl); (simp only [List.take_succ_cons, List.take_zero, List.drop_succ_cons, List.drop_zero]))
    | ((with_reducible apply ds_nilA); exact rfl)
    | ((with_reducible apply r_call); exact rfl; exact rfl; (first | exact c0 | exact c1 | exact c2 | exact c3 | exact c4); exact rfl; exact rfl)
    | ((with_reducible apply r_quo); exact rfl; exact rfl; exact (by omega); exact hf; exact rfl; rw [hq])
    | ((with_reducible apply aw_seq))
    | ((with_reducible apply aw_region))
    | ((with_reducible apply aw_block))
    | ((with_reducible apply thn_normal))
    | ((with_reducible apply aw_skip))
    | ((with_reducible apply ao_nil))
    | ((with_reducible apply r_move); exact rfl; exact rfl)
    | ((with_reducible apply r_assign); exact rfl; exact rfl)
    | ((with_reducible apply r_field_p); exact rfl; exact rfl)
    | ((with_reducible apply r_load_p); exact rfl; exact rfl; exact rfl; exact rfl)
    | ((with_reducible apply r_load_pa); exact rfl; exact rfl; exact rfl; exact rfl; exact rfl)
    | ((with_reducible apply r_gtr); exact rfl; exact rfl; exact rfl)
    | ((with_reducible apply r_neq); exact rfl; exact rfl; exact rfl)
    | ((with_reducible apply r_box_a); exact rfl; exact rfl)
    | ((with_reducible apply r_len_f); exact rfl; exact inferInstance; exact rfl)
    | ((with_reducible apply r_store_pa); exact rfl; exact rfl; exact rfl; exact rfl; exact rfl; exact rfl)
    | ((with_reducible apply r_build); exact rfl; exact rfl; exact rfl)
    | ((with_reducible apply r_alloc); exact rfl)
    | (((with_reducible apply aw_cond); exact rfl) <;> intro hg <;> (first | (exact absurd hg (by decide)) | ((try simp only [decide_eq_true_eq, decide_eq_false_iff_not, Bool.not_eq_true', Bool.not_eq_false', Bool.not_true, Bool.not_false, Bool.not_not, Int.not_lt, Int.not_le, Nat.not_lt, Nat.not_le, gt_iff_lt, ge_iff_le, List.cons.injEq, and_true] at hg); first | (exact absurd trivial hg) | (exfalso; omega) | (have hT : True := hg; clear hT hg) | skip)))
    | (refine aw_drawq ?_ ?_; (kernel_rfl))
    | ((with_reducible apply ds_nil))
    )
  refine aw_nilcell 3 4 23 1 rfl rfl rfl rfl ?_
  refine aw_loopG (G := Nat) (fun (j : Nat) => j ≤ p.lens.length) (fun (j : Nat) => p.lens.length - j) (fun (j : Nat) => [(2, .ptr 0 0), (3, .ptr 1 0), (4, .ptr 2 0), (9, A u), (10, .ptr 3 0), (53, .c (LI p.lens)), (54, A p.lens.length), (55, A j)]) (fun (j : Nat) => [(0, some (.cells 41 (planA p))), (1, some (.cells 43 [.c (LL s.1), .c (LD s.2)])), (2, some (.cells 37 nil7)), (3, some (.cells 37 [A u, A p.kerf, A 1, .c (Cu.LI p.lens), .vec 4 j, .c (.v (.slice none 0 0)), .c (.v (.slice none 0 0))])), (4, some (.vec 23 1 (((p.lens.take j).map (rowL p s u)).flatMap Cu.rowC)))]) 5 0 ?_ (by refine weak_mk rfl ?_ ?_ <;> repeat (first | exact envW_nil | exact heapW_nil | refine envW_cons rfl rfl ?_ | refine heapW_cons rfl rfl rfl ?_)) rfl ?_
  · exact Nat.zero_le _
  rintro j hI
  try dsimp only at hI
  try dsimp only
  have hrl : ((p.lens.take j).map (rowL p s u)).length = j := by simp; omega
  by_cases hjl : j < p.lens.length
  · have hn := pk.one j hjl
    have hrs := rows_succ p s u j hjl
    obtain ⟨n, en⟩ : ∃ n, n = p.lens[j] := ⟨_, rfl⟩
    rw [← en] at hn hrs
    repeat' (first
      | (rw [← en])
      | ((with_reducible apply aw_seq))
      | ((with_reducible apply aw_region))
      | ((with_reducible apply aw_block))
      | ((with_reducible apply thn_normal))
      | ((with_reducible apply aw_skip))
      | ((with_reducible apply ao_nil))
      | ((with_reducible apply r_assign); exact rfl; exact rfl)
      | ((with_reducible apply r_lss); exact rfl; exact rfl; exact rfl)
      | ((with_reducible apply r_index_f); exact rfl; exact inferInstance; exact rfl; exact rfl; (first | assumption | omega); exact rfl)
      | ((with_reducible apply r_load_f0); exact rfl; exact inferInstance; exact List.getElem?_eq_getElem (by first | assumption | omega); exact rfl; exact rfl)
      | (((with_reducible apply aw_cond); exact rfl) <;> intro hg <;> (first | (exact absurd hg (by decide)) | ((try simp only [decide_eq_true_eq, decide_eq_false_iff_not, Bool.not_eq_true', Bool.not_eq_false', Bool.not_true, Bool.not_false, Bool.not_not, Int.not_lt, Int.not_le, Nat.not_lt, Nat.not_le, gt_iff_lt, ge_iff_le, List.cons.injEq, and_true] at hg); first | (exact absurd trivial hg) | (exfalso; omega) | (have hT : True := hg; clear hT hg) | skip)))
      )
    refine aw_nilvec 13 3 1 rfl rfl ?_
    refine aw_loopG (G := Nat) (fun (k : Nat) => (k = 0 ∨ (k : Int) + n ≤ u + 1)) (fun (k : Nat) => (u + 1 - k).toNat) (fun (k : Nat) => [(2, .ptr 0 0), (3, .ptr 1 0), (4, .ptr 2 0), (9, A u), (10, .ptr 3 0), (53, .c (LI p.lens)), (54, A p.lens.length), (55, A j), (12, A n), (13, .vec 5 k), (14, A k)]) (fun (k : Nat) => [(0, some (.cells 41 (planA p))), (1, some (.cells 43 [.c (LL s.1), .c (LD s.2)])), (2, some (.cells 37 nil7)), (3, some (.cells 37 [A u, A p.kerf, A 1, .c (Cu.LI p.lens), .vec 4 j, .c (.v (.slice none 0 0)), .c (.v (.slice none 0 0))])), (4, some (.vec 23 1 (((p.lens.take j).map (rowL p s u)).flatMap Cu.rowC))), (5, some (.vec 3 1 ((rowN p s n k).flatMap Cu.inC)))]) 6 0 ?_ (by refine weak_mk rfl ?_ ?_ <;> repeat (first | exact envW_nil | exact heapW_nil | refine envW_cons rfl rfl ?_ | refine heapW_cons rfl rfl rfl ?_)) rfl ?_
    · exact .inl rfl
    rintro k hI
    try dsimp only at hI
    try dsimp only
    by_cases hk : (k : Int) + n ≤ u
    · have cp := part_con (gl := gl) p s k n (by omega) (by omega) hu hl h2
      obtain ⟨g1, g2⟩ := part_len s ((k : Int) * p.unit, ((k : Int) + n) * p.unit) h2
      have cpr := price_con (gl := gl) p.classes (partS s ((k : Int) * p.unit, ((k : Int) + n) * p.unit)).1 (partS s ((k : Int) * p.unit, ((k : Int) + n) * p.unit)).2 hK g1 g2
      have hgn := rowN_succ p s n k
      unfold gainS at hgn
      generalize priceS p.classes (partS s ((k : Int) * p.unit, ((k : Int) + n) * p.unit)).1 (partS s ((k : Int) * p.unit, ((k : Int) + n) * p.unit)).2 = g at cpr hgn
      repeat' (first
        | ((with_reducible apply r_call); exact rfl; exact rfl; (first | exact cp | exact cpr); exact rfl; exact rfl)
        | ((with_reducible apply (r_push (enc := Cu.inC) (x0 := g))); exact rfl; exact rfl; exact inferInstance; exact (rowN_len _ _ _ _); exact rfl; exact rfl; exact rfl; exact (by omega); exact (by omega); exact rfl)
        | ((with_reducible apply aw_seq))
        | ((with_reducible apply aw_region))
        | ((with_reducible apply aw_block))
        | ((with_reducible apply thn_normal))
        | ((with_reducible apply inb_normal))
        | ((with_reducible apply aw_skip))
        | ((with_reducible apply ao_nil))
        | ((with_reducible apply r_move); exact rfl; exact rfl)
        | ((with_reducible apply r_assign); exact rfl; exact rfl)
        | ((with_reducible apply r_field_p); exact rfl; exact rfl)
        | ((with_reducible apply r_load_p); exact rfl; exact rfl; exact rfl; exact rfl)
        | ((with_reducible apply r_load_pa); exact rfl; exact rfl; exact rfl; exact rfl; exact rfl)
        | ((with_reducible apply r_leq); exact rfl; exact rfl; exact rfl)
        | ((with_reducible apply r_add); exact rfl; exact rfl; exact (by first | assumption | (unfold fits; omega)); exact rfl)
        | ((with_reducible apply r_store_pa); exact rfl; exact rfl; exact rfl; exact rfl; exact rfl; exact rfl)
        | ((with_reducible apply r_alloc); exact rfl)
        | (((with_reducible apply aw_cond); exact rfl) <;> intro hg <;> (first | (exact absurd hg (by decide)) | ((try simp only [decide_eq_true_eq, decide_eq_false_iff_not, Bool.not_eq_true', Bool.not_eq_false', Bool.not_true, Bool.not_false, Bool.not_not, Int.not_lt, Int.not_le, Nat.not_lt, Nat.not_le, gt_iff_lt, ge_iff_le, List.cons.injEq, and_true] at hg); first | (exact absurd trivial hg) | (exfalso; omega) | (have hT : True := hg; clear hT hg) | skip)))
        | ((with_reducible apply r_lit); exact rfl; exact rfl; exact rfl; exact rfl; exact rfl; exact rfl; exact rfl)
        )
      rw [← hgn]
      refine ⟨k + 1, ?_, ?_, by refine weak_mk rfl ?_ ?_ <;> repeat (first | exact envW_nil | exact heapW_nil | refine envW_cons rfl rfl ?_ | refine heapW_cons rfl rfl rfl ?_)⟩
      · show (u + 1 - ((k + 1 : Nat) : Int)).toNat < (u + 1 - k).toNat; omega
      · exact .inr (by show ((k + 1 : Nat) : Int) + n ≤ u + 1; omega)
    · have hrow : rowN p s n k = rowL p s u n := by unfold rowL; congr 1; omega
      repeat' (first
        | ((with_reducible apply (r_freeze 83)); exact rfl; exact rfl; exact (by rw [flat_len EncL.len, rowN_len]))
        | ((with_reducible apply r_litq); exact rfl; exact rfl; exact rfl; exact rfl; exact rfl; exact rfl; exact rfl)
        | ((with_reducible apply (r_appendl (enc := Cu.rowC) (l2 := [rowN p s n k]))); exact rfl; exact rfl; exact inferInstance; exact hrl; exact rfl; exact (by show j + 1 < _; omega); exact (by show (j + 1) * _ ≤ _; omega); exact rfl)
        | ((with_reducible apply aw_seq))
        | ((with_reducible apply aw_region))
        | ((with_reducible apply thn_normal))
        | ((with_reducible apply thn_exit))
        | ((with_reducible apply inb_normal))
        | ((with_reducible apply inb_exit))
        | ((with_reducible apply aw_exit))
        | ((with_reducible apply ao_nil))
        | ((with_reducible apply r_move); exact rfl; exact rfl)
        | ((with_reducible apply r_field_p); exact rfl; exact rfl)
        | ((with_reducible apply r_load_p); exact rfl; exact rfl; exact rfl; exact rfl)
        | ((with_reducible apply r_leq); exact rfl; exact rfl; exact rfl)
        | ((with_reducible apply r_add); exact rfl; exact rfl; exact (by first | assumption | (unfold fits; omega)); exact rfl)
        | ((with_reducible apply r_store_p); exact rfl; exact rfl; exact rfl; exact rfl; exact rfl; exact rfl)
        | (((with_reducible apply aw_cond); exact rfl) <;> intro hg <;> (first | (exact absurd hg (by decide)) | ((try simp only [decide_eq_true_eq, decide_eq_false_iff_not, Bool.not_eq_true', Bool.not_eq_false', Bool.not_true, Bool.not_false, Bool.not_not, Int.not_lt, Int.not_le, Nat.not_lt, Nat.not_le, gt_iff_lt, ge_iff_le, List.cons.injEq, and_true] at hg); first | (exact absurd trivial hg) | (exfalso; omega) | (have hT : True := hg; clear hT hg) | skip)))
        )
      rw [hrow, ← hrs]
      refine ⟨j + 1, ?_, ?_, by refine weak_mk rfl ?_ ?_ <;> repeat (first | exact envW_nil | exact heapW_nil | refine envW_cons rfl rfl ?_ | refine heapW_cons rfl rfl rfl ?_)⟩
      · show _ - (j + 1) < _ - j; omega
      · show j + 1 ≤ _; omega
  · obtain rfl : j = p.lens.length := by omega
    rw [List.take_length] at hrl ⊢
    repeat' (first
      | ((with_reducible apply r_make (enc := Cu.inC) (0 : Int) u.toNat); exact inferInstance; exact rfl; exact rfl; exact rfl; exact (Int.toNat_of_nonneg hu0).symm; exact (Int.toNat_of_nonneg hu0).symm; omega; omega; exact rfl)
      | ((with_reducible apply aw_seq))
      | ((with_reducible apply aw_region))
      | ((with_reducible apply thn_normal))
      | ((with_reducible apply thn_exit))
      | ((with_reducible apply inb_exit))
      | ((with_reducible apply aw_exit))
      | ((with_reducible apply aw_ret))
      | ((with_reducible apply ao_nil))
      | ((with_reducible apply r_move); exact rfl; exact rfl)
      | ((with_reducible apply r_assign); exact rfl; exact rfl)
      | ((with_reducible apply r_field_p); exact rfl; exact rfl)
      | ((with_reducible apply r_load_pa); exact rfl; exact rfl; exact rfl; exact rfl; exact rfl)
      | ((with_reducible apply r_lss); exact rfl; exact rfl; exact rfl)
      | ((with_reducible apply r_store_p); exact rfl; exact rfl; exact rfl; exact rfl; exact rfl; exact rfl)
      | ((with_reducible apply r_store_pa); exact rfl; exact rfl; exact rfl; exact rfl; exact rfl; exact rfl)
      | (((with_reducible apply aw_cond); exact rfl) <;> intro hg <;> (first | (exact absurd hg (by decide)) | ((try simp only [decide_eq_true_eq, decide_eq_false_iff_not, Bool.not_eq_true', Bool.not_eq_false', Bool.not_true, Bool.not_false, Bool.not_not, Int.not_lt, Int.not_le, Nat.not_lt, Nat.not_le, gt_iff_lt, ge_iff_le, List.cons.injEq, and_true] at hg); first | (exact absurd trivial hg) | (exfalso; omega) | (have hT : True := hg; clear hT hg) | skip)))
      )
    exact ret2 (.cons (.cell_a inferInstance rfl rfl rfl rfl (cl_cons cl_c (cl_cons cl_c (cl_cons cl_c (cl_cons cl_c (cl_cons (cl_vec rfl ((flat_len EncL.len _).trans (congrArg (· * 1) hrl))) (cl_cons (cl_vec rfl (by rw [flat_len EncL.len]; show (List.replicate u.toNat (0 : Int)).length * 1 = _; rw [List.length_replicate])) (cl_cons (cl_vec rfl (by rw [flat_len EncL.len]; show (List.replicate u.toNat (0 : Int)).length * 1 = _; rw [List.length_replicate])) cl_nil)))))))) (.cons (.tmp rfl cl_c) .nil))
end Go.Proofs.YtkhljpbkebnnmaaDoor.Bu
/- Walks of bucking: Best, Logs, sum, light. -/
namespace Go.Proofs.YtkhljpbkebnnmaaDoor.Bu
set_option linter.unusedVariables false
set_option linter.unusedSimpArgs false
open Go.RowKit Go.Proofs.YtkhljpbkebnnmaaDoor.Ev Go.Proofs.YtkhljpbkebnnmaaDoor.Ge
variable {gl : List (Nat × List CV)}

theorem priceS_bd (K : List Kl) (l : List Slc) (d : List Dfc) : 0 ≤ priceS K l d ∧ priceS K l d ≤ 700000000 := by
  rcases of_cases K l d with h | ⟨i, hi, hk, h, _, _⟩
  · rw [priceS_none h]; decide
  · rw [priceS_some hi h]
    have hp := price_bd (kl_ok hk K[i] (List.getElem_mem _))
    have hm := mulp_bd hp (volS_bd l)
    omega
theorem rowL_len (p : Plan) (s : Lg) (u n : Int) : (rowL p s u n).length = (max 0 (u - n + 1)).toNat := rowN_len ..
theorem rowL_get (p : Plan) (s : Lg) (u n : Int) (k : Nat) (h : k < (rowL p s u n).length) : (rowL p s u n)[k] = gainS p s k n := by simp [rowL, rowN]
theorem rowL_small (p : Plan) (s : Lg) (u n : Int) : Cu.smallL (rowL p s u n) = true := by
  unfold Cu.smallL
  refine all_of (fun i hi => ?_)
  rw [rowL_get]
  have := priceS_bd p.classes (partS s ((i : Int) * p.unit, ((i : Int) + n) * p.unit)).1 (partS s ((i : Int) * p.unit, ((i : Int) + n) * p.unit)).2
  unfold Cu.smallN gainS
  rw [decide_eq_true (by omega), decide_eq_true (by omega)]; rfl
theorem zeros_small (n : Nat) : Cu.smallL (List.replicate n 0) = true := by
  unfold Cu.smallL
  refine all_of (fun i hi => ?_)
  rw [List.getElem_replicate]; rfl
theorem line_chk {p : Plan} (pk : PlanOk p) (s : Lg) {u : Int} (hu : 0 ≤ u ∧ u ≤ 2000) : Cu.chk (lineOf p s u) = 0 := by
  have hk := pk.kerf
  have hm : Cu.measS (lineOf p s u) = 0 := by
    unfold Cu.measS
    rw [if_neg (by unfold Cu.headBad lineOf; dsimp only; omega), if_neg (by unfold lineOf; dsimp only; have := pk.len; omega), if_pos]
    show p.lens.all Cu.sizeOk = true
    refine all_of (fun i hi => ?_)
    have := pk.one i hi
    unfold Cu.sizeOk
    rw [decide_eq_true this.1, decide_eq_true this.2]; rfl
  unfold Cu.chk
  rw [if_neg (fun hh => hh hm), if_pos]
  · rw [if_pos]
    show ((p.lens.map (rowL p s u)).all Cu.smallL && Cu.smallL (List.replicate u.toNat 0) && Cu.smallL (List.replicate u.toNat 0)) = true
    rw [zeros_small, Bool.and_true, Bool.and_true]
    refine all_of (fun i hi => ?_)
    rw [List.getElem_map]; exact rowL_small ..
  · refine ⟨by simp [lineOf], by show ((List.replicate u.toNat (0 : Int)).length : Int) = u; simp; omega, by show ((List.replicate u.toNat (0 : Int)).length : Int) = u; simp; omega, fun i hi h1 h2 => ?_⟩
    exact ((congrArg (fun r : List Int => (r.length : Int)) (List.getElem_map (rowL p s u) (l := p.lens) (i := i) (h := h1))).trans (by show ((rowL p s u (p.lens[i]'h2)).length : Int) = max 0 (u - (p.lens[i]'h2) + 1); rw [rowL_len]; omega))
/-- The line of a plan and a stem that are sound. -/
structure LnOk (p : Plan) (s : Lg) (u : Int) : Prop where
  pk : PlanOk p
  sol : solChk s.1 = 0
  dfs : defChk s.2 = 0
  ub : 0 ≤ u ∧ u ≤ 2000
  ue : u = lengthS s.1 / p.unit
theorem line_cases (p : Plan) (s : Lg) : (∃ e, ¬ e = 0 ∧ lineS p s = (Cu.zeroL, e)) ∨ ∃ u, LnOk p s u ∧ lineS p s = (lineOf p s u, 0) := by
  by_cases h0 : planChk p = 0
  · by_cases h1 : solChk s.1 = 0
    · by_cases h2 : defChk s.2 = 0
      · have pk := plan_ok h0
        have hlb := length_bd s.1
        have hu := pk.unit
        have hu0 : 0 ≤ lengthS s.1 / p.unit := Int.ediv_nonneg hlb.1 (by omega)
        by_cases h3 : 2000 < lengthS s.1 / p.unit
        · exact .inl ⟨9, by decide, ls_long h0 h1 h2 h3⟩
        · exact .inr ⟨_, ⟨pk, h1, h2, ⟨hu0, by omega⟩, rfl⟩, ls_ok h0 h1 h2 h3⟩
      · exact .inl ⟨_, h2, ls_def h0 h1 h2⟩
    · exact .inl ⟨_, h1, ls_sol h0 h1⟩
  · exact .inl ⟨_, h0, ls_plan h0⟩
noncomputable def bbS (p : Plan) (s : Lg) : List Cu.Piece × Int × Int := if (lineS p s).2 ≠ 0 then ([], 0, (lineS p s).2) else Cu.bestS (lineS p s).1
theorem bb_err {p : Plan} {s : Lg} {e : Int} (he : ¬ e = 0) (h : lineS p s = (Cu.zeroL, e)) : bbS p s = ([], 0, e) := by unfold bbS; rw [h, if_pos he]
theorem bb_ok {p : Plan} {s : Lg} {u : Int} (h : lineS p s = (lineOf p s u, 0)) : bbS p s = Cu.bestS (lineOf p s u) := by unfold bbS; rw [h, if_neg (fun hh => hh rfl)]
set_option maxRecDepth 100000 in
set_option maxHeartbeats 8000000 in
theorem bbest_con (p : Plan) (s : Lg) (hK : p.classes.length ≤ maxLen) (hl : s.1.length ≤ maxLen) (hd : s.2.length ≤ maxLen) : Con Tryd.prog Cu.G 14 [planV p, lgV s] (Cu.bestC (bbS p s)) := by
  have c0 := bline_con (gl := Cu.G) p s hK hl hd
  refine con_of Tryd.func14 rfl (by kernel_rfl) rfl ?_
  simp only [Tryd.ntmps14, Tryd.results14, argEnv, ofC, of1, List.map]
  rcases line_cases p s with ⟨e, he, h⟩ | ⟨u, ok, h⟩
  · rw [bb_err he h]
    rw [h] at c0
    change Con _ _ _ _ (.tup [.agg [I 0, I 0, I 0, .lst 1 [], .lst 1 [], .lst 1 [], .lst 1 []], I e]) at c0
    repeat' (first
      | ((with_reducible apply r_call); exact rfl; exact rfl; exact c0; exact rfl; exact rfl)
      | ((with_reducible apply aw_seq))
      | ((with_reducible apply aw_region))
      | ((with_reducible apply thn_normal))
      | ((with_reducible apply thn_ret))
      | ((with_reducible apply aw_ret))
      | ((with_reducible apply ao_nil))
      | ((with_reducible apply r_move); exact rfl; exact rfl)
      | ((with_reducible apply r_assign); exact rfl; exact rfl)
      | ((with_reducible apply r_load_pa); exact rfl; exact rfl; exact rfl; exact rfl; exact rfl)
      | ((with_reducible apply r_neq); exact rfl; exact rfl; exact rfl)
      | ((with_reducible apply r_box_a); exact rfl; exact rfl)
      | ((with_reducible apply r_store_pa); exact rfl; exact rfl; exact rfl; exact rfl; exact rfl; exact rfl)
      | ((with_reducible apply r_extract); exact rfl; exact rfl; exact rfl)
      | ((with_reducible apply r_alloc); exact rfl)
      | (((with_reducible apply aw_cond); exact rfl) <;> intro hg <;> (first | (exact absurd hg (by decide)) | ((try simp only [decide_eq_true_eq, decide_eq_false_iff_not, Bool.not_eq_true', Bool.not_eq_false', Bool.not_true, Bool.not_false, Bool.not_not, Int.not_lt, Int.not_le, Nat.not_lt, Nat.not_le, gt_iff_lt, ge_iff_le, List.cons.injEq, and_true] at hg); first | (exact absurd trivial hg) | (exfalso; omega) | (have hT : True := hg; clear hT hg) | skip)))
      )
    exact ret2 (.cons (.tmp rfl cl_none) (.cons (.tmp rfl cl_c) (.cons (.tmp rfl cl_c) .nil)))
  · rw [bb_ok h]
    rw [h] at c0
    have c1 := Cu.best_con (lineOf p s u)
    rcases hb : Cu.bestS (lineOf p s u) with ⟨r1, r2, r3⟩
    rw [hb] at c1
    change Con _ _ _ _ (.tup [Cu.LP r1, I r2, I r3]) at c1
    change Con _ _ _ _ (.tup [.agg (Cu.lineL (lineOf p s u)), I 0]) at c0
    repeat' (first
      | ((with_reducible apply r_call); exact rfl; exact rfl; (first | exact c0 | exact c1); exact rfl; exact rfl)
      | ((with_reducible apply aw_seq))
      | ((with_reducible apply aw_region))
      | ((with_reducible apply thn_normal))
      | ((with_reducible apply aw_skip))
      | ((with_reducible apply aw_ret))
      | ((with_reducible apply ao_nil))
      | ((with_reducible apply r_move); exact rfl; exact rfl)
      | ((with_reducible apply r_assign); exact rfl; exact rfl)
      | ((with_reducible apply r_load_pa); exact rfl; exact rfl; exact rfl; exact rfl; exact rfl)
      | ((with_reducible apply r_neq); exact rfl; exact rfl; exact rfl)
      | ((with_reducible apply r_box_a); exact rfl; exact rfl)
      | ((with_reducible apply r_store_pa); exact rfl; exact rfl; exact rfl; exact rfl; exact rfl; exact rfl)
      | ((with_reducible apply r_extract); exact rfl; exact rfl; exact rfl)
      | ((with_reducible apply r_alloc); exact rfl)
      | (((with_reducible apply aw_cond); exact rfl) <;> intro hg <;> (first | (exact absurd hg (by decide)) | ((try simp only [decide_eq_true_eq, decide_eq_false_iff_not, Bool.not_eq_true', Bool.not_eq_false', Bool.not_true, Bool.not_false, Bool.not_not, Int.not_lt, Int.not_le, Nat.not_lt, Nat.not_le, gt_iff_lt, ge_iff_le, List.cons.injEq, and_true] at hg); first | (exact absurd trivial hg) | (exfalso; omega) | (have hT : True := hg; clear hT hg) | skip)))
      )
    exact ret2 (.cons (.tmp rfl cl_c) (.cons (.tmp rfl cl_c) (.cons (.tmp rfl cl_c) .nil)))
end Go.Proofs.YtkhljpbkebnnmaaDoor.Bu
/- Walks of bucking: Logs, sum. -/
namespace Go.Proofs.YtkhljpbkebnnmaaDoor.Bu
set_option linter.unusedVariables false
set_option linter.unusedSimpArgs false
open Go.RowKit Go.Proofs.YtkhljpbkebnnmaaDoor.Ev Go.Proofs.YtkhljpbkebnnmaaDoor.Ge
variable {gl : List (Nat × List CV)}

/-- The log that a piece is. -/
noncomputable def logOf (p : Plan) (s : Lg) (x : Cu.Piece) : Lg := partS s (x.2 * p.unit, (x.2 + p.lens.getD x.1.toNat 0) * p.unit)
noncomputable def logsS (p : Plan) (s : Lg) (l : List Cu.Piece) : List Lg × Int :=
  if (lineS p s).2 ≠ 0 then ([], (lineS p s).2) else if (Cu.cutsS (lineS p s).1 l).1 ≠ 0 then ([], (Cu.cutsS (lineS p s).1 l).1) else (l.map (logOf p s), 0)
abbrev lgsC (r : List Lg × Int) : CV := .tup [LStem r.1, I r.2]
theorem lg_err {p : Plan} {s : Lg} {l : List Cu.Piece} {e : Int} (he : ¬ e = 0) (h : lineS p s = (Cu.zeroL, e)) : logsS p s l = ([], e) := by unfold logsS; rw [h, if_pos he]
theorem lg_cut {p : Plan} {s : Lg} {l : List Cu.Piece} {u e : Int} {D C : List Span} (h : lineS p s = (lineOf p s u, 0)) (hc : Cu.cutsS (lineOf p s u) l = (e, D, C)) (he : ¬ e = 0) : logsS p s l = ([], e) := by
  unfold logsS; rw [h, if_neg (fun hh => hh rfl), hc, if_pos he]
theorem lg_ok {p : Plan} {s : Lg} {l : List Cu.Piece} {u : Int} {D C : List Span} (h : lineS p s = (lineOf p s u, 0)) (hc : Cu.cutsS (lineOf p s u) l = (0, D, C)) : logsS p s l = (l.map (logOf p s), 0) := by
  unfold logsS; rw [h, if_neg (fun hh => hh rfl), hc, if_neg (fun hh => hh rfl)]
theorem piece_in {p : Plan} {s : Lg} {u : Int} (ok : LnOk p s u) {l : List Cu.Piece} {D C : List Span} (hc : Cu.cutsS (lineOf p s u) l = (0, D, C)) : ∀ j (h : j < l.length), 0 ≤ l[j].1 ∧ ∃ hk : l[j].1.toNat < p.lens.length, p.lens.getD l[j].1.toNat 0 = p.lens[l[j].1.toNat] ∧ 0 ≤ l[j].2 ∧ l[j].2 + p.lens[l[j].1.toNat] ≤ u := by
  intro j hj
  obtain ⟨h1, h2⟩ := Cu.cutsS_ok hc
  have v := Cu.valid_of h1
  obtain ⟨_, _, _, h3⟩ := Cu.cuts_ok v h2
  obtain ⟨e, he⟩ := h3 _ (List.getElem_mem hj)
  obtain ⟨q1, q2, q3, q4, _⟩ := Cu.perm0 (l := lineOf p s u) (e := e) (s := l[j].1) (p := l[j].2) he
  have q2' : l[j].1 < (p.lens.length : Int) := q2
  have hk : l[j].1.toNat < p.lens.length := by omega
  have hg : p.lens.getD l[j].1.toNat 0 = p.lens[l[j].1.toNat] := by simp [List.getD_eq_getElem?_getD, hk]
  have q4' : l[j].2 ≤ u - p.lens.getD l[j].1.toNat 0 := q4
  rw [hg] at q4'
  exact ⟨q1, hk, hg, q3, by omega⟩
theorem tot_nn' {n : Int} {ss : List Span} (h : Cu.AllSp n ss) : 0 ≤ Cu.tot ss := by
  have := Cu.tot_nn h; omega
theorem cut_few {p : Plan} {s : Lg} {u : Int} (ok : LnOk p s u) {l : List Cu.Piece} {D C : List Span} (hc : Cu.cutsS (lineOf p s u) l = (0, D, C)) : l.length ≤ 2000 := by
  obtain ⟨h1, h2⟩ := Cu.cutsS_ok hc
  have v := Cu.valid_of h1
  obtain ⟨a1, a2, h3, _⟩ := Cu.cuts_ok v h2
  have t1 := tot_nn' a1
  have t2 := tot_nn' a2
  have := ok.ub
  have h3' : Cu.tot D + Cu.tot C + (l.length : Int) ≤ u := h3
  omega
set_option maxRecDepth 100000 in
set_option maxHeartbeats 16000000 in
theorem blogs_con (p : Plan) (s : Lg) (l : List Cu.Piece) (hK : p.classes.length ≤ maxLen) (hl : s.1.length ≤ maxLen) (hd : s.2.length ≤ maxLen) (hp : l.length ≤ 100000) : Con Tryd.prog gl 10 [planV p, lgV s, Cu.LP l] (lgsC (logsS p s l)) := by
  have c0 := bline_con (gl := gl) p s hK hl hd
  refine con_of Tryd.func10 rfl (by kernel_rfl) rfl ?_
  simp only [Tryd.ntmps10, Tryd.results10, argEnv, ofC, of1, List.map]
  rcases line_cases p s with ⟨e, he, h⟩ | ⟨u, ok, h⟩
  · rw [lg_err he h]
    rw [h] at c0
    change Con _ _ _ _ (.tup [.agg [I 0, I 0, I 0, .lst 1 [], .lst 1 [], .lst 1 [], .lst 1 []], I e]) at c0
    repeat' (first
      | ((with_reducible apply r_call); exact rfl; exact rfl; exact c0; exact rfl; exact rfl)
      | ((with_reducible apply aw_seq))
      | ((with_reducible apply aw_region))
      | ((with_reducible apply thn_normal))
      | ((with_reducible apply thn_ret))
      | ((with_reducible apply aw_ret))
      | ((with_reducible apply ao_nil))
      | ((with_reducible apply r_move); exact rfl; exact rfl)
      | ((with_reducible apply r_assign); exact rfl; exact rfl)
      | ((with_reducible apply r_load_pa); exact rfl; exact rfl; exact rfl; exact rfl; exact rfl)
      | ((with_reducible apply r_neq); exact rfl; exact rfl; exact rfl)
      | ((with_reducible apply r_box_a); exact rfl; exact rfl)
      | ((with_reducible apply r_store_pa); exact rfl; exact rfl; exact rfl; exact rfl; exact rfl; exact rfl)
      | ((with_reducible apply r_extract); exact rfl; exact rfl; exact rfl)
      | ((with_reducible apply r_alloc); exact rfl)
      | (((with_reducible apply aw_cond); exact rfl) <;> intro hg <;> (first | (exact absurd hg (by decide)) | ((try simp only [decide_eq_true_eq, decide_eq_false_iff_not, Bool.not_eq_true', Bool.not_eq_false', Bool.not_true, Bool.not_false, Bool.not_not, Int.not_lt, Int.not_le, Nat.not_lt, Nat.not_le, gt_iff_lt, ge_iff_le, List.cons.injEq, and_true] at hg); first | (exact absurd trivial hg) | (exfalso; omega) | (have hT : True := hg; clear hT hg) | skip)))
      )
    exact ret2 (.cons (.tmp rfl cl_none) (.cons (.tmp rfl cl_c) .nil))
  rw [h] at c0
  have c1 := Cu.cuts_con (gl := gl) (lineOf p s u) l hp
  rcases hc : Cu.cutsS (lineOf p s u) l with ⟨e, D, C⟩
  rw [hc] at c1
  change Con _ _ _ _ (.tup [Cu.LS D, Cu.LS C, I e]) at c1
  change Con _ _ _ _ (.tup [.agg (Cu.lineL (lineOf p s u)), I 0]) at c0
  by_cases he : e = 0
  rotate_left
  · rw [lg_cut h hc he]
    repeat' (first
      | ((with_reducible apply r_call); exact rfl; exact rfl; (first | exact c0 | exact c1); exact rfl; exact rfl)
      | ((with_reducible apply aw_seq))
      | ((with_reducible apply aw_region))
      | ((with_reducible apply thn_normal))
      | ((with_reducible apply thn_ret))
      | ((with_reducible apply aw_skip))
      | ((with_reducible apply aw_ret))
      | ((with_reducible apply ao_nil))
      | ((with_reducible apply r_move); exact rfl; exact rfl)
      | ((with_reducible apply r_assign); exact rfl; exact rfl)
      | ((with_reducible apply r_load_pa); exact rfl; exact rfl; exact rfl; exact rfl; exact rfl)
      | ((with_reducible apply r_neq); exact rfl; exact rfl; exact rfl)
      | ((with_reducible apply r_box_a); exact rfl; exact rfl)
      | ((with_reducible apply r_store_pa); exact rfl; exact rfl; exact rfl; exact rfl; exact rfl; exact rfl)
      | ((with_reducible apply r_extract); exact rfl; exact rfl; exact rfl)
      | ((with_reducible apply r_alloc); exact rfl)
      | (((with_reducible apply aw_cond); exact rfl) <;> intro hg <;> (first | (exact absurd hg (by decide)) | ((try simp only [decide_eq_true_eq, decide_eq_false_iff_not, Bool.not_eq_true', Bool.not_eq_false', Bool.not_true, Bool.not_false, Bool.not_not, Int.not_lt, Int.not_le, Nat.not_lt, Nat.not_le, gt_iff_lt, ge_iff_le, List.cons.injEq, and_true] at hg); first | (exact absurd trivial hg) | (exfalso; omega) | (have hT : True := hg; clear hT hg) | skip)))
      )
    exact ret2 (.cons (.tmp rfl cl_none) (.cons (.tmp rfl cl_c) .nil))
  subst he
  rw [lg_ok h hc]
  have hin := piece_in ok hc
  have hu := ok.pk.unit
  have hone := ok.pk.one
  have huu := ok.ub
  repeat' (first
    | ((with_reducible apply r_call); exact rfl; exact rfl; (first | exact c0 | exact c1); exact rfl; exact rfl)
    | ((with_reducible apply aw_seq))
    | ((with_reducible apply aw_region))
    | ((with_reducible apply aw_block))
    | ((with_reducible apply thn_normal))
    | ((with_reducible apply aw_skip))
    | ((with_reducible apply ao_nil))
    | ((with_reducible apply r_move); exact rfl; exact rfl)
    | ((with_reducible apply r_assign); exact rfl; exact rfl)
    | ((with_reducible apply r_load_pa); exact rfl; exact rfl; exact rfl; exact rfl; exact rfl)
    | ((with_reducible apply r_neq); exact rfl; exact rfl; exact rfl)
    | ((with_reducible apply r_box_a); exact rfl; exact rfl)
    | ((with_reducible apply r_len_f); exact rfl; exact inferInstance; exact rfl)
    | ((with_reducible apply r_store_pa); exact rfl; exact rfl; exact rfl; exact rfl; exact rfl; exact rfl)
    | ((with_reducible apply r_extract); exact rfl; exact rfl; exact rfl)
    | ((with_reducible apply r_alloc); exact rfl)
    | (((with_reducible apply aw_cond); exact rfl) <;> intro hg <;> (first | (exact absurd hg (by decide)) | ((try simp only [decide_eq_true_eq, decide_eq_false_iff_not, Bool.not_eq_true', Bool.not_eq_false', Bool.not_true, Bool.not_false, Bool.not_not, Int.not_lt, Int.not_le, Nat.not_lt, Nat.not_le, gt_iff_lt, ge_iff_le, List.cons.injEq, and_true] at hg); first | (exact absurd trivial hg) | (exfalso; omega) | (have hT : True := hg; clear hT hg) | skip)))
    )
  refine aw_nilvec 13 43 2 rfl rfl ?_
  refine aw_loopG (G := Nat) (fun (j : Nat) => j ≤ l.length) (fun (j : Nat) => l.length - j) (fun (j : Nat) => [(3, .ptr 0 0), (4, .ptr 1 0), (13, .vec 3 j), (35, .c (Cu.LP l)), (36, A l.length), (37, A j)]) (fun (j : Nat) => [(0, some (.cells 41 (planA p))), (1, some (.cells 43 [.c (LL s.1), .c (LD s.2)])), (3, some (.vec 43 2 (((l.take j).map (logOf p s)).flatMap stC)))]) 4 0 ?_ (by refine weak_mk rfl ?_ ?_ <;> repeat (first | exact envW_nil | exact heapW_nil | refine envW_cons rfl rfl ?_ | refine heapW_cons rfl rfl rfl ?_)) rfl ?_
  · exact Nat.zero_le _
  rintro j hI
  try dsimp only at hI
  try dsimp only
  have hml : ((l.take j).map (logOf p s)).length = j := by simp; omega
  by_cases hjl : j < l.length
  · obtain ⟨i1, i2, i3, i4, i5⟩ := hin j hjl
    have i6 := hone _ i2
    have cp := part_con (gl := gl) p s l[j].2 p.lens[l[j].1.toNat] (by omega) (by omega) hu hl ok.dfs
    have hst : (l.take (j + 1)).map (logOf p s) = (l.take j).map (logOf p s) ++ [partS s (l[j].2 * p.unit, (l[j].2 + p.lens[l[j].1.toNat]) * p.unit)] := by
      rw [List.take_succ_eq_append_getElem hjl, List.map_append, List.map_singleton]
      unfold logOf; rw [i3]
    generalize partS s (l[j].2 * p.unit, (l[j].2 + p.lens[l[j].1.toNat]) * p.unit) = g at cp hst
    repeat' (first
      | (refine aw_drawt 13 ?_ ?_; (kernel_rfl); (simp only [List.take_succ_cons, List.take_zero, List.drop_succ_cons, List.drop_zero]))
      | ((with_reducible apply r_call); exact rfl; exact rfl; exact cp; exact rfl; exact rfl)
      | ((with_reducible apply r_litq); exact rfl; exact rfl; exact rfl; exact rfl; exact rfl; exact rfl; exact rfl)
      | ((with_reducible apply (r_appendl (enc := stC) (l2 := [g]))); exact rfl; exact rfl; exact inferInstance; exact hml; exact rfl; exact (by show j + 1 < _; omega); exact (by show (j + 1) * _ ≤ _; omega); exact rfl)
      | ((with_reducible apply aw_seq))
      | ((with_reducible apply aw_region))
      | ((with_reducible apply aw_block))
      | ((with_reducible apply thn_normal))
      | ((with_reducible apply inb_normal))
      | ((with_reducible apply aw_skip))
      | ((with_reducible apply ao_nil))
      | ((with_reducible apply r_move); exact rfl; exact rfl)
      | ((with_reducible apply r_assign); exact rfl; exact rfl)
      | ((with_reducible apply r_field_p); exact rfl; exact rfl)
      | ((with_reducible apply r_load_p); exact rfl; exact rfl; exact rfl; exact rfl)
      | ((with_reducible apply r_load_pa); exact rfl; exact rfl; exact rfl; exact rfl; exact rfl)
      | ((with_reducible apply r_lss); exact rfl; exact rfl; exact rfl)
      | ((with_reducible apply r_add); exact rfl; exact rfl; exact (by first | assumption | (unfold fits; omega)); exact rfl)
      | ((with_reducible apply r_index_f); exact rfl; exact inferInstance; exact rfl; exact rfl; (first | assumption | omega); exact rfl)
      | ((with_reducible apply r_index_f); exact rfl; exact inferInstance; exact rfl; exact (Int.toNat_of_nonneg (by omega)).symm; (first | assumption | omega); exact rfl)
      | ((with_reducible apply r_load_f0); exact rfl; exact inferInstance; exact List.getElem?_eq_getElem (by first | assumption | omega); exact rfl; exact rfl)
      | ((with_reducible apply r_load_fa0); exact rfl; exact inferInstance; exact List.getElem?_eq_getElem (by first | assumption | omega); exact rfl; exact rfl; exact rfl)
      | ((with_reducible apply r_store_pa); exact rfl; exact rfl; exact rfl; exact rfl; exact rfl; exact rfl)
      | ((with_reducible apply r_alloc); exact rfl)
      | (((with_reducible apply aw_cond); exact rfl) <;> intro hg <;> (first | (exact absurd hg (by decide)) | ((try simp only [decide_eq_true_eq, decide_eq_false_iff_not, Bool.not_eq_true', Bool.not_eq_false', Bool.not_true, Bool.not_false, Bool.not_not, Int.not_lt, Int.not_le, Nat.not_lt, Nat.not_le, gt_iff_lt, ge_iff_le, List.cons.injEq, and_true] at hg); first | (exact absurd trivial hg) | (exfalso; omega) | (have hT : True := hg; clear hT hg) | skip)))
      | ((with_reducible apply ds_nil))
      )
    rw [← hst]
    refine ⟨j + 1, ?_, ?_, by refine weak_mk rfl ?_ ?_ <;> repeat (first | exact envW_nil | exact heapW_nil | refine envW_cons rfl rfl ?_ | refine heapW_cons rfl rfl rfl ?_)⟩
    · show _ - (j + 1) < _ - j; omega
    · show j + 1 ≤ _; omega
  · obtain rfl : j = l.length := by omega
    rw [List.take_length] at hml ⊢
    repeat' (first
      | ((with_reducible apply aw_seq))
      | ((with_reducible apply aw_region))
      | ((with_reducible apply thn_normal))
      | ((with_reducible apply thn_exit))
      | ((with_reducible apply inb_exit))
      | ((with_reducible apply aw_exit))
      | ((with_reducible apply aw_ret))
      | ((with_reducible apply ao_nil))
      | ((with_reducible apply r_move); exact rfl; exact rfl)
      | ((with_reducible apply r_assign); exact rfl; exact rfl)
      | ((with_reducible apply r_lss); exact rfl; exact rfl; exact rfl)
      | (((with_reducible apply aw_cond); exact rfl) <;> intro hg <;> (first | (exact absurd hg (by decide)) | ((try simp only [decide_eq_true_eq, decide_eq_false_iff_not, Bool.not_eq_true', Bool.not_eq_false', Bool.not_true, Bool.not_false, Bool.not_not, Int.not_lt, Int.not_le, Nat.not_lt, Nat.not_le, gt_iff_lt, ge_iff_le, List.cons.injEq, and_true] at hg); first | (exact absurd trivial hg) | (exfalso; omega) | (have hT : True := hg; clear hT hg) | skip)))
      )
    exact ret2 (.cons (.tmp rfl (cl_vec rfl (by rw [flat_len EncL.len, hml]))) (.cons (.tmp rfl cl_c) .nil))
/-- The sum of the prices of logs. -/
noncomputable def sumP (K : List Kl) (l : List Lg) : Int := (l.map (fun x => priceS K x.1 x.2)).sum
theorem sumP_succ (K : List Kl) (l : List Lg) (j : Nat) (h : j < l.length) : sumP K (l.take (j + 1)) = sumP K (l.take j) + priceS K l[j].1 l[j].2 := by
  unfold sumP
  rw [List.take_succ_eq_append_getElem h, List.map_append, List.sum_append]; simp
theorem sumP_bd (K : List Kl) (l : List Lg) : ∀ j, 0 ≤ sumP K (l.take j) ∧ sumP K (l.take j) ≤ 700000000 * (j : Int)
  | 0 => by simp [sumP]
  | j + 1 => by
    have ih := sumP_bd K l j
    by_cases h : j < l.length
    · rw [sumP_succ K l j h]
      have := priceS_bd K l[j].1 l[j].2
      omega
    · rw [List.take_of_length_le (by omega)] at ih ⊢
      omega
set_option maxRecDepth 100000 in
set_option maxHeartbeats 8000000 in
theorem bsum_con (K : List Kl) (l : List Lg) (hK : K.length ≤ maxLen) (hn : l.length ≤ 100000) (hone : ∀ x ∈ l, x.1.length ≤ maxLen ∧ x.2.length ≤ maxLen) : Con Tryd.prog gl 15 [LK K, LStem l] (I (sumP K l)) := by
  refine con_of Tryd.func15 rfl (by kernel_rfl) rfl ?_
  simp only [Tryd.ntmps15, Tryd.results15, argEnv, ofC, of1, List.map]
  repeat' (first
    | ((with_reducible apply aw_seq))
    | ((with_reducible apply aw_region))
    | ((with_reducible apply aw_block))
    | ((with_reducible apply thn_normal))
    | ((with_reducible apply ao_nil))
    | ((with_reducible apply r_assign); exact rfl; exact rfl)
    )
  refine aw_loopG (G := Nat × Int) (fun ((j, t) : Nat × Int) => j ≤ l.length ∧ t = sumP K (l.take j)) (fun ((j, t) : Nat × Int) => l.length - j) (fun ((j, t) : Nat × Int) => [(0, .c (LK K)), (1, .c (LStem l)), (5, A t), (6, A j)]) (fun ((j, t) : Nat × Int) => []) 0 (0, 0) ?_ (by refine weak_mk rfl ?_ ?_ <;> repeat (first | exact envW_nil | exact heapW_nil | refine envW_cons rfl rfl ?_ | refine heapW_cons rfl rfl rfl ?_)) rfl ?_
  · exact ⟨Nat.zero_le _, rfl⟩
  rintro ⟨j, t⟩ hI
  try dsimp only at hI
  try dsimp only
  obtain ⟨hj, ht⟩ := hI
  have hb := sumP_bd K l j
  by_cases hjl : j < l.length
  · obtain ⟨g1, g2⟩ := hone _ (List.getElem_mem hjl)
    have c1 := price_con (gl := gl) K l[j].1 l[j].2 hK g1 g2
    have hs := sumP_succ K l j hjl
    have hpb := priceS_bd K l[j].1 l[j].2
    generalize priceS K l[j].1 l[j].2 = g at c1 hs hpb
    repeat' (first
      | ((with_reducible apply r_call); exact rfl; exact rfl; exact c1; exact rfl; exact rfl)
      | ((with_reducible apply aw_seq))
      | ((with_reducible apply aw_region))
      | ((with_reducible apply aw_block))
      | ((with_reducible apply thn_normal))
      | ((with_reducible apply inb_normal))
      | ((with_reducible apply aw_skip))
      | ((with_reducible apply ao_nil))
      | ((with_reducible apply r_move); exact rfl; exact rfl)
      | ((with_reducible apply r_assign); exact rfl; exact rfl)
      | ((with_reducible apply r_lss); exact rfl; exact rfl; exact rfl)
      | ((with_reducible apply r_add); exact rfl; exact rfl; exact (by first | assumption | (unfold fits; omega)); exact rfl)
      | ((with_reducible apply r_len_f); exact rfl; exact inferInstance; exact rfl)
      | ((with_reducible apply r_index_f); exact rfl; exact inferInstance; exact rfl; exact rfl; (first | assumption | omega); exact rfl)
      | ((with_reducible apply r_load_f0); exact rfl; exact inferInstance; exact List.getElem?_eq_getElem (by first | assumption | omega); exact rfl; exact rfl)
      | ((with_reducible apply r_load_f); exact rfl; exact inferInstance; exact List.getElem?_eq_getElem (by first | assumption | omega); exact rfl; exact rfl; exact rfl)
      | ((with_reducible apply r_field_e); exact rfl; exact rfl)
      | (((with_reducible apply aw_cond); exact rfl) <;> intro hg <;> (first | (exact absurd hg (by decide)) | ((try simp only [decide_eq_true_eq, decide_eq_false_iff_not, Bool.not_eq_true', Bool.not_eq_false', Bool.not_true, Bool.not_false, Bool.not_not, Int.not_lt, Int.not_le, Nat.not_lt, Nat.not_le, gt_iff_lt, ge_iff_le, List.cons.injEq, and_true] at hg); first | (exact absurd trivial hg) | (exfalso; omega) | (have hT : True := hg; clear hT hg) | skip)))
      | (refine aw_drawq ?_ ?_; (kernel_rfl))
      | ((with_reducible apply ds_nil))
      )
    refine ⟨(j + 1, t + g), ?_, ?_, by refine weak_mk rfl ?_ ?_ <;> repeat (first | exact envW_nil | exact heapW_nil | refine envW_cons rfl rfl ?_ | refine heapW_cons rfl rfl rfl ?_)⟩
    · show _ - (j + 1) < _ - j; omega
    · exact ⟨by show j + 1 ≤ _; omega, by show t + g = sumP K (l.take (j + 1)); omega⟩
  · obtain rfl : j = l.length := by omega
    rw [List.take_length] at ht
    repeat' (first
      | ((with_reducible apply aw_seq))
      | ((with_reducible apply aw_region))
      | ((with_reducible apply thn_normal))
      | ((with_reducible apply thn_exit))
      | ((with_reducible apply inb_exit))
      | ((with_reducible apply aw_exit))
      | ((with_reducible apply aw_ret))
      | ((with_reducible apply ao_nil))
      | ((with_reducible apply r_move); exact rfl; exact rfl)
      | ((with_reducible apply r_assign); exact rfl; exact rfl)
      | ((with_reducible apply r_lss); exact rfl; exact rfl; exact rfl)
      | ((with_reducible apply r_len_f); exact rfl; exact inferInstance; exact rfl)
      | (((with_reducible apply aw_cond); exact rfl) <;> intro hg <;> (first | (exact absurd hg (by decide)) | ((try simp only [decide_eq_true_eq, decide_eq_false_iff_not, Bool.not_eq_true', Bool.not_eq_false', Bool.not_true, Bool.not_false, Bool.not_not, Int.not_lt, Int.not_le, Nat.not_lt, Nat.not_le, gt_iff_lt, ge_iff_le, List.cons.injEq, and_true] at hg); first | (exact absurd trivial hg) | (exfalso; omega) | (have hT : True := hg; clear hT hg) | skip)))
      )
    exact ret_i rfl ht
theorem logs_one {p : Plan} {s : Lg} {l : List Cu.Piece} {u : Int} (ok : LnOk p s u) : ∀ x ∈ l.map (logOf p s), x.1.length ≤ maxLen ∧ x.2.length ≤ maxLen := by
  intro x hx
  obtain ⟨y, _, rfl⟩ := List.mem_map.1 hx
  exact part_len s _ ok.dfs
end Go.Proofs.YtkhljpbkebnnmaaDoor.Bu
/- Bucking: the examples, reckoned. -/
namespace Go.Proofs.YtkhljpbkebnnmaaDoor.Bu
set_option linter.unusedVariables false
set_option linter.unusedSimpArgs false
open Go.RowKit Go.Proofs.YtkhljpbkebnnmaaDoor.Ev Go.Proofs.YtkhljpbkebnnmaaDoor.Ge

/-- A straight log of a length. -/
def LM (m : Int) : List Slc := [⟨m, Sq⟩]
theorem LM_chk {m : Int} (h : 1 ≤ m ∧ m ≤ 20000) : solChk (LM m) = 0 := by
  unfold solChk
  rw [if_neg (by show ¬ (1 = 0); decide), if_neg (by show ¬ 24 < 1; decide)]
  unfold LM solGo
  rw [if_neg (fun h => h Sq_chk), if_neg (by show ¬ (20 = 0); decide), if_neg (by show ¬ (m < 1 ∨ 20000 - 0 < m); omega)]
  rfl
theorem LM_top {m : Int} (h : 1 ≤ m ∧ m ≤ 20000) : topS (LM m) = 225 := by unfold topS; rw [if_pos (LM_chk h)]; exact Sq_dia
theorem LM_len {m : Int} (h : 1 ≤ m ∧ m ≤ 20000) : lengthS (LM m) = m := by
  unfold lengthS; rw [valL_ok (LM_chk h)]
  show 0 + m = m; omega
theorem LM_vol {m : Int} (h : 1 ≤ m ∧ m ≤ 20000) : volS (LM m) = m * 40000 := by
  unfold volS; rw [valL_ok (LM_chk h)]
  show 0 + m * areaV Sq = m * 40000
  rw [← areaS_ok Sq_chk, Sq_area]; omega
theorem LM_sweep (m : Int) : sweepS (LM m) = 0 := if_neg (fun h => absurd h.2 (by show ¬ 3 ≤ 1; decide))
theorem LM_taper {m : Int} (h : 1 ≤ m ∧ m ≤ 20000) : taperS (LM m) = 0 := by
  unfold taperS
  rw [if_pos (LM_chk h)]
  show max 0 (diaS Sq - diaS Sq) * 10000 / _ = 0
  rw [Int.sub_self]; simp
theorem LM_meas {m : Int} (h : 1 ≤ m ∧ m ≤ 20000) : measL (LM m) [] = ⟨225, m, 0, 0, 0, 0⟩ := by
  unfold measL
  rw [LM_top h, LM_len h, LM_sweep, LM_taper h]; rfl
def kX : Kl := ⟨nmA, 200, 2000, 6000, 100, 100, 100, 100, 1000⟩
theorem chk_X : klChk [kX] = 0 := by
  unfold klChk
  rw [if_neg (by decide)]
  unfold klGo
  rw [if_neg (by show ¬ nameS nmA = false; rw [nm_a]; decide), if_neg (by decide), if_neg (by decide)]
  rfl
theorem price_X {m : Int} (h : 2000 ≤ m ∧ m ≤ 6000) : priceS [kX] (LM m) [] = 1000 * (m * 40000) / 1000000000 := by
  have h' : 1 ≤ m ∧ m ≤ 20000 := by omega
  have ho : ofS [kX] (LM m) [] = (((0 : Nat) : Int), true) := of_some (i := 0) chk_X (by decide) (by
    show fitS (LM m) [] kX = true
    rw [fit_ok ⟨LM_chk h', rfl⟩, LM_meas h']
    unfold fitM
    exact decide_eq_true ⟨by show (200 : Int) ≤ 225; decide, by show 2000 ≤ m; omega, by show m ≤ 6000; omega, by show (0 : Int) ≤ 100; decide, by show (0 : Int) ≤ 100; decide, by show (0 : Int) ≤ 100; decide, by show (0 : Int) ≤ 100; decide⟩) (fun j hj hji => absurd hji (Nat.not_lt_zero _))
  rw [priceS_some (i := 0) (by decide) ho, LM_vol h']
  rfl
def sX : Lg := (LM 5000, [])
def pX (k : Int) : Plan := ⟨[kX], [20, 30], 100, k⟩
theorem part_X {q n : Int} (hq : 0 ≤ q) (hn : 1 ≤ n) (hqn : q + n ≤ 50) : partS sX (q * 100, (q + n) * 100) = (LM (n * 100), []) := by
  unfold partS sX
  have : cutS (LM 5000) (q * 100, (q + n) * 100) = LM (n * 100) := by
    unfold cutS
    rw [valL_ok (LM_chk (by decide))]
    have ho : ovZ (LM 5000) (q * 100, (q + n) * 100) 0 = n * 100 := by
      show max 0 (min (0 + 5000) ((q + n) * 100) - max 0 (q * 100)) = n * 100
      omega
    show (if 0 < ovZ (LM 5000) (q * 100, (q + n) * 100) 0 then ([] : List Slc) ++ [(⟨ovZ (LM 5000) (q * 100, (q + n) * 100) 0, secD (LM 5000) 0⟩ : Slc)] else []) = _
    rw [ho, if_pos (by omega)]; rfl
  rw [this]; rfl
theorem gain_X (k : Int) {q n : Int} (hq : 0 ≤ q) (hn : 20 ≤ n ∧ n ≤ 30) (hqn : q + n ≤ 50) : gainS (pX k) sX q n = 1000 * (n * 100 * 40000) / 1000000000 := by
  have e : ∀ Z : Span, Z = (q * 100, (q + n) * 100) → priceS [kX] (partS sX Z).1 (partS sX Z).2 = 1000 * (n * 100 * 40000) / 1000000000 := by
    intro Z hZ
    subst hZ
    rw [part_X hq (by omega) hqn]
    exact price_X (m := n * 100) (by omega)
  exact e _ rfl
def XL (k : Int) : Cu.Line := ⟨50, k, 1, [20, 30], [List.replicate 31 80, List.replicate 21 120], List.replicate 50 0, List.replicate 50 0⟩
theorem rows_X (k : Int) {n g : Int} {c : Nat} (hn : 20 ≤ n ∧ n ≤ 30) (hc : (c : Int) = 51 - n) (hg : 1000 * (n * 100 * 40000) / 1000000000 = g) : rowL (pX k) sX 50 n = List.replicate c g := by
  refine List.eq_replicate_iff.2 ⟨by rw [rowL_len]; omega, fun x hx => ?_⟩
  obtain ⟨i, hi, rfl⟩ := List.mem_iff_getElem.1 hx
  rw [rowL_get]
  rw [rowL_len] at hi
  rw [gain_X k (by omega) hn (by omega)]; exact hg
theorem line_X (k : Int) : lineOf (pX k) sX 50 = XL k := by
  unfold lineOf XL
  show (⟨50, k, 1, [20, 30], [rowL (pX k) sX 50 20, rowL (pX k) sX 50 30], _, _⟩ : Cu.Line) = _
  rw [rows_X k (n := 20) (g := 80) (c := 31) (by decide) (by decide) (by decide), rows_X k (n := 30) (g := 120) (c := 21) (by decide) (by decide) (by decide)]; rfl
theorem chk_pX {k : Int} (hk : 0 ≤ k ∧ k ≤ 20) : planChk (pX k) = 0 := (pc_ok (p := pX k) chk_X (by show ¬ (2 = 0); decide) (by show ¬ 32 < 2; decide) (fun i hi => by
  have hi : i < 2 := hi
  match i, hi with
  | 0, _ => rfl
  | 1, _ => rfl) (by unfold unitBad pX; dsimp only; omega)).symm
theorem lineS_X {k : Int} (hk : 0 ≤ k ∧ k ≤ 20) : lineS (pX k) sX = (XL k, 0) := by
  have h1 : lengthS sX.1 / (pX k).unit = 50 := by
    show lengthS (LM 5000) / 100 = 50
    rw [LM_len (by decide)]; rfl
  have := ls_ok (p := pX k) (s := sX) (chk_pX hk) (LM_chk (by decide)) rfl (by rw [h1]; decide)
  rw [h1, line_X] at this
  exact this
theorem chk_XL {k : Int} (hk : 0 ≤ k ∧ k ≤ 20) : Cu.chk (XL k) = 0 := by
  rw [← line_X k]
  exact line_chk (plan_ok (chk_pX hk)) sX (by decide)
def V0 (e : Int) : Int := if e ≤ 0 then 200 else if e ≤ 10 then 160 else if e ≤ 20 then 120 else if e ≤ 30 then 80 else 0
def U0 (e : Int) : Cu.Ch := if e ≤ 10 then (0, e, V0 e) else if e ≤ 20 then (1, e, V0 e) else if e ≤ 30 then (0, e, V0 e) else (-1, -1, 0)
def V1 (e : Int) : Int := if e ≤ 9 then 160 else if e ≤ 20 then 120 else if e ≤ 30 then 80 else 0
def U1 (e : Int) : Cu.Ch := if e ≤ 9 then (0, e, V1 e) else if e ≤ 20 then (1, e, V1 e) else if e ≤ 30 then (0, e, V1 e) else (-1, -1, 0)
theorem tabX0 : ∀ k : Nat, k ≤ 50 → Cu.chooseS (XL 0) V0 k = U0 k ∧ (U0 k).2.2 = V0 k := by decide +kernel
theorem tabX1 : ∀ k : Nat, k ≤ 50 → Cu.chooseS (XL 1) V1 k = U1 k ∧ (U1 k).2.2 = V1 k := by decide +kernel
theorem TTX0 (k : Nat) (hk : k ≤ 50) : Cu.TT (XL 0) k = U0 k := Cu.TT_table (Cu.valid_of (chk_XL (by decide))) V0 U0 tabX0 (50 - k) k (by show 50 - k + k = 50; omega)
theorem TTX1 (k : Nat) (hk : k ≤ 50) : Cu.TT (XL 1) k = U1 k := Cu.TT_table (Cu.valid_of (chk_XL (by decide))) V1 U1 tabX1 (50 - k) k (by show 50 - k + k = 50; omega)
theorem best_X0 : Cu.bestS (XL 0) = ([(0, 0), (1, 20)], 200, 0) := by
  rw [Cu.best_ok (chk_XL (by decide))]
  have t0 : Cu.TT (XL 0) 0 = (0, 0, 200) := TTX0 0 (by decide)
  have t1 : Cu.TT (XL 0) 20 = (1, 20, 120) := TTX0 20 (by decide)
  have hv : Cu.TV (XL 0) 0 = 200 := by unfold Cu.TV; rw [t0]
  rw [hv]
  show (Cu.chainS (XL 0) (49 + 1 + 1 + 1) 0, _, _) = _
  rw [Cu.chain_go (by decide) (by rw [t0]; decide), t0]
  dsimp only
  rw [show Cu.behindS (XL 0) (0 + Cu.szOf (XL 0) 0) = 20 from by decide, Cu.chain_go (by decide) (by rw [t1]; decide), t1]
  dsimp only
  rw [show Cu.behindS (XL 0) (20 + Cu.szOf (XL 0) 1) = -1 from by decide, Cu.chain_stop (.inl (by decide))]
theorem best_X1 : Cu.bestS (XL 1) = ([(0, 0), (0, 21)], 160, 0) := by
  rw [Cu.best_ok (chk_XL (by decide))]
  have t0 : Cu.TT (XL 1) 0 = (0, 0, 160) := TTX1 0 (by decide)
  have t1 : Cu.TT (XL 1) 21 = (0, 21, 80) := TTX1 21 (by decide)
  have t2 : Cu.TT (XL 1) 42 = (-1, -1, 0) := TTX1 42 (by decide)
  have hv : Cu.TV (XL 1) 0 = 160 := by unfold Cu.TV; rw [t0]
  rw [hv]
  show (Cu.chainS (XL 1) (49 + 1 + 1 + 1) 0, _, _) = _
  rw [Cu.chain_go (by decide) (by rw [t0]; decide), t0]
  dsimp only
  rw [show Cu.behindS (XL 1) (0 + Cu.szOf (XL 1) 0) = 21 from by decide, Cu.chain_go (by decide) (by rw [t1]; decide), t1]
  dsimp only
  rw [show Cu.behindS (XL 1) (21 + Cu.szOf (XL 1) 0) = 42 from by decide, Cu.chain_stop (.inr (by rw [t2]; decide))]
theorem cuts_X0 : Cu.cutsS (XL 0) [(0, 0), (1, 20)] = (0, [], []) := by
  unfold Cu.cutsS; rw [if_neg (fun hh => hh (chk_XL (by decide)))]; decide +kernel
theorem bb_X0 : bbS (pX 0) sX = ([(0, 0), (1, 20)], 200, 0) := by unfold bbS; rw [lineS_X (by decide), if_neg (fun hh => hh rfl)]; exact best_X0
theorem bb_X1 : bbS (pX 1) sX = ([(0, 0), (0, 21)], 160, 0) := by unfold bbS; rw [lineS_X (by decide), if_neg (fun hh => hh rfl)]; exact best_X1
theorem logs_X0 : logsS (pX 0) sX [(0, 0), (1, 20)] = ([(LM 2000, []), (LM 3000, [])], 0) := by
  unfold logsS
  rw [lineS_X (by decide), if_neg (fun hh => hh rfl), cuts_X0, if_neg (fun hh => hh rfl)]
  show ([partS sX (0 * 100, (0 + 20) * 100), partS sX (20 * 100, (20 + 30) * 100)], (0 : Int)) = _
  rw [part_X (by decide) (by decide) (by decide), part_X (by decide) (by decide) (by decide)]; rfl
theorem plan0 : planChk ⟨[], [], 0, 0⟩ = 3 := (pc_none (p := ⟨[], [], 0, 0⟩) rfl rfl).symm
end Go.Proofs.YtkhljpbkebnnmaaDoor.Bu
/- Walks of the laws on bucking: plan, stem, light, awake. -/
namespace Go.Proofs.YtkhljpbkebnnmaaDoor.Bu
set_option linter.unusedVariables false
set_option linter.unusedSimpArgs false
open Go.RowKit Go.Proofs.YtkhljpbkebnnmaaDoor.Ev Go.Proofs.YtkhljpbkebnnmaaDoor.Ge
variable {gl : List (Nat × List CV)}

/-- A region whose operations are written as two lists. -/
theorem ao_app {P : Program} {ops : Array Oper} {Q : Exit → St → Prop} {st : St} {o : Oper} {l1 l2 : List Oper} (h : AOps P ops Q (o :: (List.append l1 l2)) st) : AOps P ops Q (List.append (o :: l1) l2) st := h
theorem ao_app0 {P : Program} {ops : Array Oper} {Q : Exit → St → Prop} {st : St} {l2 : List Oper} (h : AOps P ops Q l2 st) : AOps P ops Q (List.append [] l2) st := h
theorem plan_con (p : Plan) : Con Tryd.prog gl 8 [planV p] (planV p) := by
  refine con_of Tryd.func8 rfl (by kernel_rfl) rfl ?_
  simp only [Tryd.ntmps8, Tryd.results8, argEnv, ofC, of1, List.map]
  repeat' (first
    | ((with_reducible apply aw_seq))
    | ((with_reducible apply aw_region))
    | ((with_reducible apply thn_normal))
    | ((with_reducible apply aw_ret))
    | ((with_reducible apply ao_nil))
    | ((with_reducible apply r_field_p); exact rfl; exact rfl)
    | ((with_reducible apply r_load_p); exact rfl; exact rfl; exact rfl; exact rfl)
    | ((with_reducible apply r_box_a); exact rfl; exact rfl)
    | ((with_reducible apply r_store_pa); exact rfl; exact rfl; exact rfl; exact rfl; exact rfl; exact rfl)
    | ((with_reducible apply r_build); exact rfl; exact rfl; exact rfl)
    | ((with_reducible apply r_alloc); exact rfl)
    )
  exact ret1 (.cell_a inferInstance rfl rfl rfl rfl (cl_cons cl_c (cl_cons cl_c (cl_cons cl_c (cl_cons cl_c cl_nil)))))
theorem stem_con (s : Lg) : Con Tryd.prog gl 9 [lgV s] (lgV s) := by
  refine con_of Tryd.func9 rfl (by kernel_rfl) rfl ?_
  simp only [Tryd.ntmps9, Tryd.results9, argEnv, ofC, of1, List.map]
  repeat' (first
    | ((with_reducible apply aw_seq))
    | ((with_reducible apply aw_region))
    | ((with_reducible apply thn_normal))
    | ((with_reducible apply aw_ret))
    | ((with_reducible apply ao_nil))
    | ((with_reducible apply r_field_p); exact rfl; exact rfl)
    | ((with_reducible apply r_load_p); exact rfl; exact rfl; exact rfl; exact rfl)
    | ((with_reducible apply r_box_a); exact rfl; exact rfl)
    | ((with_reducible apply r_store_pa); exact rfl; exact rfl; exact rfl; exact rfl; exact rfl; exact rfl)
    | ((with_reducible apply r_build); exact rfl; exact rfl; exact rfl)
    | ((with_reducible apply r_alloc); exact rfl)
    )
  exact ret1 (.cell_a inferInstance rfl rfl rfl rfl (cl_cons cl_c (cl_cons cl_c cl_nil)))
abbrev caseV (p : Plan) (s : Lg) : CV := .agg [LK p.classes, LI p.lens, I p.unit, I p.kerf, LL s.1, LD s.2]
abbrev caseA (p : Plan) (s : Lg) : List AV := [.c (LK p.classes), .c (LI p.lens), A p.unit, A p.kerf, .c (LL s.1), .c (LD s.2)]
def big (p : Plan) (s : Lg) : Prop := 20 < p.classes.length ∨ (8 < p.lens.length ∧ p.lens.length ≤ 32) ∨ 40 < p.lens.length ∨ 8 < s.1.length ∨ 70 < s.2.length
set_option maxRecDepth 100000 in
set_option maxHeartbeats 16000000 in
theorem light_con (p : Plan) (s : Lg) (hK : p.classes.length ≤ maxLen) (hl : s.1.length ≤ maxLen) : ∃ b, Con Tryd.prog gl 5 [caseV p s] (.v (.bool b)) := by
  have c0 := rpcheck_con (gl := gl) p hK
  have c1 := rscheck_con (gl := gl) s.1 hl
  have c2 := rslength_con (gl := gl) s.1 hl
  by_cases hb : big p s
  · refine ⟨false, ?_⟩
    unfold big at hb
    refine con_of Tryd.func5 rfl (by kernel_rfl) rfl ?_
    simp only [Tryd.ntmps5, Tryd.results5, argEnv, ofC, of1, List.map]
    rcases (show 20 < p.classes.length ∨ (¬ 20 < p.classes.length ∧ 8 < p.lens.length ∧ p.lens.length ≤ 32) ∨ (¬ 20 < p.classes.length ∧ ¬ (8 < p.lens.length ∧ p.lens.length ≤ 32) ∧ 40 < p.lens.length) ∨ (¬ 20 < p.classes.length ∧ ¬ (8 < p.lens.length ∧ p.lens.length ≤ 32) ∧ ¬ 40 < p.lens.length ∧ 8 < s.1.length) ∨ (¬ 20 < p.classes.length ∧ ¬ (8 < p.lens.length ∧ p.lens.length ≤ 32) ∧ ¬ 40 < p.lens.length ∧ ¬ 8 < s.1.length ∧ 70 < s.2.length) by omega) with h | ⟨h1, h2, h3⟩ | ⟨h1, h2, h3⟩ | ⟨h1, h2, h3, h4⟩ | ⟨h1, h2, h3, h4, h5⟩
    all_goals
      repeat' (first
        | ((with_reducible apply aw_seq))
        | ((with_reducible apply aw_region))
        | ((with_reducible apply thn_normal))
        | ((with_reducible apply thn_ret))
        | ((with_reducible apply aw_ret))
        | ((with_reducible apply ao_nil))
        | ((with_reducible apply r_move); exact rfl; exact rfl)
        | ((with_reducible apply r_assign); exact rfl; exact rfl)
        | ((with_reducible apply r_field_p); exact rfl; exact rfl)
        | ((with_reducible apply r_load_p); exact rfl; exact rfl; exact rfl; exact rfl)
        | ((with_reducible apply r_leq); exact rfl; exact rfl; exact rfl)
        | ((with_reducible apply r_gtr); exact rfl; exact rfl; exact rfl)
        | ((with_reducible apply r_box_a); exact rfl; exact rfl)
        | ((with_reducible apply r_pick_t); exact rfl; exact rfl; exact rfl)
        | ((with_reducible apply r_pick_f); exact rfl; exact rfl; exact rfl)
        | ((with_reducible apply r_len_f); exact rfl; exact inferInstance; exact rfl)
        | (((with_reducible apply r_guard); exact rfl; exact rfl; exact rfl; exact rfl) <;> intro hg <;> (first | (exact absurd hg (by decide)) | ((try simp only [decide_eq_true_eq, decide_eq_false_iff_not, Bool.not_eq_true', Bool.not_eq_false', Bool.not_true, Bool.not_false, Bool.not_not, Int.not_lt, Int.not_le, Nat.not_lt, Nat.not_le, gt_iff_lt, ge_iff_le, List.cons.injEq, and_true] at hg); first | (exact absurd trivial hg) | (exfalso; omega) | (have hT : True := hg; clear hT hg) | skip)))
        | ((with_reducible apply r_guard_none); exact rfl; exact rfl; exact rfl; exact rfl)
        | (((with_reducible apply aw_cond); exact rfl) <;> intro hg <;> (first | (exact absurd hg (by decide)) | ((try simp only [decide_eq_true_eq, decide_eq_false_iff_not, Bool.not_eq_true', Bool.not_eq_false', Bool.not_true, Bool.not_false, Bool.not_not, Int.not_lt, Int.not_le, Nat.not_lt, Nat.not_le, gt_iff_lt, ge_iff_le, List.cons.injEq, and_true] at hg); first | (exact absurd trivial hg) | (exfalso; omega) | (have hT : True := hg; clear hT hg) | skip)))
        )
      all_goals exact ret_b rfl rfl
  unfold big at hb
  by_cases h0 : planChk p = 0
  rotate_left
  · refine ⟨true, ?_⟩
    refine con_of Tryd.func5 rfl (by kernel_rfl) rfl ?_
    simp only [Tryd.ntmps5, Tryd.results5, argEnv, ofC, of1, List.map]
    repeat' (first
      | ((with_reducible apply r_call); exact rfl; exact rfl; exact c0; exact rfl; exact rfl)
      | ((with_reducible apply aw_seq))
      | ((with_reducible apply aw_region))
      | ((with_reducible apply thn_normal))
      | ((with_reducible apply aw_skip))
      | ((with_reducible apply aw_ret))
      | ((with_reducible apply ao_nil))
      | ((with_reducible apply r_move); exact rfl; exact rfl)
      | ((with_reducible apply r_assign); exact rfl; exact rfl)
      | ((with_reducible apply r_field_p); exact rfl; exact rfl)
      | ((with_reducible apply r_load_p); exact rfl; exact rfl; exact rfl; exact rfl)
      | ((with_reducible apply r_load_pa); exact rfl; exact rfl; exact rfl; exact rfl; exact rfl)
      | ((with_reducible apply r_leq); exact rfl; exact rfl; exact rfl)
      | ((with_reducible apply r_gtr); exact rfl; exact rfl; exact rfl)
      | ((with_reducible apply r_neq); exact rfl; exact rfl; exact rfl)
      | ((with_reducible apply r_box_a); exact rfl; exact rfl)
      | ((with_reducible apply r_pick_t); exact rfl; exact rfl; exact rfl)
      | ((with_reducible apply r_pick_f); exact rfl; exact rfl; exact rfl)
      | ((with_reducible apply r_len_f); exact rfl; exact inferInstance; exact rfl)
      | (((with_reducible apply r_guard); exact rfl; exact rfl; exact rfl; exact rfl) <;> intro hg <;> (first | (exact absurd hg (by decide)) | ((try simp only [decide_eq_true_eq, decide_eq_false_iff_not, Bool.not_eq_true', Bool.not_eq_false', Bool.not_true, Bool.not_false, Bool.not_not, Int.not_lt, Int.not_le, Nat.not_lt, Nat.not_le, gt_iff_lt, ge_iff_le, List.cons.injEq, and_true] at hg); first | (exact absurd trivial hg) | (exfalso; omega) | (have hT : True := hg; clear hT hg) | skip)))
      | (((with_reducible apply aw_cond); exact rfl) <;> intro hg <;> (first | (exact absurd hg (by decide)) | ((try simp only [decide_eq_true_eq, decide_eq_false_iff_not, Bool.not_eq_true', Bool.not_eq_false', Bool.not_true, Bool.not_false, Bool.not_not, Int.not_lt, Int.not_le, Nat.not_lt, Nat.not_le, gt_iff_lt, ge_iff_le, List.cons.injEq, and_true] at hg); first | (exact absurd trivial hg) | (exfalso; omega) | (have hT : True := hg; clear hT hg) | skip)))
      | (refine aw_drawq ?_ ?_; (kernel_rfl))
      | ((with_reducible apply ds_nil))
      | (((with_reducible apply rd_guard); exact rfl; exact rfl; exact rfl) <;> intro hg <;> (first | (exact absurd hg (by decide)) | ((try rw [hg]); (try simp only [decide_eq_true_eq, decide_eq_false_iff_not, Bool.not_eq_true', Bool.not_eq_false', Bool.not_true, Bool.not_false, Bool.not_not, Int.not_lt, Int.not_le, Nat.not_lt, Nat.not_le, gt_iff_lt, ge_iff_le, List.cons.injEq, and_true] at hg); first | (exact absurd trivial hg) | (exfalso; omega) | (have hT : True := hg; clear hT hg) | skip)))
      )
    all_goals exact ret_b rfl rfl
  rw [h0] at c0
  by_cases h1 : solChk s.1 = 0
  rotate_left
  · refine ⟨true, ?_⟩
    refine con_of Tryd.func5 rfl (by kernel_rfl) rfl ?_
    simp only [Tryd.ntmps5, Tryd.results5, argEnv, ofC, of1, List.map]
    repeat' (first
      | ((with_reducible apply r_call); exact rfl; exact rfl; (first | exact c0 | exact c1); exact rfl; exact rfl)
      | ((with_reducible apply aw_seq))
      | ((with_reducible apply aw_region))
      | ((with_reducible apply thn_normal))
      | ((with_reducible apply aw_skip))
      | ((with_reducible apply aw_ret))
      | ((with_reducible apply ao_nil))
      | ((with_reducible apply r_move); exact rfl; exact rfl)
      | ((with_reducible apply r_assign); exact rfl; exact rfl)
      | ((with_reducible apply r_field_p); exact rfl; exact rfl)
      | ((with_reducible apply r_load_p); exact rfl; exact rfl; exact rfl; exact rfl)
      | ((with_reducible apply r_load_pa); exact rfl; exact rfl; exact rfl; exact rfl; exact rfl)
      | ((with_reducible apply r_leq); exact rfl; exact rfl; exact rfl)
      | ((with_reducible apply r_gtr); exact rfl; exact rfl; exact rfl)
      | ((with_reducible apply r_neq); exact rfl; exact rfl; exact rfl)
      | ((with_reducible apply r_box_a); exact rfl; exact rfl)
      | ((with_reducible apply r_pick_t); exact rfl; exact rfl; exact rfl)
      | ((with_reducible apply r_pick_f); exact rfl; exact rfl; exact rfl)
      | ((with_reducible apply r_len_f); exact rfl; exact inferInstance; exact rfl)
      | (((with_reducible apply r_guard); exact rfl; exact rfl; exact rfl; exact rfl) <;> intro hg <;> (first | (exact absurd hg (by decide)) | ((try simp only [decide_eq_true_eq, decide_eq_false_iff_not, Bool.not_eq_true', Bool.not_eq_false', Bool.not_true, Bool.not_false, Bool.not_not, Int.not_lt, Int.not_le, Nat.not_lt, Nat.not_le, gt_iff_lt, ge_iff_le, List.cons.injEq, and_true] at hg); first | (exact absurd trivial hg) | (exfalso; omega) | (have hT : True := hg; clear hT hg) | skip)))
      | (((with_reducible apply aw_cond); exact rfl) <;> intro hg <;> (first | (exact absurd hg (by decide)) | ((try simp only [decide_eq_true_eq, decide_eq_false_iff_not, Bool.not_eq_true', Bool.not_eq_false', Bool.not_true, Bool.not_false, Bool.not_not, Int.not_lt, Int.not_le, Nat.not_lt, Nat.not_le, gt_iff_lt, ge_iff_le, List.cons.injEq, and_true] at hg); first | (exact absurd trivial hg) | (exfalso; omega) | (have hT : True := hg; clear hT hg) | skip)))
      | (refine aw_drawq ?_ ?_; (kernel_rfl))
      | ((with_reducible apply ds_nil))
      | (((with_reducible apply rd_guard); exact rfl; exact rfl; exact rfl) <;> intro hg <;> (first | (exact absurd hg (by decide)) | ((try rw [hg]); (try simp only [decide_eq_true_eq, decide_eq_false_iff_not, Bool.not_eq_true', Bool.not_eq_false', Bool.not_true, Bool.not_false, Bool.not_not, Int.not_lt, Int.not_le, Nat.not_lt, Nat.not_le, gt_iff_lt, ge_iff_le, List.cons.injEq, and_true] at hg); first | (exact absurd trivial hg) | (exfalso; omega) | (have hT : True := hg; clear hT hg) | skip)))
      )
    all_goals exact ret_b rfl rfl
  rw [h1] at c1
  have hu := (plan_ok h0).unit
  have hlb := length_bd s.1
  obtain ⟨L, eL⟩ : ∃ L, L = lengthS s.1 := ⟨_, rfl⟩
  rw [← eL] at c2 hlb
  have hq : L.tdiv p.unit = L / p.unit := Int.tdiv_eq_ediv_of_nonneg hlb.1
  have hq0 : 0 ≤ L / p.unit := Int.ediv_nonneg hlb.1 (by omega)
  have hq1 : L / p.unit ≤ 20000 := Int.le_trans (Int.ediv_le_self _ hlb.1) hlb.2
  have hf : fits (L.tdiv p.unit) := by rw [hq]; unfold fits; omega
  obtain ⟨u, eu⟩ : ∃ u, u = L.tdiv p.unit := ⟨_, rfl⟩
  refine ⟨decide (u ≤ 60) || decide (u > 2000), ?_⟩
  refine con_of Tryd.func5 rfl (by kernel_rfl) rfl ?_
  simp only [Tryd.ntmps5, Tryd.results5, argEnv, ofC, of1, List.map]
  by_cases g1 : u ≤ 60
  · skip
    repeat' (first
      | ((with_reducible apply r_call); exact rfl; exact rfl; (first | exact c0 | exact c1 | exact c2); exact rfl; exact rfl)
      | ((with_reducible apply r_quo); exact rfl; exact rfl; exact (by omega); exact hf; exact rfl; rw [← eu])
      | ((with_reducible apply aw_seq))
      | ((with_reducible apply aw_region))
      | ((with_reducible apply thn_normal))
      | ((with_reducible apply aw_skip))
      | ((with_reducible apply aw_ret))
      | ((with_reducible apply ao_nil))
      | ((with_reducible apply r_move); exact rfl; exact rfl)
      | ((with_reducible apply r_assign); exact rfl; exact rfl)
      | ((with_reducible apply r_field_p); exact rfl; exact rfl)
      | ((with_reducible apply r_load_p); exact rfl; exact rfl; exact rfl; exact rfl)
      | ((with_reducible apply r_load_pa); exact rfl; exact rfl; exact rfl; exact rfl; exact rfl)
      | ((with_reducible apply r_leq); exact rfl; exact rfl; exact rfl)
      | ((with_reducible apply r_gtr); exact rfl; exact rfl; exact rfl)
      | ((with_reducible apply r_neq); exact rfl; exact rfl; exact rfl)
      | ((with_reducible apply r_box_a); exact rfl; exact rfl)
      | ((with_reducible apply r_pick_t); exact rfl; exact rfl; exact rfl)
      | ((with_reducible apply r_pick_f); exact rfl; exact rfl; exact rfl)
      | ((with_reducible apply r_len_f); exact rfl; exact inferInstance; exact rfl)
      | (((with_reducible apply r_guard); exact rfl; exact rfl; exact rfl; exact rfl) <;> intro hg <;> (first | (exact absurd hg (by decide)) | ((try simp only [decide_eq_true_eq, decide_eq_false_iff_not, Bool.not_eq_true', Bool.not_eq_false', Bool.not_true, Bool.not_false, Bool.not_not, Int.not_lt, Int.not_le, Nat.not_lt, Nat.not_le, gt_iff_lt, ge_iff_le, List.cons.injEq, and_true] at hg); first | (exact absurd trivial hg) | (exfalso; omega) | (have hT : True := hg; clear hT hg) | skip)))
      | (((with_reducible apply aw_cond); exact rfl) <;> intro hg <;> (first | (exact absurd hg (by decide)) | ((try simp only [decide_eq_true_eq, decide_eq_false_iff_not, Bool.not_eq_true', Bool.not_eq_false', Bool.not_true, Bool.not_false, Bool.not_not, Int.not_lt, Int.not_le, Nat.not_lt, Nat.not_le, gt_iff_lt, ge_iff_le, List.cons.injEq, and_true] at hg); first | (exact absurd trivial hg) | (exfalso; omega) | (have hT : True := hg; clear hT hg) | skip)))
      | (refine aw_drawq ?_ ?_; (kernel_rfl))
      | ((with_reducible apply ds_nil))
      | (((with_reducible apply rd_guard); exact rfl; exact rfl; exact rfl) <;> intro hg <;> (first | (exact absurd hg (by decide)) | ((try rw [hg]); (try simp only [decide_eq_true_eq, decide_eq_false_iff_not, Bool.not_eq_true', Bool.not_eq_false', Bool.not_true, Bool.not_false, Bool.not_not, Int.not_lt, Int.not_le, Nat.not_lt, Nat.not_le, gt_iff_lt, ge_iff_le, List.cons.injEq, and_true] at hg); first | (exact absurd trivial hg) | (exfalso; omega) | (have hT : True := hg; clear hT hg) | skip)))
      )
    all_goals first | exact ret_b rfl (by simp) | exact ret_b rfl (by simp [g1])
  · skip
    repeat' (first
      | ((with_reducible apply r_call); exact rfl; exact rfl; (first | exact c0 | exact c1 | exact c2); exact rfl; exact rfl)
      | ((with_reducible apply r_quo); exact rfl; exact rfl; exact (by omega); exact hf; exact rfl; rw [← eu])
      | ((with_reducible apply aw_seq))
      | ((with_reducible apply aw_region))
      | ((with_reducible apply thn_normal))
      | ((with_reducible apply aw_skip))
      | ((with_reducible apply aw_ret))
      | ((with_reducible apply ao_nil))
      | ((with_reducible apply r_move); exact rfl; exact rfl)
      | ((with_reducible apply r_assign); exact rfl; exact rfl)
      | ((with_reducible apply r_field_p); exact rfl; exact rfl)
      | ((with_reducible apply r_load_p); exact rfl; exact rfl; exact rfl; exact rfl)
      | ((with_reducible apply r_load_pa); exact rfl; exact rfl; exact rfl; exact rfl; exact rfl)
      | ((with_reducible apply r_leq); exact rfl; exact rfl; exact rfl)
      | ((with_reducible apply r_gtr); exact rfl; exact rfl; exact rfl)
      | ((with_reducible apply r_neq); exact rfl; exact rfl; exact rfl)
      | ((with_reducible apply r_box_a); exact rfl; exact rfl)
      | ((with_reducible apply r_pick_t); exact rfl; exact rfl; exact rfl)
      | ((with_reducible apply r_pick_f); exact rfl; exact rfl; exact rfl)
      | ((with_reducible apply r_len_f); exact rfl; exact inferInstance; exact rfl)
      | (((with_reducible apply r_guard); exact rfl; exact rfl; exact rfl; exact rfl) <;> intro hg <;> (first | (exact absurd hg (by decide)) | ((try simp only [decide_eq_true_eq, decide_eq_false_iff_not, Bool.not_eq_true', Bool.not_eq_false', Bool.not_true, Bool.not_false, Bool.not_not, Int.not_lt, Int.not_le, Nat.not_lt, Nat.not_le, gt_iff_lt, ge_iff_le, List.cons.injEq, and_true] at hg); first | (exact absurd trivial hg) | (exfalso; omega) | (have hT : True := hg; clear hT hg) | skip)))
      | (((with_reducible apply aw_cond); exact rfl) <;> intro hg <;> (first | (exact absurd hg (by decide)) | ((try simp only [decide_eq_true_eq, decide_eq_false_iff_not, Bool.not_eq_true', Bool.not_eq_false', Bool.not_true, Bool.not_false, Bool.not_not, Int.not_lt, Int.not_le, Nat.not_lt, Nat.not_le, gt_iff_lt, ge_iff_le, List.cons.injEq, and_true] at hg); first | (exact absurd trivial hg) | (exfalso; omega) | (have hT : True := hg; clear hT hg) | skip)))
      | (refine aw_drawq ?_ ?_; (kernel_rfl))
      | ((with_reducible apply ds_nil))
      | (((with_reducible apply rd_guard); exact rfl; exact rfl; exact rfl) <;> intro hg <;> (first | (exact absurd hg (by decide)) | ((try rw [hg]); (try simp only [decide_eq_true_eq, decide_eq_false_iff_not, Bool.not_eq_true', Bool.not_eq_false', Bool.not_true, Bool.not_false, Bool.not_not, Int.not_lt, Int.not_le, Nat.not_lt, Nat.not_le, gt_iff_lt, ge_iff_le, List.cons.injEq, and_true] at hg); first | (exact absurd trivial hg) | (exfalso; omega) | (have hT : True := hg; clear hT hg) | skip)))
      )
    all_goals first | exact ret_b rfl (by simp) | exact ret_b rfl (by simp [g1])
end Go.Proofs.YtkhljpbkebnnmaaDoor.Bu
/- Walks of the laws on bucking: awake. -/
namespace Go.Proofs.YtkhljpbkebnnmaaDoor.Bu
set_option linter.unusedVariables false
set_option linter.unusedSimpArgs false
open Go.RowKit Go.Proofs.YtkhljpbkebnnmaaDoor.Ev Go.Proofs.YtkhljpbkebnnmaaDoor.Ge
variable {gl : List (Nat × List CV)}

set_option maxRecDepth 100000 in
set_option maxHeartbeats 32000000 in
theorem awake18_con : Con Tryd.prog Cu.G 6 [] T := by
  have h1 : Con Tryd.prog Cu.G 14 [planV (pX 0), lgV sX] (.tup [Cu.LP [(0, 0), (1, 20)], I 200, I 0]) := by have := bbest_con (pX 0) sX (by decide) (by decide) (by decide); rw [bb_X0] at this; exact this
  have h2 : Con Tryd.prog Cu.G 14 [planV (pX 1), lgV sX] (.tup [Cu.LP [(0, 0), (0, 21)], I 160, I 0]) := by have := bbest_con (pX 1) sX (by decide) (by decide) (by decide); rw [bb_X1] at this; exact this
  have h3 : Con Tryd.prog Cu.G 10 [planV (pX 0), lgV sX, Cu.LP [(0, 0), (1, 20)]] (.tup [LStem [(LM 2000, []), (LM 3000, [])], I 0]) := by have := blogs_con (gl := Cu.G) (pX 0) sX [(0, 0), (1, 20)] (by decide) (by decide) (by decide) (by decide); rw [logs_X0] at this; exact this
  have h4 : Con Tryd.prog Cu.G 7 [planV (pX 1), lgV sX] (.tup [.agg (Cu.lineL (XL 1)), I 0]) := by have := bline_con (gl := Cu.G) (pX 1) sX (by decide) (by decide) (by decide); rw [lineS_X (by decide)] at this; exact this
  have h5 : Con Tryd.prog Cu.G 19 [planV (pX 1)] (I 0) := by have := pcheck_con (gl := Cu.G) (pX 1) (by decide); rw [chk_pX (by decide)] at this; exact this
  have h6 : Con Tryd.prog Cu.G 19 [planV ⟨[], [], 0, 0⟩] (I 3) := by have := pcheck_con (gl := Cu.G) ⟨[], [], 0, 0⟩ (by decide); rw [plan0] at this; exact this
  have h7 : Con Tryd.prog Cu.G 18 [LL (LM 3000)] (I 3000) := by have := rslength_con (gl := Cu.G) (LM 3000) (by decide); rw [LM_len (by decide)] at this; exact this
  have h8 := Cu.samePieces_con (gl := Cu.G) [(0, 0), (1, 20)] (by decide)
  have h9 := Cu.samePieces_con (gl := Cu.G) [(0, 0), (0, 21)] (by decide)
  have e1 : ((((XL 1).gain[1]'(by decide)).length : Nat) : Int) = 21 := by decide +kernel
  have e2 : ((XL 1).gain[1]'(by decide))[20]'(by decide +kernel) = 120 := by decide +kernel
  refine con_of Tryd.func6 rfl (by kernel_rfl) rfl ?_
  simp only [Tryd.ntmps6, Tryd.results6, argEnv, ofC, of1, List.map]
  repeat' (first
    | ((with_reducible apply aw_seq))
    | ((with_reducible apply aw_region))
    | ((with_reducible apply aw_block))
    | ((with_reducible apply thn_normal))
    | ((with_reducible apply ao_nil))
    | ((with_reducible apply r_assign); exact rfl; exact rfl)
    | ((with_reducible apply r_field_p); exact rfl; exact rfl)
    | ((with_reducible apply r_store_p); exact rfl; exact rfl; exact rfl; exact rfl; exact rfl; exact rfl)
    | ((with_reducible apply r_alloc); exact rfl)
    )
  refine aw_nilcell 0 1 54 2 rfl rfl rfl rfl ?_
  refine aw_loopG (G := List Span) (fun (l : List Span) => l.length ≤ 20 ∧ l = List.replicate l.length (-100, 100)) (fun (l : List Span) => 20 - l.length) (fun (l : List Span) => [(1, .ptr 0 0), (2, A l.length)]) (fun (l : List Span) => [(0, some (.cells 63 [A (-10), .vec 1 l.length])), (1, some (.vec 54 2 (l.flatMap spC)))]) 2 [] ?_ (by refine weak_mk rfl ?_ ?_ <;> repeat (first | exact envW_nil | exact heapW_nil | refine envW_cons rfl rfl ?_ | refine heapW_cons rfl rfl rfl ?_)) rfl ?_
  · exact ⟨Nat.zero_le _, rfl⟩
  rintro l hI
  try dsimp only at hI
  try dsimp only
  obtain ⟨hl, hr⟩ := hI
  by_cases hlt : l.length < 20
  · skip
    repeat' (first
      | ((with_reducible apply (r_push (x0 := ((-100, 100) : Span)))); exact rfl; exact rfl; exact inferInstance; exact rfl; exact rfl; exact rfl; exact rfl; exact (by omega); exact (by omega); exact rfl)
      | ((with_reducible apply aw_seq))
      | ((with_reducible apply aw_region))
      | ((with_reducible apply aw_block))
      | ((with_reducible apply thn_normal))
      | ((with_reducible apply inb_normal))
      | ((with_reducible apply aw_skip))
      | ((with_reducible apply ao_nil))
      | ((with_reducible apply r_move); exact rfl; exact rfl)
      | ((with_reducible apply r_assign); exact rfl; exact rfl)
      | ((with_reducible apply r_field_p); exact rfl; exact rfl)
      | ((with_reducible apply r_load_p); exact rfl; exact rfl; exact rfl; exact rfl)
      | ((with_reducible apply r_lss); exact rfl; exact rfl; exact rfl)
      | ((with_reducible apply r_add); exact rfl; exact rfl; exact (by first | assumption | (unfold fits; omega)); exact rfl)
      | ((with_reducible apply r_store_p); exact rfl; exact rfl; exact rfl; exact rfl; exact rfl; exact rfl)
      | ((with_reducible apply r_build); exact rfl; exact rfl; exact rfl)
      | (((with_reducible apply aw_cond); exact rfl) <;> intro hg <;> (first | (exact absurd hg (by decide)) | ((try simp only [decide_eq_true_eq, decide_eq_false_iff_not, Bool.not_eq_true', Bool.not_eq_false', Bool.not_true, Bool.not_false, Bool.not_not, Int.not_lt, Int.not_le, Nat.not_lt, Nat.not_le, gt_iff_lt, ge_iff_le, List.cons.injEq, and_true] at hg); first | (exact absurd trivial hg) | (exfalso; omega) | (have hT : True := hg; clear hT hg) | skip)))
      | ((with_reducible apply r_lit); exact rfl; exact rfl; exact rfl; exact rfl; exact rfl; exact rfl; exact rfl)
      )
    have e : ((l.length : Int) + 1) = ((l ++ [((-100, 100) : Span)]).length : Int) := by simp
    have e2 : l.length + 1 = (l ++ [((-100, 100) : Span)]).length := by simp
    rw [e, e2]
    refine ⟨l ++ [(-100, 100)], ?_, ?_, by refine weak_mk rfl ?_ ?_ <;> repeat (first | exact envW_nil | exact heapW_nil | refine envW_cons rfl rfl ?_ | refine heapW_cons rfl rfl rfl ?_)⟩
    · show 20 - (l ++ [((-100, 100) : Span)]).length < 20 - l.length; simp; omega
    · refine ⟨by show (l ++ [((-100, 100) : Span)]).length ≤ 20; simp; omega, ?_⟩
      show l ++ [((-100, 100) : Span)] = List.replicate (l ++ [((-100, 100) : Span)]).length (-100, 100)
      rw [List.length_append, List.length_singleton, List.replicate_succ', ← hr]
  · have h20 : l.length = 20 := by omega
    have hq : l = row20 := by rw [hr, h20]; rfl
    refine aw_freezecell 0 1 (E := 54) (size := 2) (xs := l.flatMap spC) rfl rfl rfl (flat_len EncL.len l) rfl ?_
    rw [hq]
    repeat' (first
      | ((with_reducible apply ao_app))
      | ((with_reducible apply ao_app0))
      | (refine aw_nilcell 2 1 92 7 rfl rfl rfl rfl ?_; refine aw_freezecell 2 1 (E := 92) (size := 7) (xs := []) rfl rfl rfl rfl rfl ?_)
      | ((with_reducible apply r_litq); exact rfl; exact rfl; exact rfl; exact rfl; exact rfl; exact rfl; exact rfl)
      | ((with_reducible apply r_call); exact rfl; exact rfl; (first | exact h1 | exact h2 | exact h3 | exact h4 | exact h5 | exact h7 | exact h8 | exact h9); exact rfl; exact rfl)
      | ((with_reducible apply r_callq); exact h6; exact rfl; exact cl_cons (cl_agg (cl_cons cl_none (cl_cons cl_none (cl_cons cl_c (cl_cons cl_c cl_nil))))) cl_nil; exact rfl; exact rfl)
      | ((with_reducible apply (r_index_f 1)); exact rfl; exact inferInstance; exact rfl; exact rfl; exact (by decide); exact rfl)
      | ((with_reducible apply (r_index_f 20)); exact rfl; exact inferInstance; exact rfl; exact rfl; exact (by decide); exact rfl)
      | ((with_reducible apply aw_seq))
      | ((with_reducible apply aw_region))
      | ((with_reducible apply thn_normal))
      | ((with_reducible apply thn_exit))
      | ((with_reducible apply inb_exit))
      | ((with_reducible apply aw_skip))
      | ((with_reducible apply aw_exit))
      | ((with_reducible apply aw_ret))
      | ((with_reducible apply ao_nil))
      | ((with_reducible apply r_move); exact rfl; exact rfl)
      | ((with_reducible apply r_assign); exact rfl; exact rfl)
      | ((with_reducible apply r_field_p); exact rfl; exact rfl)
      | ((with_reducible apply r_load_p); exact rfl; exact rfl; exact rfl; exact rfl)
      | ((with_reducible apply r_load_pa); exact rfl; exact rfl; exact rfl; exact rfl; exact rfl)
      | ((with_reducible apply r_lss); exact rfl; exact rfl; exact rfl)
      | ((with_reducible apply r_eql); exact rfl; exact rfl; exact rfl)
      | ((with_reducible apply r_neq); exact rfl; exact rfl; exact rfl)
      | ((with_reducible apply r_pick_t); exact rfl; exact rfl; exact rfl)
      | ((with_reducible apply r_pick_f); exact rfl; exact rfl; exact rfl)
      | ((with_reducible apply r_len_f); exact rfl; exact inferInstance; exact rfl)
      | ((with_reducible apply r_index_f); exact rfl; exact inferInstance; exact rfl; exact (Int.toNat_of_nonneg (by omega)).symm; (first | assumption | omega); exact rfl)
      | ((with_reducible apply r_load_f0); exact rfl; exact inferInstance; exact List.getElem?_eq_getElem (by first | assumption | omega); exact rfl; exact rfl)
      | ((with_reducible apply r_field_e); exact rfl; exact rfl)
      | ((with_reducible apply r_store_p); exact rfl; exact rfl; exact rfl; exact rfl; exact rfl; exact rfl)
      | ((with_reducible apply r_store_pa); exact rfl; exact rfl; exact rfl; exact rfl; exact rfl; exact rfl)
      | ((with_reducible apply r_build); exact rfl; exact rfl; exact rfl)
      | ((with_reducible apply r_extract); exact rfl; exact rfl; exact rfl)
      | ((with_reducible apply r_alloc); exact rfl)
      | (((with_reducible apply r_guard); exact rfl; exact rfl; exact rfl; exact rfl) <;> intro hg <;> (first | (exact absurd hg (by decide)) | ((try simp only [decide_eq_true_eq, decide_eq_false_iff_not, Bool.not_eq_true', Bool.not_eq_false', Bool.not_true, Bool.not_false, Bool.not_not, Int.not_lt, Int.not_le, Nat.not_lt, Nat.not_le, gt_iff_lt, ge_iff_le, List.cons.injEq, and_true] at hg); first | (exact absurd trivial hg) | (exfalso; omega) | (have hT : True := hg; clear hT hg) | skip)))
      | (((with_reducible apply aw_cond); exact rfl) <;> intro hg <;> (first | (exact absurd hg (by decide)) | ((try simp only [decide_eq_true_eq, decide_eq_false_iff_not, Bool.not_eq_true', Bool.not_eq_false', Bool.not_true, Bool.not_false, Bool.not_not, Int.not_lt, Int.not_le, Nat.not_lt, Nat.not_le, gt_iff_lt, ge_iff_le, List.cons.injEq, and_true] at hg); first | (exact absurd trivial hg) | (exfalso; omega) | (have hT : True := hg; clear hT hg) | skip)))
      )
    all_goals first | exact ret_b rfl rfl | exact ret_b rfl (by decide) | trace_state
end Go.Proofs.YtkhljpbkebnnmaaDoor.Bu
/- The law BuckVolume: logs, dust, chips and rest are the stem. -/
namespace Go.Proofs.YtkhljpbkebnnmaaDoor.Bu
set_option linter.unusedVariables false
set_option linter.unusedSimpArgs false
open Go.RowKit Go.Proofs.YtkhljpbkebnnmaaDoor.Ev Go.Proofs.YtkhljpbkebnnmaaDoor.Ge
variable {gl : List (Nat × List CV)}

/-- The volume up to a unit. -/
noncomputable def Wv (l : List Slc) (u k : Int) : Int := volS (cutS l (0, k * u))
theorem vol_ab (l : List Slc) {u a b : Int} (hu : 1 ≤ u) (h0 : 0 ≤ a) (hab : a ≤ b) : volS (cutS l (a * u, b * u)) = Wv l u b - Wv l u a := by
  have h1 : 0 ≤ a * u := Int.mul_nonneg h0 (by omega)
  have h2 : a * u ≤ b * u := Int.mul_le_mul_of_nonneg_right hab (by omega)
  have := vol_split l h1 h2
  unfold Wv; omega
theorem Wv_0 (l : List Slc) (u : Int) : Wv l u 0 = 0 := by
  unfold Wv
  rw [Int.zero_mul]
  have := vol_split l (Int.le_refl 0) (Int.le_refl 0)
  omega
def wk (W : Int → Int) (k : Nat) : Int := W ((k : Int) + 1) - W k
theorem tele (W : Int → Int) {a b : Int} (h0 : 0 ≤ a) (hab : a ≤ b) : ∀ n : Nat, sumN (fun k => wk W k * Cu.ind a b k) n = W (min b n) - W (min a n)
  | 0 => by
    have e1 : min b ((0 : Nat) : Int) = 0 := by omega
    have e2 : min a ((0 : Nat) : Int) = 0 := by omega
    rw [e1, e2]; show (0 : Int) = _; omega
  | n + 1 => by
    show sumN (fun k => wk W k * Cu.ind a b k) n + wk W n * Cu.ind a b n = _
    rw [tele W h0 hab n]
    unfold Cu.ind wk
    by_cases h1 : a ≤ (n : Int) ∧ (n : Int) < b
    · rw [if_pos h1]
      have e1 : min b (n : Int) = n := by omega
      have e2 : min a (n : Int) = a := by omega
      have e3 : min b ((n + 1 : Nat) : Int) = (n : Int) + 1 := by omega
      have e4 : min a ((n + 1 : Nat) : Int) = a := by omega
      rw [e1, e2, e3, e4]; omega
    · rw [if_neg h1]
      by_cases h2 : (n : Int) < a
      · have e1 : min b (n : Int) = min a (n : Int) := by omega
        have e3 : min b ((n + 1 : Nat) : Int) = min a ((n + 1 : Nat) : Int) := by omega
        rw [e1, e3]; omega
      · have e1 : min b (n : Int) = min b ((n + 1 : Nat) : Int) := by omega
        have e3 : min a (n : Int) = min a ((n + 1 : Nat) : Int) := by omega
        rw [e1, e3]; omega
theorem sumN_plus (f g : Nat → Int) : ∀ n, sumN (fun k => f k + g k) n = sumN f n + sumN g n
  | 0 => rfl
  | n + 1 => by
    show sumN (fun k => f k + g k) n + (f n + g n) = (sumN f n + f n) + (sumN g n + g n)
    rw [sumN_plus f g n]; omega
theorem sumN_same {f g : Nat → Int} : ∀ {n : Nat}, (∀ k, k < n → f k = g k) → sumN f n = sumN g n
  | 0, _ => rfl
  | n + 1, h => by
    show sumN f n + f n = sumN g n + g n
    rw [sumN_same (fun k hk => h k (by omega)), h n (by omega)]
theorem sumN_zero : ∀ n, sumN (fun _ => 0) n = 0
  | 0 => rfl
  | n + 1 => by show sumN (fun _ => 0) n + 0 = 0; rw [sumN_zero n]; rfl
theorem spans_sum (W : Int → Int) (n : Nat) : ∀ ss : List Span, (∀ z ∈ ss, 0 ≤ z.1 ∧ z.1 ≤ z.2 ∧ z.2 ≤ n) → (ss.map (fun z => W z.2 - W z.1)).sum = sumN (fun k => wk W k * (ss.map (fun z => Cu.ind z.1 z.2 k)).sum) n
  | [], _ => by
    rw [show (fun k : Nat => wk W k * (([] : List Span).map (fun z => Cu.ind z.1 z.2 (k : Int))).sum) = fun _ => 0 from by funext k; simp, sumN_zero]; rfl
  | z :: ss, h => by
    have hz := h z List.mem_cons_self
    have ih := spans_sum W n ss (fun y hy => h y (List.mem_cons_of_mem _ hy))
    have ht := tele W hz.1 hz.2.1 n
    rw [show min z.2 (n : Int) = z.2 by omega, show min z.1 (n : Int) = z.1 by omega] at ht
    rw [List.map_cons, List.sum_cons, ih, ← ht, ← sumN_plus]
    refine sumN_same (fun k _ => ?_)
    rw [List.map_cons, List.sum_cons, Int.mul_add]
/-- Volumes of spans of units. -/
noncomputable def svS (l : List Slc) (u : Int) (ss : List Span) : Int := (ss.map (fun z => volS (cutS l (z.1 * u, z.2 * u)))).sum
theorem svS_W (l : List Slc) {u : Int} (hu : 1 ≤ u) (ss : List Span) (h : ∀ z ∈ ss, 0 ≤ z.1 ∧ z.1 ≤ z.2) : svS l u ss = (ss.map (fun z => Wv l u z.2 - Wv l u z.1)).sum := by
  unfold svS
  congr 1
  refine List.map_congr_left (fun z hz => ?_)
  exact vol_ab l hu (h z hz).1 (h z hz).2
theorem svS_succ (l : List Slc) (u : Int) (ss : List Span) (j : Nat) (h : j < ss.length) : svS l u (ss.take (j + 1)) = svS l u (ss.take j) + volS (cutS l (ss[j].1 * u, ss[j].2 * u)) := by
  unfold svS
  rw [List.take_succ_eq_append_getElem h, List.map_append, List.sum_append]; simp
theorem svS_bd (l : List Slc) (u : Int) (ss : List Span) : ∀ j, 0 ≤ svS l u (ss.take j) ∧ svS l u (ss.take j) ≤ 700000000000 * (j : Int)
  | 0 => by simp [svS]
  | j + 1 => by
    have ih := svS_bd l u ss j
    by_cases h : j < ss.length
    · rw [svS_succ l u ss j h]
      have := volS_bd (cutS l (ss[j].1 * u, ss[j].2 * u))
      omega
    · rw [List.take_of_length_le (by omega)] at ih ⊢
      omega
noncomputable def lvS (ls : List Lg) : Int := (ls.map (fun x => volS x.1)).sum
theorem lvS_succ (ls : List Lg) (j : Nat) (h : j < ls.length) : lvS (ls.take (j + 1)) = lvS (ls.take j) + volS ls[j].1 := by
  unfold lvS
  rw [List.take_succ_eq_append_getElem h, List.map_append, List.sum_append]; simp
theorem lvS_bd (ls : List Lg) : ∀ j, 0 ≤ lvS (ls.take j) ∧ lvS (ls.take j) ≤ 700000000000 * (j : Int)
  | 0 => by simp [lvS]
  | j + 1 => by
    have ih := lvS_bd ls j
    by_cases h : j < ls.length
    · rw [lvS_succ ls j h]
      have := volS_bd ls[j].1
      omega
    · rw [List.take_of_length_le (by omega)] at ih ⊢
      omega
/-- The whole is the part up to the end. -/
theorem cut_all {l : List Slc} (h : solChk l = 0) : volS (cutS l (0, 20000)) = volS l := by
  have v := sol_V h
  rw [vol_cut, valL_ok h]
  unfold volS
  rw [valL_ok h]
  unfold volV
  refine sumN_same (fun i hi => ?_)
  have h1 := pos_bd v (j := i) (by omega)
  have h2 := pos_bd v (j := i + 1) (by omega)
  have h3 := len_bd v hi
  rw [pos_succ, lenD_eq hi] at h2
  have e : ovZ l (0, 20000) i = lenD l i := by
    rw [lenD_eq hi]
    unfold ovZ ov
    rw [lenD_eq hi]
    dsimp only
    omega
  rw [e]
theorem parts_vol {p : Plan} {s : Lg} {u : Int} (ok : LnOk p s u) {l : List Cu.Piece} {D C : List Span} (hc : Cu.cutsS (lineOf p s u) l = (0, D, C)) :
    volS (cutS s.1 (u * p.unit, 20000)) + lvS (l.map (logOf p s)) + svS s.1 p.unit D + svS s.1 p.unit C = volS s.1 := by
  obtain ⟨a1, a2⟩ := Cu.cuts_all hc
  obtain ⟨_, _, hcnt⟩ := Cu.cuts_cnt hc
  have hin := piece_in ok hc
  have hub := ok.ub
  have hu := ok.pk.unit
  have hone := ok.pk.one
  obtain ⟨n, hn⟩ : ∃ n : Nat, u = n := ⟨u.toNat, by omega⟩
  have pS : ∀ z ∈ l.map (fun x => ((x.2, x.2 + p.lens.getD x.1.toNat 0) : Span)), 0 ≤ z.1 ∧ z.1 ≤ z.2 ∧ z.2 ≤ n := by
    intro z hz
    obtain ⟨x, hx, rfl⟩ := List.mem_map.1 hz
    obtain ⟨i, hi, rfl⟩ := List.mem_iff_getElem.1 hx
    obtain ⟨_, i2, i3, i4, i5⟩ := hin i hi
    have := hone _ i2
    dsimp only
    rw [i3]; omega
  have e1 : lvS (l.map (logOf p s)) = svS s.1 p.unit (l.map (fun x => ((x.2, x.2 + p.lens.getD x.1.toNat 0) : Span))) := by
    unfold lvS svS
    rw [List.map_map, List.map_map]; rfl
  have dS : ∀ z ∈ D, 0 ≤ z.1 ∧ z.1 ≤ z.2 ∧ z.2 ≤ n := fun z hz => by have : 0 ≤ z.1 ∧ z.1 < z.2 ∧ z.2 ≤ u := a1 z hz; omega
  have cS : ∀ z ∈ C, 0 ≤ z.1 ∧ z.1 ≤ z.2 ∧ z.2 ≤ n := fun z hz => by have : 0 ≤ z.1 ∧ z.1 < z.2 ∧ z.2 ≤ u := a2 z hz; omega
  have w1 := (svS_W s.1 hu.1 _ (fun z hz => ⟨(pS z hz).1, (pS z hz).2.1⟩)).trans (spans_sum (Wv s.1 p.unit) n _ pS)
  have w2 := (svS_W s.1 hu.1 D (fun z hz => ⟨(dS z hz).1, (dS z hz).2.1⟩)).trans (spans_sum (Wv s.1 p.unit) n _ dS)
  have w3 := (svS_W s.1 hu.1 C (fun z hz => ⟨(cS z hz).1, (cS z hz).2.1⟩)).trans (spans_sum (Wv s.1 p.unit) n _ cS)
  have hsum : sumN (fun k => wk (Wv s.1 p.unit) k * ((l.map (fun x => ((x.2, x.2 + p.lens.getD x.1.toNat 0) : Span))).map (fun z => Cu.ind z.1 z.2 k)).sum) n + sumN (fun k => wk (Wv s.1 p.unit) k * (D.map (fun z => Cu.ind z.1 z.2 k)).sum) n + sumN (fun k => wk (Wv s.1 p.unit) k * (C.map (fun z => Cu.ind z.1 z.2 k)).sum) n = Wv s.1 p.unit u := by
    rw [← sumN_plus, ← sumN_plus]
    have ht := tele (Wv s.1 p.unit) (a := 0) (b := u) (Int.le_refl 0) hub.1 n
    rw [show min u (n : Int) = u by omega, show min 0 (n : Int) = 0 by omega, Wv_0, Int.sub_zero] at ht
    rw [← ht]
    refine sumN_same (fun k hk => ?_)
    have hk1 := hcnt k (by omega) (by show (k : Int) < u; omega)
    unfold Cu.cntS Cu.cntP at hk1
    have e2 : ((l.map (fun x => ((x.2, x.2 + p.lens.getD x.1.toNat 0) : Span))).map (fun z => Cu.ind z.1 z.2 k)).sum = (l.map fun x => Cu.ind x.2 (x.2 + Cu.szOf (lineOf p s u) x.1) k).sum := by
      rw [List.map_map]; rfl
    have e3 : Cu.ind 0 u k = 1 := if_pos ⟨by omega, by omega⟩
    have e4 : ((l.map (fun x => ((x.2, x.2 + p.lens.getD x.1.toNat 0) : Span))).map (fun z => Cu.ind z.1 z.2 k)).sum + (D.map (fun z => Cu.ind z.1 z.2 k)).sum + (C.map (fun z => Cu.ind z.1 z.2 k)).sum = 1 := by
      rw [e2]
      have hk2 : (D.map (fun z => Cu.ind z.1 z.2 k)).sum + (C.map (fun z => Cu.ind z.1 z.2 k)).sum + (l.map fun x => Cu.ind x.2 (x.2 + Cu.szOf (lineOf p s u) x.1) k).sum = 1 := hk1
      omega
    rw [e3, ← Int.mul_add, ← Int.mul_add, e4]
  have hsp := vol_split s.1 (p := 0) (m := u * p.unit) (q := 20000) (Int.mul_nonneg hub.1 (by omega)) (by
    have hlb := length_bd s.1
    have h1 := Int.ediv_mul_le (lengthS s.1) (b := p.unit) (by omega)
    rw [← ok.ue] at h1
    omega)
  have hall := cut_all ok.sol
  have key := hsum
  rw [← w1, ← w2, ← w3, ← e1] at key
  have hW : volS (cutS s.1 (0, u * p.unit)) = Wv s.1 p.unit u := rfl
  rw [hW] at hsp
  omega
end Go.Proofs.YtkhljpbkebnnmaaDoor.Bu
/- The walk of the law BuckVolume. -/
namespace Go.Proofs.YtkhljpbkebnnmaaDoor.Bu
set_option linter.unusedVariables false
set_option linter.unusedSimpArgs false
open Go.RowKit Go.Proofs.YtkhljpbkebnnmaaDoor.Ev Go.Proofs.YtkhljpbkebnnmaaDoor.Ge

/-- Behind a region that draws its order, what is known is put down once. -/
def cutQ (s' : St) (n : Nat) (Q : Exit → St → Prop) : Exit → St → Prop
  | .normal, st => Weak st s' ∧ n ≤ s'.nx
  | e, st => Q e st
theorem cutQ_normal {s' st : St} {n : Nat} {Q : Exit → St → Prop} (h : Weak st s') (hn : Nat.ble n s'.nx = true) : cutQ s' n Q .normal st := ⟨h, Nat.le_of_ble_eq_true hn⟩
theorem aw_cut_at {P : Program} (id : Nat) (s' : St) {l : Array Oper} {K : St → Prop} {Q : Exit → St → Prop} {st : St} (h : Awp P (.region id l true) (cutQ s' st.nx Q) st) (hK : K s') : Awp P (.region id l true) (thn K Q) st :=
  aw_cut (fun s => s = s') (aw_mono h (fun e s hs => by
    cases e with
    | normal => exact ⟨s', rfl, hs⟩
    | _ => exact hs)) (fun s hs => hs ▸ hK)
theorem only4 {P : Program} {l : Array Oper} {Q : Exit → St → Prop} {st : St} (h : Awp P (.region 4 l true) Q st) : Awp P (.region 4 l true) Q st := h
abbrev Case := Plan × Lg
abbrev CaseQ (x : Case) : Prop := x.1.classes.length ≤ maxLen ∧ x.2.1.length ≤ maxLen ∧ x.2.2.length ≤ maxLen
theorem few_cut {p : Plan} {s : Lg} {u : Int} (ok : LnOk p s u) {l : List Cu.Piece} {D C : List Span} (hc : Cu.cutsS (lineOf p s u) l = (0, D, C)) : D.length ≤ 2000 ∧ C.length ≤ 2000 ∧ (∀ j (h : j < D.length), 0 ≤ D[j].1 ∧ D[j].1 ≤ 2000 ∧ 0 ≤ D[j].2 ∧ D[j].2 ≤ 2000) ∧ ∀ j (h : j < C.length), 0 ≤ C[j].1 ∧ C[j].1 ≤ 2000 ∧ 0 ≤ C[j].2 ∧ C[j].2 ≤ 2000 := by
  obtain ⟨h1, h2⟩ := Cu.cutsS_ok hc
  have v := Cu.valid_of h1
  obtain ⟨a1, a2, h3, _⟩ := Cu.cuts_ok v h2
  have t1 := Cu.tot_nn a1
  have t2 := Cu.tot_nn a2
  have hub := ok.ub
  have h3' : Cu.tot D + Cu.tot C + (l.length : Int) ≤ u := h3
  refine ⟨by omega, by omega, fun j hj => ?_, fun j hj => ?_⟩
  · have : 0 ≤ D[j].1 ∧ D[j].1 < D[j].2 ∧ D[j].2 ≤ u := a1 _ (List.getElem_mem hj)
    omega
  · have : 0 ≤ C[j].1 ∧ C[j].1 < C[j].2 ∧ C[j].2 ≤ u := a2 _ (List.getElem_mem hj)
    omega
set_option maxRecDepth 100000 in
set_option maxHeartbeats 32000000 in
theorem volume_law (x : Case) (hx : CaseQ x) (l : List Cu.Piece) (_ : l.length ≤ maxLen) : Con Tryd.prog Cu.G 3 [caseV x.1 x.2, Cu.LP l] T := by
  obtain ⟨p, s⟩ := x
  obtain ⟨hK, hl, hd⟩ := hx
  dsimp only at hK hl hd ⊢
  obtain ⟨b, cl⟩ := light_con (gl := Cu.G) p s hK hl
  have aw := awake18_con
  refine con_of Tryd.func3 rfl (by kernel_rfl) rfl ?_
  simp only [Tryd.ntmps3, Tryd.results3, argEnv, ofC, of1, List.map]
  by_cases hb : b = true ∧ l.length ≤ 40
  rotate_left
  · cases b
    · skip
      repeat' (first
        | ((with_reducible apply r_call); exact rfl; exact rfl; (first | exact cl | exact aw); exact rfl; exact rfl)
        | ((with_reducible apply aw_seq))
        | ((with_reducible apply aw_region))
        | ((with_reducible apply thn_normal))
        | ((with_reducible apply thn_ret))
        | ((with_reducible apply aw_ret))
        | ((with_reducible apply ao_nil))
        | ((with_reducible apply r_move); exact rfl; exact rfl)
        | ((with_reducible apply r_assign); exact rfl; exact rfl)
        | ((with_reducible apply r_load_pa); exact rfl; exact rfl; exact rfl; exact rfl; exact rfl)
        | ((with_reducible apply r_box_a); exact rfl; exact rfl)
        | ((with_reducible apply r_pick_t); exact rfl; exact rfl; exact rfl)
        | ((with_reducible apply r_not); exact rfl; exact rfl)
        | (((with_reducible apply r_guard); exact rfl; exact rfl; exact rfl; exact rfl) <;> intro hg <;> (first | (exact absurd hg (by decide)) | ((try simp only [decide_eq_true_eq, decide_eq_false_iff_not, Bool.not_eq_true', Bool.not_eq_false', Bool.not_true, Bool.not_false, Bool.not_not, Int.not_lt, Int.not_le, Nat.not_lt, Nat.not_le, gt_iff_lt, ge_iff_le, List.cons.injEq, and_true] at hg); first | (exact absurd trivial hg) | (exfalso; omega) | (have hT : True := hg; clear hT hg) | skip)))
        | (((with_reducible apply aw_cond); exact rfl) <;> intro hg <;> (first | (exact absurd hg (by decide)) | ((try simp only [decide_eq_true_eq, decide_eq_false_iff_not, Bool.not_eq_true', Bool.not_eq_false', Bool.not_true, Bool.not_false, Bool.not_not, Int.not_lt, Int.not_le, Nat.not_lt, Nat.not_le, gt_iff_lt, ge_iff_le, List.cons.injEq, and_true] at hg); first | (exact absurd trivial hg) | (exfalso; omega) | (have hT : True := hg; clear hT hg) | skip)))
        )
      all_goals exact ret_b rfl rfl
    · have : ¬ l.length ≤ 40 := fun h => hb ⟨rfl, h⟩
      repeat' (first
        | ((with_reducible apply r_call); exact rfl; exact rfl; (first | exact cl | exact aw); exact rfl; exact rfl)
        | ((with_reducible apply aw_seq))
        | ((with_reducible apply aw_region))
        | ((with_reducible apply thn_normal))
        | ((with_reducible apply thn_ret))
        | ((with_reducible apply aw_ret))
        | ((with_reducible apply ao_nil))
        | ((with_reducible apply r_move); exact rfl; exact rfl)
        | ((with_reducible apply r_assign); exact rfl; exact rfl)
        | ((with_reducible apply r_load_pa); exact rfl; exact rfl; exact rfl; exact rfl; exact rfl)
        | ((with_reducible apply r_gtr); exact rfl; exact rfl; exact rfl)
        | ((with_reducible apply r_box_a); exact rfl; exact rfl)
        | ((with_reducible apply r_pick_f); exact rfl; exact rfl; exact rfl)
        | ((with_reducible apply r_not); exact rfl; exact rfl)
        | ((with_reducible apply r_len_f); exact rfl; exact inferInstance; exact rfl)
        | (((with_reducible apply r_guard); exact rfl; exact rfl; exact rfl; exact rfl) <;> intro hg <;> (first | (exact absurd hg (by decide)) | ((try simp only [decide_eq_true_eq, decide_eq_false_iff_not, Bool.not_eq_true', Bool.not_eq_false', Bool.not_true, Bool.not_false, Bool.not_not, Int.not_lt, Int.not_le, Nat.not_lt, Nat.not_le, gt_iff_lt, ge_iff_le, List.cons.injEq, and_true] at hg); first | (exact absurd trivial hg) | (exfalso; omega) | (have hT : True := hg; clear hT hg) | skip)))
        | (((with_reducible apply aw_cond); exact rfl) <;> intro hg <;> (first | (exact absurd hg (by decide)) | ((try simp only [decide_eq_true_eq, decide_eq_false_iff_not, Bool.not_eq_true', Bool.not_eq_false', Bool.not_true, Bool.not_false, Bool.not_not, Int.not_lt, Int.not_le, Nat.not_lt, Nat.not_le, gt_iff_lt, ge_iff_le, List.cons.injEq, and_true] at hg); first | (exact absurd trivial hg) | (exfalso; omega) | (have hT : True := hg; clear hT hg) | skip)))
        )
      all_goals exact ret_b rfl rfl
  obtain ⟨rfl, h40⟩ := hb
  have c0 := plan_con (gl := Cu.G) p
  have c1 := stem_con (gl := Cu.G) s
  have c2 := bline_con (gl := Cu.G) p s hK hl hd
  have c3 := blogs_con (gl := Cu.G) p s l hK hl hd (by omega)
  rcases line_cases p s with ⟨e, he, h⟩ | ⟨u, ok, h⟩
  · rw [h] at c2
    rw [lg_err he h] at c3
    change Con _ _ _ _ (.tup [.agg [I 0, I 0, I 0, .lst 1 [], .lst 1 [], .lst 1 [], .lst 1 []], I e]) at c2
    change Con _ _ _ _ (.tup [LStem [], I e]) at c3
    repeat' (first
      | ((with_reducible refine only4 ?_); refine aw_drawq ?_ ?_; (kernel_rfl))
      | (refine aw_drawV [1] [0, 1, 2, 3, 4, 5, 6, 7, 8] [9] 3 _ ?_ rfl rfl ?_; (decide +kernel); (simp only [pk, List.drop_succ_cons, List.drop_zero, List.map_cons, List.map_nil, List.cons_append, List.nil_append]))
      | ((with_reducible apply ds_nilV2))
      | ((with_reducible apply ds_nilV1))
      | ((with_reducible apply ds_nilV))
      | ((with_reducible apply d4_nil); (decide +kernel))
      | (first | (refine d4_step [10] (by decide +kernel) rfl ?_) | (refine d4_step [11] (by decide +kernel) rfl ?_) | (refine d4_step [12] (by decide +kernel) rfl ?_) | (refine d4_step [10, 11] (by decide +kernel) rfl ?_) | (refine d4_step [10, 12] (by decide +kernel) rfl ?_) | (refine d4_step [11, 12] (by decide +kernel) rfl ?_) | (refine d4_step [10, 11, 12] (by decide +kernel) rfl ?_))
      | ((with_reducible refine List.forall_mem_cons.2 ⟨?_, ?_⟩))
      | ((with_reducible exact d4_none))
      | ((with_reducible apply d4_a); exact rfl; exact inferInstance; exact rfl)
      | ((with_reducible apply d4_pa); exact rfl; exact inferInstance; exact rfl; exact rfl; exact rfl; exact rfl; exact rfl; exact rfl; exact rfl; exact rfl)
      | ((with_reducible apply d4_p); exact rfl; exact inferInstance; exact rfl; exact rfl; exact rfl; exact rfl; exact rfl; exact rfl; exact rfl; exact rfl)
      | ((with_reducible apply d4_q); exact rfl; (simp only [pk, List.drop_succ_cons, List.drop_zero]))
      | ((with_reducible apply r_call); exact rfl; exact rfl; (first | exact cl | exact c0 | exact c1 | exact c2 | exact c3 | exact aw); exact rfl; exact rfl)
      | ((with_reducible apply aw_seq))
      | ((with_reducible apply aw_region))
      | ((with_reducible apply thn_normal))
      | ((with_reducible apply thn_ret))
      | ((with_reducible apply aw_skip))
      | ((with_reducible apply aw_ret))
      | ((with_reducible apply ao_nil))
      | ((with_reducible apply r_move); exact rfl; exact rfl)
      | ((with_reducible apply r_assign); exact rfl; exact rfl)
      | ((with_reducible apply r_field_p); exact rfl; exact rfl)
      | ((with_reducible apply r_load_pa); exact rfl; exact rfl; exact rfl; exact rfl; exact rfl)
      | ((with_reducible apply r_gtr); exact rfl; exact rfl; exact rfl)
      | ((with_reducible apply r_eql); exact rfl; exact rfl; exact rfl)
      | ((with_reducible apply r_neq); exact rfl; exact rfl; exact rfl)
      | ((with_reducible apply r_box_a); exact rfl; exact rfl)
      | ((with_reducible apply r_pick_t); exact rfl; exact rfl; exact rfl)
      | ((with_reducible apply r_pick_f); exact rfl; exact rfl; exact rfl)
      | ((with_reducible apply r_not); exact rfl; exact rfl)
      | ((with_reducible apply r_len_f); exact rfl; exact inferInstance; exact rfl)
      | ((with_reducible apply r_extract); exact rfl; exact rfl; exact rfl)
      | (((with_reducible apply r_guard); exact rfl; exact rfl; exact rfl; exact rfl) <;> intro hg <;> (first | (exact absurd hg (by decide)) | ((try simp only [decide_eq_true_eq, decide_eq_false_iff_not, Bool.not_eq_true', Bool.not_eq_false', Bool.not_true, Bool.not_false, Bool.not_not, Int.not_lt, Int.not_le, Nat.not_lt, Nat.not_le, gt_iff_lt, ge_iff_le, List.cons.injEq, and_true] at hg); first | (exact absurd trivial hg) | (exfalso; omega) | (have hT : True := hg; clear hT hg) | skip)))
      | (((with_reducible apply aw_cond); exact rfl) <;> intro hg <;> (first | (exact absurd hg (by decide)) | ((try simp only [decide_eq_true_eq, decide_eq_false_iff_not, Bool.not_eq_true', Bool.not_eq_false', Bool.not_true, Bool.not_false, Bool.not_not, Int.not_lt, Int.not_le, Nat.not_lt, Nat.not_le, gt_iff_lt, ge_iff_le, List.cons.injEq, and_true] at hg); first | (exact absurd trivial hg) | (exfalso; omega) | (have hT : True := hg; clear hT hg) | skip)))
      | ((with_reducible apply ds_nil))
      )
    all_goals first | exact ret_b rfl rfl | exact ret_b rfl (by simp) | trace_state
  rw [h] at c2
  change Con _ _ _ _ (.tup [.agg (Cu.lineL (lineOf p s u)), I 0]) at c2
  have c4 := Cu.cuts_con (gl := Cu.G) (lineOf p s u) l (by omega)
  rcases hc : Cu.cutsS (lineOf p s u) l with ⟨e, D, C⟩
  rw [hc] at c4
  change Con _ _ _ _ (.tup [Cu.LS D, Cu.LS C, I e]) at c4
  by_cases he : e = 0
  rotate_left
  · rw [lg_cut h hc he] at c3
    change Con _ _ _ _ (.tup [LStem [], I e]) at c3
    repeat' (first
      | ((with_reducible refine only4 ?_); refine aw_drawq ?_ ?_; (kernel_rfl))
      | (refine aw_drawV [1] [0, 1, 2, 3, 4, 5, 6, 7, 8] [9] 3 _ ?_ rfl rfl ?_; (decide +kernel); (simp only [pk, List.drop_succ_cons, List.drop_zero, List.map_cons, List.map_nil, List.cons_append, List.nil_append]))
      | ((with_reducible apply ds_nilV2))
      | ((with_reducible apply ds_nilV1))
      | ((with_reducible apply ds_nilV))
      | ((with_reducible apply d4_nil); (decide +kernel))
      | (first | (refine d4_step [10] (by decide +kernel) rfl ?_) | (refine d4_step [11] (by decide +kernel) rfl ?_) | (refine d4_step [12] (by decide +kernel) rfl ?_) | (refine d4_step [10, 11] (by decide +kernel) rfl ?_) | (refine d4_step [10, 12] (by decide +kernel) rfl ?_) | (refine d4_step [11, 12] (by decide +kernel) rfl ?_) | (refine d4_step [10, 11, 12] (by decide +kernel) rfl ?_))
      | ((with_reducible refine List.forall_mem_cons.2 ⟨?_, ?_⟩))
      | ((with_reducible exact d4_none))
      | ((with_reducible apply d4_a); exact rfl; exact inferInstance; exact rfl)
      | ((with_reducible apply d4_pa); exact rfl; exact inferInstance; exact rfl; exact rfl; exact rfl; exact rfl; exact rfl; exact rfl; exact rfl; exact rfl)
      | ((with_reducible apply d4_p); exact rfl; exact inferInstance; exact rfl; exact rfl; exact rfl; exact rfl; exact rfl; exact rfl; exact rfl; exact rfl)
      | ((with_reducible apply d4_q); exact rfl; (simp only [pk, List.drop_succ_cons, List.drop_zero]))
      | ((with_reducible apply r_call); exact rfl; exact rfl; (first | exact cl | exact c0 | exact c1 | exact c2 | exact c3 | exact aw); exact rfl; exact rfl)
      | ((with_reducible apply aw_seq))
      | ((with_reducible apply aw_region))
      | ((with_reducible apply thn_normal))
      | ((with_reducible apply thn_ret))
      | ((with_reducible apply aw_skip))
      | ((with_reducible apply aw_ret))
      | ((with_reducible apply ao_nil))
      | ((with_reducible apply r_move); exact rfl; exact rfl)
      | ((with_reducible apply r_assign); exact rfl; exact rfl)
      | ((with_reducible apply r_field_p); exact rfl; exact rfl)
      | ((with_reducible apply r_load_pa); exact rfl; exact rfl; exact rfl; exact rfl; exact rfl)
      | ((with_reducible apply r_gtr); exact rfl; exact rfl; exact rfl)
      | ((with_reducible apply r_eql); exact rfl; exact rfl; exact rfl)
      | ((with_reducible apply r_neq); exact rfl; exact rfl; exact rfl)
      | ((with_reducible apply r_box_a); exact rfl; exact rfl)
      | ((with_reducible apply r_pick_t); exact rfl; exact rfl; exact rfl)
      | ((with_reducible apply r_pick_f); exact rfl; exact rfl; exact rfl)
      | ((with_reducible apply r_not); exact rfl; exact rfl)
      | ((with_reducible apply r_len_f); exact rfl; exact inferInstance; exact rfl)
      | ((with_reducible apply r_extract); exact rfl; exact rfl; exact rfl)
      | (((with_reducible apply r_guard); exact rfl; exact rfl; exact rfl; exact rfl) <;> intro hg <;> (first | (exact absurd hg (by decide)) | ((try simp only [decide_eq_true_eq, decide_eq_false_iff_not, Bool.not_eq_true', Bool.not_eq_false', Bool.not_true, Bool.not_false, Bool.not_not, Int.not_lt, Int.not_le, Nat.not_lt, Nat.not_le, gt_iff_lt, ge_iff_le, List.cons.injEq, and_true] at hg); first | (exact absurd trivial hg) | (exfalso; omega) | (have hT : True := hg; clear hT hg) | skip)))
      | (((with_reducible apply aw_cond); exact rfl) <;> intro hg <;> (first | (exact absurd hg (by decide)) | ((try simp only [decide_eq_true_eq, decide_eq_false_iff_not, Bool.not_eq_true', Bool.not_eq_false', Bool.not_true, Bool.not_false, Bool.not_not, Int.not_lt, Int.not_le, Nat.not_lt, Nat.not_le, gt_iff_lt, ge_iff_le, List.cons.injEq, and_true] at hg); first | (exact absurd trivial hg) | (exfalso; omega) | (have hT : True := hg; clear hT hg) | skip)))
      | ((with_reducible apply ds_nil))
      )
    all_goals first | exact ret_b rfl rfl | exact ret_b rfl (by simp) | trace_state
  subst he
  rw [lg_ok h hc] at c3
  change Con _ _ _ _ (.tup [LStem (l.map (logOf p s)), I 0]) at c3
  have hsum := parts_vol ok hc
  obtain ⟨f1, f2, f3, f4⟩ := few_cut ok hc
  have hu := ok.pk.unit
  have hub := ok.ub
  have hone := logs_one ok (l := l)
  have hml : (l.map (logOf p s)).length = l.length := List.length_map ..
  obtain ⟨ls, els⟩ : ∃ ls, ls = l.map (logOf p s) := ⟨_, rfl⟩
  rw [← els] at c3 hsum hone hml
  have m0 := mul_fit (a := u) (by omega) hu
  have c5 := scut_con (gl := Cu.G) s.1 hl (u * p.unit, 20000)
  have c6 := svolume_con (gl := Cu.G) (cutS s.1 (u * p.unit, 20000)) (by have := cutS_len s.1 (u * p.unit, 20000); unfold maxLen; omega)
  have c7 := svolume_con (gl := Cu.G) s.1 hl
  have b0 := volS_bd (cutS s.1 (u * p.unit, 20000))
  obtain ⟨R, eR⟩ : ∃ R, R = volS (cutS s.1 (u * p.unit, 20000)) := ⟨_, rfl⟩
  rw [← eR] at c6 b0 hsum
  have ff : fits (u * p.unit) := by unfold fits; omega
  repeat' (first
    | (with_reducible refine aw_cut_at 3 ⟨182, [(1, .c (Cu.LP l)), (2, .ptr 0 0), (5, .ptr 1 0), (6, A 0)], [(0, some (.cells 31 (caseA p s))), (1, some (.cells 37 ((Cu.lineL (lineOf p s u)).map .c)))], 2, Cu.G⟩ ?_ ?_)
    | (with_reducible refine cutQ_normal (by refine weak_mk rfl ?_ ?_ <;> repeat (first | exact envW_nil | exact heapW_nil | refine envW_cons rfl rfl ?_ | refine heapW_cons rfl rfl rfl ?_)) rfl)
    | ((with_reducible refine only4 ?_); refine aw_drawq ?_ ?_; (kernel_rfl))
    | (refine aw_drawV [1] [0, 1, 2, 3, 4, 5, 6, 7, 8] [9] 3 _ ?_ rfl rfl ?_; (decide +kernel); (simp only [pk, List.drop_succ_cons, List.drop_zero, List.map_cons, List.map_nil, List.cons_append, List.nil_append]))
    | ((with_reducible apply ds_nilV2))
    | ((with_reducible apply ds_nilV1))
    | ((with_reducible apply ds_nilV))
    | ((with_reducible apply d4_nil); (decide +kernel))
    | (first | (refine d4_step [10] (by decide +kernel) rfl ?_) | (refine d4_step [11] (by decide +kernel) rfl ?_) | (refine d4_step [12] (by decide +kernel) rfl ?_) | (refine d4_step [10, 11] (by decide +kernel) rfl ?_) | (refine d4_step [10, 12] (by decide +kernel) rfl ?_) | (refine d4_step [11, 12] (by decide +kernel) rfl ?_) | (refine d4_step [10, 11, 12] (by decide +kernel) rfl ?_))
    | ((with_reducible refine List.forall_mem_cons.2 ⟨?_, ?_⟩))
    | ((with_reducible exact d4_none))
    | ((with_reducible apply d4_a); exact rfl; exact inferInstance; exact rfl)
    | ((with_reducible apply d4_pa); exact rfl; exact inferInstance; exact rfl; exact rfl; exact rfl; exact rfl; exact rfl; exact rfl; exact rfl; exact rfl)
    | ((with_reducible apply d4_p); exact rfl; exact inferInstance; exact rfl; exact rfl; exact rfl; exact rfl; exact rfl; exact rfl; exact rfl; exact rfl)
    | ((with_reducible apply d4_q); exact rfl; (simp only [pk, List.drop_succ_cons, List.drop_zero]))
    | ((with_reducible apply r_call); exact rfl; exact rfl; (first | exact cl | exact c0 | exact c1 | exact c2 | exact c3 | exact c4 | exact c5 | exact c6); exact rfl; exact rfl)
    | ((with_reducible apply aw_seq))
    | ((with_reducible apply aw_region))
    | ((with_reducible apply aw_block))
    | ((with_reducible apply thn_normal))
    | ((with_reducible apply aw_skip))
    | ((with_reducible apply ao_nil))
    | ((with_reducible apply r_move); exact rfl; exact rfl)
    | ((with_reducible apply r_assign); exact rfl; exact rfl)
    | ((with_reducible apply r_field_p); exact rfl; exact rfl)
    | ((with_reducible apply r_load_p); exact rfl; exact rfl; exact rfl; exact rfl)
    | ((with_reducible apply r_load_pa); exact rfl; exact rfl; exact rfl; exact rfl; exact rfl)
    | ((with_reducible apply r_gtr); exact rfl; exact rfl; exact rfl)
    | ((with_reducible apply r_neq); exact rfl; exact rfl; exact rfl)
    | ((with_reducible apply r_mul); exact rfl; exact rfl; exact (by first | assumption | (unfold fits; omega)); exact rfl)
    | ((with_reducible apply r_box_a); exact rfl; exact rfl)
    | ((with_reducible apply r_pick_f); exact rfl; exact rfl; exact rfl)
    | ((with_reducible apply r_not); exact rfl; exact rfl)
    | ((with_reducible apply r_len_f); exact rfl; exact inferInstance; exact rfl)
    | ((with_reducible apply r_build); exact rfl; exact rfl; exact rfl)
    | ((with_reducible apply r_extract); exact rfl; exact rfl; exact rfl)
    | (((with_reducible apply r_guard); exact rfl; exact rfl; exact rfl; exact rfl) <;> intro hg <;> (first | (exact absurd hg (by decide)) | ((try simp only [decide_eq_true_eq, decide_eq_false_iff_not, Bool.not_eq_true', Bool.not_eq_false', Bool.not_true, Bool.not_false, Bool.not_not, Int.not_lt, Int.not_le, Nat.not_lt, Nat.not_le, gt_iff_lt, ge_iff_le, List.cons.injEq, and_true] at hg); first | (exact absurd trivial hg) | (exfalso; omega) | (have hT : True := hg; clear hT hg) | skip)))
    | (((with_reducible apply aw_cond); exact rfl) <;> intro hg <;> (first | (exact absurd hg (by decide)) | ((try simp only [decide_eq_true_eq, decide_eq_false_iff_not, Bool.not_eq_true', Bool.not_eq_false', Bool.not_true, Bool.not_false, Bool.not_not, Int.not_lt, Int.not_le, Nat.not_lt, Nat.not_le, gt_iff_lt, ge_iff_le, List.cons.injEq, and_true] at hg); first | (exact absurd trivial hg) | (exfalso; omega) | (have hT : True := hg; clear hT hg) | skip)))
    | ((with_reducible apply ds_nil))
    )
  refine aw_loopG (G := Nat × Int) (fun ((j, t) : Nat × Int) => j ≤ ls.length ∧ t = R + lvS (ls.take j)) (fun ((j, t) : Nat × Int) => ls.length - j) (fun ((j, t) : Nat × Int) => [(2, .ptr 0 0), (7, .c (LStem ls)), (9, .c (Cu.LS D)), (10, .c (Cu.LS C)), (12, A t), (13, A j)]) (fun ((j, t) : Nat × Int) => [(0, some (.cells 31 (caseA p s)))]) 2 (0, R) ?_ (by refine weak_mk rfl ?_ ?_ <;> repeat (first | exact envW_nil | exact heapW_nil | refine envW_cons rfl rfl ?_ | refine heapW_cons rfl rfl rfl ?_)) rfl ?_
  · exact ⟨Nat.zero_le _, by show R = R + 0; omega⟩
  rintro ⟨j, t⟩ hI
  try dsimp only at hI
  try dsimp only
  obtain ⟨hj, ht⟩ := hI
  have hlb := lvS_bd ls j
  by_cases hjl : j < ls.length
  · have hv := svolume_con (gl := Cu.G) ls[j].1 (hone _ (List.getElem_mem hjl)).1
    have hvb := volS_bd ls[j].1
    have hst := lvS_succ ls j hjl
    obtain ⟨g, eg⟩ : ∃ g, g = volS ls[j].1 := ⟨_, rfl⟩
    rw [← eg] at hv hvb hst
    repeat' (first
      | ((with_reducible apply r_call); exact rfl; exact rfl; exact hv; exact rfl; exact rfl)
      | ((with_reducible apply aw_seq))
      | ((with_reducible apply aw_region))
      | ((with_reducible apply aw_block))
      | ((with_reducible apply thn_normal))
      | ((with_reducible apply inb_normal))
      | ((with_reducible apply aw_skip))
      | ((with_reducible apply ao_nil))
      | ((with_reducible apply r_move); exact rfl; exact rfl)
      | ((with_reducible apply r_assign); exact rfl; exact rfl)
      | ((with_reducible apply r_lss); exact rfl; exact rfl; exact rfl)
      | ((with_reducible apply r_add); exact rfl; exact rfl; exact (by first | assumption | (unfold fits; omega)); exact rfl)
      | ((with_reducible apply r_len_f); exact rfl; exact inferInstance; exact rfl)
      | ((with_reducible apply r_index_f); exact rfl; exact inferInstance; exact rfl; exact rfl; (first | assumption | omega); exact rfl)
      | ((with_reducible apply r_load_f0); exact rfl; exact inferInstance; exact List.getElem?_eq_getElem (by first | assumption | omega); exact rfl; exact rfl)
      | ((with_reducible apply r_field_e); exact rfl; exact rfl)
      | (((with_reducible apply aw_cond); exact rfl) <;> intro hg <;> (first | (exact absurd hg (by decide)) | ((try simp only [decide_eq_true_eq, decide_eq_false_iff_not, Bool.not_eq_true', Bool.not_eq_false', Bool.not_true, Bool.not_false, Bool.not_not, Int.not_lt, Int.not_le, Nat.not_lt, Nat.not_le, gt_iff_lt, ge_iff_le, List.cons.injEq, and_true] at hg); first | (exact absurd trivial hg) | (exfalso; omega) | (have hT : True := hg; clear hT hg) | skip)))
      )
    refine ⟨(j + 1, t + g), ?_, ?_, by refine weak_mk rfl ?_ ?_ <;> repeat (first | exact envW_nil | exact heapW_nil | refine envW_cons rfl rfl ?_ | refine heapW_cons rfl rfl rfl ?_)⟩
    · show _ - (j + 1) < _ - j; omega
    · exact ⟨by show j + 1 ≤ _; omega, by show t + g = R + lvS (ls.take (j + 1)); omega⟩
  obtain rfl : j = ls.length := by omega
  rw [List.take_length] at ht hlb
  repeat' (first
    | ((with_reducible apply aw_seq))
    | ((with_reducible apply aw_region))
    | ((with_reducible apply aw_block))
    | ((with_reducible apply thn_normal))
    | ((with_reducible apply thn_exit))
    | ((with_reducible apply inb_exit))
    | ((with_reducible apply aw_exit))
    | ((with_reducible apply ao_nil))
    | ((with_reducible apply r_move); exact rfl; exact rfl)
    | ((with_reducible apply r_assign); exact rfl; exact rfl)
    | ((with_reducible apply r_lss); exact rfl; exact rfl; exact rfl)
    | ((with_reducible apply r_len_f); exact rfl; exact inferInstance; exact rfl)
    | (((with_reducible apply aw_cond); exact rfl) <;> intro hg <;> (first | (exact absurd hg (by decide)) | ((try simp only [decide_eq_true_eq, decide_eq_false_iff_not, Bool.not_eq_true', Bool.not_eq_false', Bool.not_true, Bool.not_false, Bool.not_not, Int.not_lt, Int.not_le, Nat.not_lt, Nat.not_le, gt_iff_lt, ge_iff_le, List.cons.injEq, and_true] at hg); first | (exact absurd trivial hg) | (exfalso; omega) | (have hT : True := hg; clear hT hg) | skip)))
    )
  refine aw_loopG (G := Nat × Int) (fun ((j, t2) : Nat × Int) => j ≤ D.length ∧ t2 = t + svS s.1 p.unit (D.take j)) (fun ((j, t2) : Nat × Int) => D.length - j) (fun ((j, t2) : Nat × Int) => [(2, .ptr 0 0), (9, .c (Cu.LS D)), (10, .c (Cu.LS C)), (12, A t2), (14, A j)]) (fun ((j, t2) : Nat × Int) => [(0, some (.cells 31 (caseA p s)))]) 2 (0, t) ?_ (by refine weak_mk rfl ?_ ?_ <;> repeat (first | exact envW_nil | exact heapW_nil | refine envW_cons rfl rfl ?_ | refine heapW_cons rfl rfl rfl ?_)) rfl ?_
  · exact ⟨Nat.zero_le _, by show t = t + 0; omega⟩
  rintro ⟨j, t2⟩ hI
  try dsimp only at hI
  try dsimp only
  obtain ⟨hj, ht2⟩ := hI
  have hsb := svS_bd s.1 p.unit D j
  by_cases hjl : j < D.length
  · have hb := f3 j hjl
    have m1 := mul_fit (a := D[j].1) (by omega) hu
    have m2 := mul_fit (a := D[j].2) (by omega) hu
    have g1 : fits (D[j].1 * p.unit) := by unfold fits; omega
    have g2 : fits (D[j].2 * p.unit) := by unfold fits; omega
    have hcu := scut_con (gl := Cu.G) s.1 hl (D[j].1 * p.unit, D[j].2 * p.unit)
    have hv := svolume_con (gl := Cu.G) (cutS s.1 (D[j].1 * p.unit, D[j].2 * p.unit)) (by have := cutS_len s.1 (D[j].1 * p.unit, D[j].2 * p.unit); unfold maxLen; omega)
    have hvb := volS_bd (cutS s.1 (D[j].1 * p.unit, D[j].2 * p.unit))
    have hst := svS_succ s.1 p.unit D j hjl
    obtain ⟨g, eg⟩ : ∃ g, g = volS (cutS s.1 (D[j].1 * p.unit, D[j].2 * p.unit)) := ⟨_, rfl⟩
    rw [← eg] at hv hvb hst
    repeat' (first
      | ((with_reducible apply r_call); exact rfl; exact rfl; (first | exact hcu | exact hv); exact rfl; exact rfl)
      | ((with_reducible apply aw_seq))
      | ((with_reducible apply aw_region))
      | ((with_reducible apply aw_block))
      | ((with_reducible apply thn_normal))
      | ((with_reducible apply inb_normal))
      | ((with_reducible apply aw_skip))
      | ((with_reducible apply ao_nil))
      | ((with_reducible apply r_move); exact rfl; exact rfl)
      | ((with_reducible apply r_assign); exact rfl; exact rfl)
      | ((with_reducible apply r_field_p); exact rfl; exact rfl)
      | ((with_reducible apply r_load_p); exact rfl; exact rfl; exact rfl; exact rfl)
      | ((with_reducible apply r_lss); exact rfl; exact rfl; exact rfl)
      | ((with_reducible apply r_add); exact rfl; exact rfl; exact (by first | assumption | (unfold fits; omega)); exact rfl)
      | ((with_reducible apply r_mul); exact rfl; exact rfl; exact (by first | assumption | (unfold fits; omega)); exact rfl)
      | ((with_reducible apply r_len_f); exact rfl; exact inferInstance; exact rfl)
      | ((with_reducible apply r_index_f); exact rfl; exact inferInstance; exact rfl; exact rfl; (first | assumption | omega); exact rfl)
      | ((with_reducible apply r_load_f0); exact rfl; exact inferInstance; exact List.getElem?_eq_getElem (by first | assumption | omega); exact rfl; exact rfl)
      | ((with_reducible apply r_load_f); exact rfl; exact inferInstance; exact List.getElem?_eq_getElem (by first | assumption | omega); exact rfl; exact rfl; exact rfl)
      | ((with_reducible apply r_field_e); exact rfl; exact rfl)
      | ((with_reducible apply r_build); exact rfl; exact rfl; exact rfl)
      | (((with_reducible apply aw_cond); exact rfl) <;> intro hg <;> (first | (exact absurd hg (by decide)) | ((try simp only [decide_eq_true_eq, decide_eq_false_iff_not, Bool.not_eq_true', Bool.not_eq_false', Bool.not_true, Bool.not_false, Bool.not_not, Int.not_lt, Int.not_le, Nat.not_lt, Nat.not_le, gt_iff_lt, ge_iff_le, List.cons.injEq, and_true] at hg); first | (exact absurd trivial hg) | (exfalso; omega) | (have hT : True := hg; clear hT hg) | skip)))
      | (refine aw_drawq ?_ ?_; (kernel_rfl))
      | ((with_reducible apply ds_nil))
      )
    refine ⟨(j + 1, t2 + g), ?_, ?_, by refine weak_mk rfl ?_ ?_ <;> repeat (first | exact envW_nil | exact heapW_nil | refine envW_cons rfl rfl ?_ | refine heapW_cons rfl rfl rfl ?_)⟩
    · show _ - (j + 1) < _ - j; omega
    · exact ⟨by show j + 1 ≤ _; omega, by show t2 + g = t + svS s.1 p.unit (D.take (j + 1)); omega⟩
  obtain rfl : j = D.length := by omega
  rw [List.take_length] at ht2 hsb
  repeat' (first
    | ((with_reducible apply aw_seq))
    | ((with_reducible apply aw_region))
    | ((with_reducible apply aw_block))
    | ((with_reducible apply thn_normal))
    | ((with_reducible apply thn_exit))
    | ((with_reducible apply inb_exit))
    | ((with_reducible apply aw_exit))
    | ((with_reducible apply ao_nil))
    | ((with_reducible apply r_move); exact rfl; exact rfl)
    | ((with_reducible apply r_assign); exact rfl; exact rfl)
    | ((with_reducible apply r_lss); exact rfl; exact rfl; exact rfl)
    | ((with_reducible apply r_len_f); exact rfl; exact inferInstance; exact rfl)
    | (((with_reducible apply aw_cond); exact rfl) <;> intro hg <;> (first | (exact absurd hg (by decide)) | ((try simp only [decide_eq_true_eq, decide_eq_false_iff_not, Bool.not_eq_true', Bool.not_eq_false', Bool.not_true, Bool.not_false, Bool.not_not, Int.not_lt, Int.not_le, Nat.not_lt, Nat.not_le, gt_iff_lt, ge_iff_le, List.cons.injEq, and_true] at hg); first | (exact absurd trivial hg) | (exfalso; omega) | (have hT : True := hg; clear hT hg) | skip)))
    )
  refine aw_loopG (G := Nat × Int) (fun ((j, t3) : Nat × Int) => j ≤ C.length ∧ t3 = t2 + svS s.1 p.unit (C.take j)) (fun ((j, t3) : Nat × Int) => C.length - j) (fun ((j, t3) : Nat × Int) => [(2, .ptr 0 0), (10, .c (Cu.LS C)), (12, A t3), (15, A j)]) (fun ((j, t3) : Nat × Int) => [(0, some (.cells 31 (caseA p s)))]) 2 (0, t2) ?_ (by refine weak_mk rfl ?_ ?_ <;> repeat (first | exact envW_nil | exact heapW_nil | refine envW_cons rfl rfl ?_ | refine heapW_cons rfl rfl rfl ?_)) rfl ?_
  · exact ⟨Nat.zero_le _, by show t2 = t2 + 0; omega⟩
  rintro ⟨j, t3⟩ hI
  try dsimp only at hI
  try dsimp only
  obtain ⟨hj, ht3⟩ := hI
  have hcb := svS_bd s.1 p.unit C j
  by_cases hjl : j < C.length
  · have hb := f4 j hjl
    have m1 := mul_fit (a := C[j].1) (by omega) hu
    have m2 := mul_fit (a := C[j].2) (by omega) hu
    have g1 : fits (C[j].1 * p.unit) := by unfold fits; omega
    have g2 : fits (C[j].2 * p.unit) := by unfold fits; omega
    have hcu := scut_con (gl := Cu.G) s.1 hl (C[j].1 * p.unit, C[j].2 * p.unit)
    have hv := svolume_con (gl := Cu.G) (cutS s.1 (C[j].1 * p.unit, C[j].2 * p.unit)) (by have := cutS_len s.1 (C[j].1 * p.unit, C[j].2 * p.unit); unfold maxLen; omega)
    have hvb := volS_bd (cutS s.1 (C[j].1 * p.unit, C[j].2 * p.unit))
    have hst := svS_succ s.1 p.unit C j hjl
    obtain ⟨g, eg⟩ : ∃ g, g = volS (cutS s.1 (C[j].1 * p.unit, C[j].2 * p.unit)) := ⟨_, rfl⟩
    rw [← eg] at hv hvb hst
    repeat' (first
      | ((with_reducible apply r_call); exact rfl; exact rfl; (first | exact hcu | exact hv); exact rfl; exact rfl)
      | ((with_reducible apply aw_seq))
      | ((with_reducible apply aw_region))
      | ((with_reducible apply aw_block))
      | ((with_reducible apply thn_normal))
      | ((with_reducible apply inb_normal))
      | ((with_reducible apply aw_skip))
      | ((with_reducible apply ao_nil))
      | ((with_reducible apply r_move); exact rfl; exact rfl)
      | ((with_reducible apply r_assign); exact rfl; exact rfl)
      | ((with_reducible apply r_field_p); exact rfl; exact rfl)
      | ((with_reducible apply r_load_p); exact rfl; exact rfl; exact rfl; exact rfl)
      | ((with_reducible apply r_lss); exact rfl; exact rfl; exact rfl)
      | ((with_reducible apply r_add); exact rfl; exact rfl; exact (by first | assumption | (unfold fits; omega)); exact rfl)
      | ((with_reducible apply r_mul); exact rfl; exact rfl; exact (by first | assumption | (unfold fits; omega)); exact rfl)
      | ((with_reducible apply r_len_f); exact rfl; exact inferInstance; exact rfl)
      | ((with_reducible apply r_index_f); exact rfl; exact inferInstance; exact rfl; exact rfl; (first | assumption | omega); exact rfl)
      | ((with_reducible apply r_load_f0); exact rfl; exact inferInstance; exact List.getElem?_eq_getElem (by first | assumption | omega); exact rfl; exact rfl)
      | ((with_reducible apply r_load_f); exact rfl; exact inferInstance; exact List.getElem?_eq_getElem (by first | assumption | omega); exact rfl; exact rfl; exact rfl)
      | ((with_reducible apply r_field_e); exact rfl; exact rfl)
      | ((with_reducible apply r_build); exact rfl; exact rfl; exact rfl)
      | (((with_reducible apply aw_cond); exact rfl) <;> intro hg <;> (first | (exact absurd hg (by decide)) | ((try simp only [decide_eq_true_eq, decide_eq_false_iff_not, Bool.not_eq_true', Bool.not_eq_false', Bool.not_true, Bool.not_false, Bool.not_not, Int.not_lt, Int.not_le, Nat.not_lt, Nat.not_le, gt_iff_lt, ge_iff_le, List.cons.injEq, and_true] at hg); first | (exact absurd trivial hg) | (exfalso; omega) | (have hT : True := hg; clear hT hg) | skip)))
      | (refine aw_drawq ?_ ?_; (kernel_rfl))
      | ((with_reducible apply ds_nil))
      )
    refine ⟨(j + 1, t3 + g), ?_, ?_, by refine weak_mk rfl ?_ ?_ <;> repeat (first | exact envW_nil | exact heapW_nil | refine envW_cons rfl rfl ?_ | refine heapW_cons rfl rfl rfl ?_)⟩
    · show _ - (j + 1) < _ - j; omega
    · exact ⟨by show j + 1 ≤ _; omega, by show t3 + g = t2 + svS s.1 p.unit (C.take (j + 1)); omega⟩
  obtain rfl : j = C.length := by omega
  rw [List.take_length] at ht3 hcb
  have hfin : t3 = volS s.1 := by omega
  repeat' (first
    | ((with_reducible apply r_call); exact rfl; exact rfl; (first | exact c7 | exact aw); exact rfl; exact rfl)
    | ((with_reducible apply aw_seq))
    | ((with_reducible apply aw_region))
    | ((with_reducible apply thn_normal))
    | ((with_reducible apply thn_exit))
    | ((with_reducible apply inb_exit))
    | ((with_reducible apply aw_exit))
    | ((with_reducible apply aw_ret))
    | ((with_reducible apply ao_nil))
    | ((with_reducible apply r_move); exact rfl; exact rfl)
    | ((with_reducible apply r_assign); exact rfl; exact rfl)
    | ((with_reducible apply r_field_p); exact rfl; exact rfl)
    | ((with_reducible apply r_load_p); exact rfl; exact rfl; exact rfl; exact rfl)
    | ((with_reducible apply r_lss); exact rfl; exact rfl; exact rfl)
    | ((with_reducible apply r_eql); exact rfl; exact rfl; exact rfl)
    | ((with_reducible apply r_pick_t); exact rfl; exact rfl; exact rfl)
    | ((with_reducible apply r_len_f); exact rfl; exact inferInstance; exact rfl)
    | (((with_reducible apply r_guard); exact rfl; exact rfl; exact rfl; exact rfl) <;> intro hg <;> (first | (exact absurd hg (by decide)) | ((try simp only [decide_eq_true_eq, decide_eq_false_iff_not, Bool.not_eq_true', Bool.not_eq_false', Bool.not_true, Bool.not_false, Bool.not_not, Int.not_lt, Int.not_le, Nat.not_lt, Nat.not_le, gt_iff_lt, ge_iff_le, List.cons.injEq, and_true] at hg); first | (exact absurd trivial hg) | (exfalso; omega) | (have hT : True := hg; clear hT hg) | skip)))
    | (((with_reducible apply aw_cond); exact rfl) <;> intro hg <;> (first | (exact absurd hg (by decide)) | ((try simp only [decide_eq_true_eq, decide_eq_false_iff_not, Bool.not_eq_true', Bool.not_eq_false', Bool.not_true, Bool.not_false, Bool.not_not, Int.not_lt, Int.not_le, Nat.not_lt, Nat.not_le, gt_iff_lt, ge_iff_le, List.cons.injEq, and_true] at hg); first | (exact absurd trivial hg) | (exfalso; omega) | (have hT : True := hg; clear hT hg) | skip)))
    )
  all_goals first | exact ret_b rfl rfl | exact ret_b rfl (by simp) | trace_state
end Go.Proofs.YtkhljpbkebnnmaaDoor.Bu
