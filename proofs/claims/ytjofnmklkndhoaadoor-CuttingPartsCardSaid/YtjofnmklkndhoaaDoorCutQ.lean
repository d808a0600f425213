/- Walks of the laws on cutting: few, short, uniform, awake. -/
import Derived.Test.YtjofnmklkndhoaaDoorCutN
import Derived.Test.YtjofnmklkndhoaaDoorCutP
namespace Go.Proofs.YtjofnmklkndhoaaDoor.Cu
set_option linter.unusedVariables false
set_option linter.unusedSimpArgs false
open Go.RowKit Go.Proofs.YtjofnmklkndhoaaDoor.Ev

def rowsN (g : List (List Int)) : Nat := (g.map List.length).sum
def rowB (r : List Int) : Bool := decide (r.length ≤ 2100)
def fewS (l : Line) : Bool := decide (l.sizes.length ≤ 40 ∧ l.gain.length ≤ 40 ∧ l.chip.length ≤ 2100 ∧ l.dust.length ≤ 2100) && l.gain.all rowB && decide (rowsN l.gain ≤ 20000)
theorem few_head {l : Line} (h : ¬ (l.sizes.length ≤ 40 ∧ l.gain.length ≤ 40 ∧ l.chip.length ≤ 2100 ∧ l.dust.length ≤ 2100)) : false = fewS l := by unfold fewS; rw [decide_eq_false h]; rfl
theorem few_row {l : Line} (h : l.gain.all rowB = false) : false = fewS l := by unfold fewS; rw [h, Bool.and_false]; rfl
theorem few_end {l : Line} (h : l.sizes.length ≤ 40 ∧ l.gain.length ≤ 40 ∧ l.chip.length ≤ 2100 ∧ l.dust.length ≤ 2100) (h2 : l.gain.all rowB = true) : decide (rowsN l.gain ≤ 20000) = fewS l := by unfold fewS; rw [decide_eq_true h, h2]; rfl
theorem few_out {l : Line} (h : fewS l = true) : l.sizes.length ≤ 40 ∧ l.gain.length ≤ 40 ∧ l.chip.length ≤ 2100 ∧ l.dust.length ≤ 2100 := by
  unfold fewS at h; simp only [Bool.and_eq_true, decide_eq_true_eq] at h; exact h.1.1
theorem few_rows {l : Line} (h : fewS l = true) : ∀ i (h : i < l.gain.length), l.gain[i].length ≤ 2100 := by
  unfold fewS at h; simp only [Bool.and_eq_true, decide_eq_true_eq] at h
  intro i hi
  have := List.all_eq_true.1 h.1.2 _ (List.getElem_mem hi)
  unfold rowB at this; simpa using this
theorem rowsN_take {g : List (List Int)} {j : Nat} (h : j < g.length) : rowsN (g.take (j + 1)) = rowsN (g.take j) + g[j].length := by
  unfold rowsN
  rw [List.take_add_one, List.getElem?_eq_getElem h]
  simp only [Option.toList_some, List.map_append, List.map_cons, List.map_nil, List.sum_append, List.sum_cons, List.sum_nil, Nat.add_zero]
variable {gl : List (Nat × List CV)}
set_option maxRecDepth 100000 in
set_option maxHeartbeats 4000000 in
theorem few_con (l : Line) (hN : l.gain.length ≤ maxLen) : Con Tryd.prog gl 11 [lineC l] (.v (.bool (fewS l))) := by
  refine con_of Tryd.func11 rfl (by kernel_rfl) rfl ?_
  simp only [Tryd.ntmps11, Tryd.results11, argEnv, ofC, of1, List.map, lineC, lineL]
  by_cases hh : l.sizes.length ≤ 40 ∧ l.gain.length ≤ 40 ∧ l.chip.length ≤ 2100 ∧ l.dust.length ≤ 2100
  rotate_left
  · skip
    repeat' (first
      | ((with_reducible apply aw_seq))
      | ((with_reducible apply aw_region))
      | ((with_reducible apply thn_normal))
      | ((with_reducible apply thn_ret))
      | ((with_reducible apply aw_ret))
      | ((with_reducible apply ao_nil))
      | ((with_reducible apply r_move); exact rfl; exact rfl)
      | ((with_reducible apply r_assign); exact rfl; exact rfl)
      | ((with_reducible apply r_field_p); exact rfl; exact rfl)
      | ((with_reducible apply r_load_p); exact rfl; exact rfl; exact rfl; exact rfl)
      | ((with_reducible apply r_gtr); exact rfl; exact rfl; exact rfl)
      | ((with_reducible apply r_box_a); exact rfl; exact rfl)
      | ((with_reducible apply r_pick_t); exact rfl; exact rfl; exact rfl)
      | ((with_reducible apply r_pick_f); exact rfl; exact rfl; exact rfl)
      | ((with_reducible apply r_len_f); exact rfl; exact inferInstance; exact rfl)
      | (((with_reducible apply r_guard); exact rfl; exact rfl; exact rfl; exact rfl) <;> intro hg <;> (first | (exact absurd hg (by decide)) | ((try simp only [decide_eq_true_eq, decide_eq_false_iff_not, Bool.not_eq_true', Bool.not_eq_false', Bool.not_true, Bool.not_false, Bool.not_not, Int.not_lt, Int.not_le, Nat.not_lt, Nat.not_le, gt_iff_lt, ge_iff_le, List.cons.injEq, and_true] at hg); first | (exact absurd trivial hg) | (exfalso; omega) | (have hT : True := hg; clear hT hg) | skip)))
      | (((with_reducible apply aw_cond); exact rfl) <;> intro hg <;> (first | (exact absurd hg (by decide)) | ((try simp only [decide_eq_true_eq, decide_eq_false_iff_not, Bool.not_eq_true', Bool.not_eq_false', Bool.not_true, Bool.not_false, Bool.not_not, Int.not_lt, Int.not_le, Nat.not_lt, Nat.not_le, gt_iff_lt, ge_iff_le, List.cons.injEq, and_true] at hg); first | (exact absurd trivial hg) | (exfalso; omega) | (have hT : True := hg; clear hT hg) | skip)))
      )
    all_goals exact ret_b rfl (few_head hh)
  repeat' (first
    | ((with_reducible apply aw_seq))
    | ((with_reducible apply aw_region))
    | ((with_reducible apply aw_block))
    | ((with_reducible apply thn_normal))
    | ((with_reducible apply aw_skip))
    | ((with_reducible apply ao_nil))
    | ((with_reducible apply r_move); exact rfl; exact rfl)
    | ((with_reducible apply r_assign); exact rfl; exact rfl)
    | ((with_reducible apply r_field_p); exact rfl; exact rfl)
    | ((with_reducible apply r_load_p); exact rfl; exact rfl; exact rfl; exact rfl)
    | ((with_reducible apply r_gtr); exact rfl; exact rfl; exact rfl)
    | ((with_reducible apply r_box_a); exact rfl; exact rfl)
    | ((with_reducible apply r_pick_f); exact rfl; exact rfl; exact rfl)
    | ((with_reducible apply r_len_f); exact rfl; exact inferInstance; exact rfl)
    | (((with_reducible apply r_guard); exact rfl; exact rfl; exact rfl; exact rfl) <;> intro hg <;> (first | (exact absurd hg (by decide)) | ((try simp only [decide_eq_true_eq, decide_eq_false_iff_not, Bool.not_eq_true', Bool.not_eq_false', Bool.not_true, Bool.not_false, Bool.not_not, Int.not_lt, Int.not_le, Nat.not_lt, Nat.not_le, gt_iff_lt, ge_iff_le, List.cons.injEq, and_true] at hg); first | (exact absurd trivial hg) | (exfalso; omega) | (have hT : True := hg; clear hT hg) | skip)))
    | (((with_reducible apply aw_cond); exact rfl) <;> intro hg <;> (first | (exact absurd hg (by decide)) | ((try simp only [decide_eq_true_eq, decide_eq_false_iff_not, Bool.not_eq_true', Bool.not_eq_false', Bool.not_true, Bool.not_false, Bool.not_not, Int.not_lt, Int.not_le, Nat.not_lt, Nat.not_le, gt_iff_lt, ge_iff_le, List.cons.injEq, and_true] at hg); first | (exact absurd trivial hg) | (exfalso; omega) | (have hT : True := hg; clear hT hg) | skip)))
    )
  refine aw_loopG (G := Nat × Int) (fun ((j, t) : Nat × Int) => j ≤ l.gain.length ∧ t = rowsN (l.gain.take j) ∧ t ≤ 2100 * j ∧ 0 ≤ t ∧ ∀ i (h : i < l.gain.length), i < j → rowB l.gain[i] = true) (fun ((j, t) : Nat × Int) => l.gain.length - j) (fun ((j, t) : Nat × Int) => [(1, .ptr 0 0), (3, A t), (4, A j)]) (fun ((j, t) : Nat × Int) => [(0, some (lineB l))]) 1 (0, 0) ?_ (by refine weak_mk rfl ?_ ?_ <;> repeat (first | exact envW_nil | exact heapW_nil | refine envW_cons rfl rfl ?_ | refine heapW_cons rfl rfl rfl ?_)) rfl ?_
  · exact ⟨Nat.zero_le _, rfl, by decide, by decide, fun _ _ h => absurd h (Nat.not_lt_zero _)⟩
  rintro ⟨j, t⟩ hI
  try dsimp only at hI
  try dsimp only
  obtain ⟨hj, ht, ht2, ht3, hall⟩ := hI
  by_cases hjl : j < l.gain.length
  · by_cases hr : l.gain[j].length ≤ 2100
    · skip
      repeat' (first
        | ((with_reducible apply aw_seq))
        | ((with_reducible apply aw_region))
        | ((with_reducible apply aw_block))
        | ((with_reducible apply thn_normal))
        | ((with_reducible apply inb_normal))
        | ((with_reducible apply aw_skip))
        | ((with_reducible apply ao_nil))
        | ((with_reducible apply r_move); exact rfl; exact rfl)
        | ((with_reducible apply r_assign); exact rfl; exact rfl)
        | ((with_reducible apply r_field_p); exact rfl; exact rfl)
        | ((with_reducible apply r_load_p); exact rfl; exact rfl; exact rfl; exact rfl)
        | ((with_reducible apply r_lss); exact rfl; exact rfl; exact rfl)
        | ((with_reducible apply r_gtr); exact rfl; exact rfl; exact rfl)
        | ((with_reducible apply r_add); exact rfl; exact rfl; exact (by first | assumption | (unfold fits; omega)); exact rfl)
        | ((with_reducible apply r_len_f); exact rfl; exact inferInstance; exact rfl)
        | ((with_reducible apply r_index_f); exact rfl; exact inferInstance; exact rfl; exact rfl; (first | assumption | omega); exact rfl)
        | ((with_reducible apply r_load_f0); exact rfl; exact inferInstance; exact List.getElem?_eq_getElem (by first | assumption | omega); exact rfl; exact rfl)
        | (((with_reducible apply aw_cond); exact rfl) <;> intro hg <;> (first | (exact absurd hg (by decide)) | ((try simp only [decide_eq_true_eq, decide_eq_false_iff_not, Bool.not_eq_true', Bool.not_eq_false', Bool.not_true, Bool.not_false, Bool.not_not, Int.not_lt, Int.not_le, Nat.not_lt, Nat.not_le, gt_iff_lt, ge_iff_le, List.cons.injEq, and_true] at hg); first | (exact absurd trivial hg) | (exfalso; omega) | (have hT : True := hg; clear hT hg) | skip)))
        )
      refine ⟨(j + 1, t + l.gain[j].length), ?_, ?_, by refine weak_mk rfl ?_ ?_ <;> repeat (first | exact envW_nil | exact heapW_nil | refine envW_cons rfl rfl ?_ | refine heapW_cons rfl rfl rfl ?_)⟩
      · show _ - (j + 1) < _ - j; omega
      · refine ⟨by show j + 1 ≤ _; omega, ?_, by show t + _ ≤ 2100 * ((j + 1 : Nat) : Int); omega, by show 0 ≤ t + _; omega, step_all hjl hall (by unfold rowB; simp [hr])⟩
        show t + _ = _
        rw [rowsN_take hjl, ht]; simp
    · skip
      repeat' (first
        | ((with_reducible apply aw_seq))
        | ((with_reducible apply aw_region))
        | ((with_reducible apply aw_block))
        | ((with_reducible apply thn_normal))
        | ((with_reducible apply thn_ret))
        | ((with_reducible apply inb_ret))
        | ((with_reducible apply aw_skip))
        | ((with_reducible apply aw_ret))
        | ((with_reducible apply ao_nil))
        | ((with_reducible apply r_move); exact rfl; exact rfl)
        | ((with_reducible apply r_assign); exact rfl; exact rfl)
        | ((with_reducible apply r_field_p); exact rfl; exact rfl)
        | ((with_reducible apply r_load_p); exact rfl; exact rfl; exact rfl; exact rfl)
        | ((with_reducible apply r_lss); exact rfl; exact rfl; exact rfl)
        | ((with_reducible apply r_gtr); exact rfl; exact rfl; exact rfl)
        | ((with_reducible apply r_len_f); exact rfl; exact inferInstance; exact rfl)
        | ((with_reducible apply r_index_f); exact rfl; exact inferInstance; exact rfl; exact rfl; (first | assumption | omega); exact rfl)
        | ((with_reducible apply r_load_f0); exact rfl; exact inferInstance; exact List.getElem?_eq_getElem (by first | assumption | omega); exact rfl; exact rfl)
        | (((with_reducible apply aw_cond); exact rfl) <;> intro hg <;> (first | (exact absurd hg (by decide)) | ((try simp only [decide_eq_true_eq, decide_eq_false_iff_not, Bool.not_eq_true', Bool.not_eq_false', Bool.not_true, Bool.not_false, Bool.not_not, Int.not_lt, Int.not_le, Nat.not_lt, Nat.not_le, gt_iff_lt, ge_iff_le, List.cons.injEq, and_true] at hg); first | (exact absurd trivial hg) | (exfalso; omega) | (have hT : True := hg; clear hT hg) | skip)))
        )
      exact ret_b rfl (few_row (all_not hjl (by unfold rowB; simp; omega)))
  · obtain rfl : j = l.gain.length := by omega
    rw [List.take_length] at ht
    repeat' (first
      | ((with_reducible apply aw_seq))
      | ((with_reducible apply aw_region))
      | ((with_reducible apply thn_normal))
      | ((with_reducible apply thn_exit))
      | ((with_reducible apply inb_exit))
      | ((with_reducible apply aw_exit))
      | ((with_reducible apply aw_ret))
      | ((with_reducible apply ao_nil))
      | ((with_reducible apply r_move); exact rfl; exact rfl)
      | ((with_reducible apply r_assign); exact rfl; exact rfl)
      | ((with_reducible apply r_field_p); exact rfl; exact rfl)
      | ((with_reducible apply r_load_p); exact rfl; exact rfl; exact rfl; exact rfl)
      | ((with_reducible apply r_lss); exact rfl; exact rfl; exact rfl)
      | ((with_reducible apply r_leq); exact rfl; exact rfl; exact rfl)
      | ((with_reducible apply r_len_f); exact rfl; exact inferInstance; exact rfl)
      | (((with_reducible apply aw_cond); exact rfl) <;> intro hg <;> (first | (exact absurd hg (by decide)) | ((try simp only [decide_eq_true_eq, decide_eq_false_iff_not, Bool.not_eq_true', Bool.not_eq_false', Bool.not_true, Bool.not_false, Bool.not_not, Int.not_lt, Int.not_le, Nat.not_lt, Nat.not_le, gt_iff_lt, ge_iff_le, List.cons.injEq, and_true] at hg); first | (exact absurd trivial hg) | (exfalso; omega) | (have hT : True := hg; clear hT hg) | skip)))
      )
    refine ret_b rfl ((Eq.symm ?_).trans (few_end hh (all_of (fun i hi => hall i hi hi))))
    rw [ht]
    exact decide_eq_decide.2 (by omega)
def shortS (l : Line) : Bool := fewS l && (decide (l.len ≤ 120) && decide (l.sizes.length ≤ 8))
set_option maxRecDepth 100000 in
set_option maxHeartbeats 4000000 in
theorem short_con (l : Line) (hN : l.gain.length ≤ maxLen) : Con Tryd.prog gl 20 [lineC l] (.v (.bool (shortS l))) := by
  refine con_of Tryd.func20 rfl (by kernel_rfl) rfl ?_
  simp only [Tryd.ntmps20, Tryd.results20, argEnv, ofC, of1, List.map, lineC, lineL]
  cases hf : fewS l with
  | false =>
    have hc := few_con (gl := gl) l hN
    rw [hf] at hc
    repeat' (first
      | ((with_reducible apply r_call); exact rfl; exact rfl; exact hc; exact rfl; exact rfl)
      | ((with_reducible apply aw_seq))
      | ((with_reducible apply aw_region))
      | ((with_reducible apply thn_normal))
      | ((with_reducible apply aw_ret))
      | ((with_reducible apply ao_nil))
      | ((with_reducible apply r_move); exact rfl; exact rfl)
      | ((with_reducible apply r_assign); exact rfl; exact rfl)
      | ((with_reducible apply r_load_pa); exact rfl; exact rfl; exact rfl; exact rfl; exact rfl)
      | ((with_reducible apply r_box_a); exact rfl; exact rfl)
      | ((with_reducible apply r_pick_f); exact rfl; exact rfl; exact rfl)
      | (((with_reducible apply r_guard); exact rfl; exact rfl; exact rfl; exact rfl) <;> intro hg <;> (first | (exact absurd hg (by decide)) | ((try simp only [decide_eq_true_eq, decide_eq_false_iff_not, Bool.not_eq_true', Bool.not_eq_false', Bool.not_true, Bool.not_false, Bool.not_not, Int.not_lt, Int.not_le, Nat.not_lt, Nat.not_le, gt_iff_lt, ge_iff_le, List.cons.injEq, and_true] at hg); first | (exact absurd trivial hg) | (exfalso; omega) | (have hT : True := hg; clear hT hg) | skip)))
      )
    exact ret_b rfl (by unfold shortS; rw [hf]; rfl)
  | true =>
    have hc := few_con (gl := gl) l hN
    rw [hf] at hc
    repeat' (first
      | ((with_reducible apply r_call); exact rfl; exact rfl; exact hc; exact rfl; exact rfl)
      | ((with_reducible apply aw_seq))
      | ((with_reducible apply aw_region))
      | ((with_reducible apply thn_normal))
      | ((with_reducible apply aw_ret))
      | ((with_reducible apply ao_nil))
      | ((with_reducible apply r_move); exact rfl; exact rfl)
      | ((with_reducible apply r_assign); exact rfl; exact rfl)
      | ((with_reducible apply r_field_p); exact rfl; exact rfl)
      | ((with_reducible apply r_load_p); exact rfl; exact rfl; exact rfl; exact rfl)
      | ((with_reducible apply r_load_pa); exact rfl; exact rfl; exact rfl; exact rfl; exact rfl)
      | ((with_reducible apply r_leq); exact rfl; exact rfl; exact rfl)
      | ((with_reducible apply r_box_a); exact rfl; exact rfl)
      | ((with_reducible apply r_pick_t); exact rfl; exact rfl; exact rfl)
      | ((with_reducible apply r_pick_f); exact rfl; exact rfl; exact rfl)
      | ((with_reducible apply r_len_f); exact rfl; exact inferInstance; exact rfl)
      | (((with_reducible apply r_guard); exact rfl; exact rfl; exact rfl; exact rfl) <;> intro hg <;> (first | (exact absurd hg (by decide)) | ((try simp only [decide_eq_true_eq, decide_eq_false_iff_not, Bool.not_eq_true', Bool.not_eq_false', Bool.not_true, Bool.not_false, Bool.not_not, Int.not_lt, Int.not_le, Nat.not_lt, Nat.not_le, gt_iff_lt, ge_iff_le, List.cons.injEq, and_true] at hg); first | (exact absurd trivial hg) | (exfalso; omega) | (have hT : True := hg; clear hT hg) | skip)))
      )
    · refine ret_b rfl ?_
      unfold shortS; rw [hf, decide_eq_true hg, Bool.true_and, Bool.true_and]
      exact decide_eq_decide.2 (by omega)
    · exact ret_b rfl (by unfold shortS; rw [hf, decide_eq_false (by omega)]; rfl)
structure Plain where
  len : Int
  kerf : Int
  pitch : Int
  sizes : List Int
  gains : List Int
  chip : Int
  dust : Int
def plainL (x : Plain) : List CV := [I x.len, I x.kerf, I x.pitch, LI x.sizes, LI x.gains, I x.chip, I x.dust]
def plainC (x : Plain) : CV := .agg (plainL x)
noncomputable def uniP (x : Plain) : Line × Int := uniS x.len x.kerf x.pitch x.sizes x.gains x.chip x.dust
set_option maxRecDepth 100000 in
set_option maxHeartbeats 4000000 in
theorem uniform_con (x : Plain) (h1 : x.sizes.length ≤ 100000) (h2 : x.gains.length ≤ 100000) : Con Tryd.prog gl 24 [plainC x] (uniC (uniP x)) := by
  have hu := uni_con (gl := gl) x.len x.kerf x.pitch x.sizes x.gains x.chip x.dust h1 h2
  unfold uniP
  generalize uniS x.len x.kerf x.pitch x.sizes x.gains x.chip x.dust = r at *
  refine con_of Tryd.func24 rfl (by kernel_rfl) rfl ?_
  simp only [Tryd.ntmps24, Tryd.results24, argEnv, ofC, of1, List.map, plainC, plainL]
  repeat' (first
    | ((with_reducible apply r_call); exact rfl; exact rfl; exact hu; exact rfl; exact rfl)
    | ((with_reducible apply aw_seq))
    | ((with_reducible apply aw_region))
    | ((with_reducible apply thn_normal))
    | ((with_reducible apply aw_ret))
    | ((with_reducible apply ao_nil))
    | ((with_reducible apply r_assign); exact rfl; exact rfl)
    | ((with_reducible apply r_field_p); exact rfl; exact rfl)
    | ((with_reducible apply r_load_p); exact rfl; exact rfl; exact rfl; exact rfl)
    | ((with_reducible apply r_box_a); exact rfl; exact rfl)
    | ((with_reducible apply r_store_pa); exact rfl; exact rfl; exact rfl; exact rfl; exact rfl; exact rfl)
    | ((with_reducible apply r_extract); exact rfl; exact rfl; exact rfl)
    | ((with_reducible apply r_alloc); exact rfl)
    )
  exact ret2 (.cons (.cell_a inferInstance rfl rfl rfl rfl (cl_cons cl_c (cl_cons cl_c (cl_cons cl_c (cl_cons cl_c (cl_cons cl_c (cl_cons cl_c (cl_cons cl_c cl_nil)))))))) (.cons (.tmp rfl cl_c) .nil))
/-- The table, if some numbers answer to themselves. -/
theorem TT_table {l : Line} (v : Valid l) (W : Int → Int) (T : Int → Ch) (h : ∀ k : Nat, k ≤ l.len.toNat → chooseS l W k = T k ∧ (T k).2.2 = W k) : ∀ (n k : Nat), n + k = l.len.toNat → TT l k = T k := by
  have hl := v.len
  intro n
  induction n using Nat.strongRecOn with
  | ind n ih =>
    intro k hk
    rw [TT_eq v (by omega) (by omega)]
    have : chooseS l (TV l) k = chooseS l W k := chooseS_congr v (by omega) (fun x hx hx2 => by
      have e : ((x.toNat : Nat) : Int) = x := by omega
      have h1 := ih (l.len.toNat - x.toNat) (by omega) x.toNat (by omega)
      have h2 := (h x.toNat (by omega)).2
      rw [e] at h1 h2
      unfold TV
      rw [h1, h2])
    rw [this, (h k (by omega)).1]
def L1 : Line := lineU 10 1 1 [4] [5] 0 0
def L2 : Line := lineU 10 1 1 [4] [5] 2 (-1)
theorem shape_u (c d : Int) : shapeOk (lineU 10 1 1 [4] [5] c d) := by
  refine ⟨rfl, rfl, rfl, fun i hi => ?_⟩
  have : i = 0 := by have : i < 1 := hi; omega
  subst this
  intro _ _; rfl
theorem chk_L1 : chk L1 = 0 := (chk0 (by decide) (shape_u _ _) (by decide) (by decide)).symm
theorem chk_L2 : chk L2 = 0 := (chk0 (by decide) (shape_u _ _) (by decide) (by decide)).symm
def W1 (e : Int) : Int := if e ≤ 1 then 10 else if e ≤ 6 then 5 else 0
def T1 (e : Int) : Ch := if e ≤ 6 then (0, e, W1 e) else (-1, -1, 0)
def T2 (e : Int) : Ch := (-1, -1, 2 * (10 - e))
theorem tab1 : ∀ k : Nat, k ≤ 10 → chooseS L1 W1 k = T1 k ∧ (T1 k).2.2 = W1 k := by decide +kernel
theorem tab2 : ∀ k : Nat, k ≤ 10 → chooseS L2 (fun e => 2 * (10 - e)) k = T2 k ∧ (T2 k).2.2 = 2 * (10 - (k : Int)) := by decide +kernel
theorem TT1 (k : Nat) (hk : k ≤ 10) : TT L1 k = T1 k := TT_table (valid_of chk_L1) W1 T1 tab1 (10 - k) k (by show 10 - k + k = 10; omega)
theorem TT2 (k : Nat) (hk : k ≤ 10) : TT L2 k = T2 k := TT_table (valid_of chk_L2) (fun e => 2 * (10 - e)) T2 tab2 (10 - k) k (by show 10 - k + k = 10; omega)
theorem best_L1 : bestS L1 = ([(0, 0), (0, 5)], 10, 0) := by
  rw [best_ok chk_L1]
  have t0 : TT L1 0 = (0, 0, 10) := TT1 0 (by decide)
  have t5 : TT L1 5 = (0, 5, 5) := TT1 5 (by decide)
  have t10 : TT L1 10 = (-1, -1, 0) := TT1 10 (by decide)
  have hv : TV L1 0 = 10 := by unfold TV; rw [t0]
  rw [hv]
  show (chainS L1 (9 + 1 + 1 + 1) 0, _, _) = _
  rw [chain_go (by decide) (by rw [t0]; decide), t0]
  dsimp only
  rw [show behindS L1 (0 + szOf L1 0) = 5 from by decide, chain_go (by decide) (by rw [t5]; decide), t5]
  dsimp only
  rw [show behindS L1 (5 + szOf L1 0) = 10 from by decide, chain_stop (.inr (by rw [t10]; decide))]
theorem best_L2 : bestS L2 = ([], 20, 0) := by
  rw [best_ok chk_L2]
  have t0 : TT L2 0 = (-1, -1, 20) := TT2 0 (by decide)
  have hv : TV L2 0 = 20 := by unfold TV; rw [t0]
  rw [hv, chain_stop (.inr (by rw [t0]; decide))]
theorem uni_L1 : uniP ⟨10, 1, 1, [4], [5], 0, 0⟩ = (L1, 0) := by
  unfold uniP uniS
  rw [if_neg (by decide), if_neg (by decide)]
  have := chk_L1
  unfold L1 at this ⊢
  rw [if_neg (fun hh => hh this)]
theorem uni_L2 : uniP ⟨10, 1, 1, [4], [5], 2, -1⟩ = (L2, 0) := by
  unfold uniP uniS
  rw [if_neg (by decide), if_neg (by decide)]
  have := chk_L2
  unfold L2 at this ⊢
  rw [if_neg (fun hh => hh this)]
theorem cuts_a : cutsS L1 [(0, 2)] = (0, [(1, 2), (6, 7)], [(0, 1), (7, 10)]) := by
  unfold cutsS; rw [if_neg (fun hh => hh chk_L1)]; decide +kernel
theorem cuts_b : cutsS L1 [(0, 1)] = (11, [], []) := by
  unfold cutsS; rw [if_neg (fun hh => hh chk_L1)]; decide +kernel
end Go.Proofs.YtjofnmklkndhoaaDoor.Cu
