/- Walks of geometry: Common of solids, Bounds in both; what is the same. -/
import Derived.Test.YtokkpocccgdilaaGE
namespace Go.Proofs.Ytokkpocccgdilaa.Ge
set_option linter.unusedVariables false
set_option linter.unusedSimpArgs false
open Go.RowKit Go.Proofs.Ytokkpocccgdilaa.Ev
variable {gl : List (Nat × List CV)}

noncomputable def comN (c : List Slc) : Nat → Sec
  | 0 => sec0
  | j + 1 => if j = 0 then secD c 0 else meetSec (comN c j) (secD c j)
noncomputable def comS (l : List Slc) (Z : Span) : Sec := comN (cutS l Z) (cutS l Z).length
theorem cutS_len (l : List Slc) (Z : Span) : (cutS l Z).length ≤ 24 := by
  have h1 := cutN_len (valL l) Z (valL l).length
  have h2 := (valL_V l).n
  unfold cutS cutV; omega
abbrev Rect := Span × Span
abbrev rectC (r : Rect) : CV := .agg [I r.1.1, I r.1.2, I r.2.1, I r.2.2]
def joinS (a b : Span) : Span := (min a.1 b.1, max a.2 b.2)
def bxN (s : Sec) : Nat → Span
  | 0 => rowD s 0
  | j + 1 => if emptyS (rowD s j) = true then bxN s j else joinS (bxN s j) (rowD s j)
def bdV (s : Sec) : Rect := if s.rows.length = 0 then ((0, 0), (0, 0)) else (bxN s s.rows.length, (10 * s.low, 10 * (s.low + s.rows.length)))
noncomputable def bdS (s : Sec) : Rect := bdV (valS s)
set_option maxRecDepth 100000 in
set_option maxHeartbeats 4000000 in
theorem bounds_con (s : Sec) : Con Try.prog gl 84 [secC s] (rectC (bdS s)) := by
  have hv := valid_con (gl := gl) s
  have v := valS_V s
  unfold bdS bdV
  generalize valS s = u at *
  have h1 := v.len
  have h2 := v.low
  have h3 := v.high
  refine con_of Try.func84 rfl (by kernel_rfl) rfl ?_
  simp only [Try.ntmps84, Try.results84, argEnv, ofC, of1, List.map]
  by_cases h0 : u.rows.length = 0
  · rw [if_pos h0]
    repeat' (first
      | ((with_reducible apply r_call); exact rfl; exact rfl; exact hv; exact rfl; exact rfl)
      | ((with_reducible apply aw_seq))
      | ((with_reducible apply aw_region))
      | ((with_reducible apply thn_normal))
      | ((with_reducible apply thn_ret))
      | ((with_reducible apply aw_ret))
      | ((with_reducible apply ao_nil))
      | ((with_reducible apply r_field_p); exact rfl; exact rfl)
      | ((with_reducible apply r_load_p); exact rfl; exact rfl; exact rfl; exact rfl)
      | ((with_reducible apply r_load_pa); exact rfl; exact rfl; exact rfl; exact rfl; exact rfl)
      | ((with_reducible apply r_eql); exact rfl; exact rfl; exact rfl)
      | ((with_reducible apply r_box_a); exact rfl; exact rfl)
      | ((with_reducible apply r_len_f); exact rfl; exact inferInstance; exact rfl)
      | ((with_reducible apply r_store_pa); exact rfl; exact rfl; exact rfl; exact rfl; exact rfl; exact rfl)
      | ((with_reducible apply r_build); exact rfl; exact rfl; exact rfl)
      | ((with_reducible apply r_alloc); exact rfl)
      | (((with_reducible apply aw_cond); exact rfl) <;> intro hg <;> (first | (exact absurd hg (by decide)) | ((try simp only [decide_eq_true_eq, decide_eq_false_iff_not, Bool.not_eq_true', Bool.not_eq_false', Bool.not_true, Bool.not_false, Bool.not_not, Int.not_lt, Int.not_le, Nat.not_lt, Nat.not_le, gt_iff_lt, ge_iff_le, List.cons.injEq, and_true] at hg); first | (exact absurd trivial hg) | (exfalso; omega) | (have hT : True := hg; clear hT hg) | skip)))
      )
    exact ret1 (.cell_a inferInstance rfl rfl rfl rfl (cl_cons cl_c (cl_cons cl_c (cl_cons cl_c (cl_cons cl_c cl_nil)))))
  rw [if_neg h0]
  have hr0 : rowD u 0 = u.rows[0]'(by omega) := rowD_eq (by omega)
  have hh := heights_con (gl := gl) u.low (u.low + u.rows.length) (by omega)
  repeat' (first
    | ((with_reducible apply r_call); exact rfl; exact rfl; exact hv; exact rfl; exact rfl)
    | ((with_reducible apply (r_index_f (k := 0))); exact rfl; exact inferInstance; exact rfl; exact rfl; (omega); exact rfl)
    | ((with_reducible apply aw_seq))
    | ((with_reducible apply aw_region))
    | ((with_reducible apply aw_block))
    | ((with_reducible apply thn_normal))
    | ((with_reducible apply aw_skip))
    | ((with_reducible apply ao_nil))
    | ((with_reducible apply r_move); exact rfl; exact rfl)
    | ((with_reducible apply r_field_p); exact rfl; exact rfl)
    | ((with_reducible apply r_load_p); exact rfl; exact rfl; exact rfl; exact rfl)
    | ((with_reducible apply r_load_pa); exact rfl; exact rfl; exact rfl; exact rfl; exact rfl)
    | ((with_reducible apply r_eql); exact rfl; exact rfl; exact rfl)
    | ((with_reducible apply r_box_a); exact rfl; exact rfl)
    | ((with_reducible apply r_len_f); exact rfl; exact inferInstance; exact rfl)
    | ((with_reducible apply r_load_fa0); exact rfl; exact inferInstance; exact List.getElem?_eq_getElem (by first | assumption | omega); exact rfl; exact rfl; exact rfl)
    | ((with_reducible apply r_store_pa); exact rfl; exact rfl; exact rfl; exact rfl; exact rfl; exact rfl)
    | ((with_reducible apply r_alloc); exact rfl)
    | (((with_reducible apply aw_cond); exact rfl) <;> intro hg <;> (first | (exact absurd hg (by decide)) | ((try simp only [decide_eq_true_eq, decide_eq_false_iff_not, Bool.not_eq_true', Bool.not_eq_false', Bool.not_true, Bool.not_false, Bool.not_not, Int.not_lt, Int.not_le, Nat.not_lt, Nat.not_le, gt_iff_lt, ge_iff_le, List.cons.injEq, and_true] at hg); first | (exact absurd trivial hg) | (exfalso; omega) | (have hT : True := hg; clear hT hg) | skip)))
    )
  refine aw_loopG (G := Nat × Span) (fun ((j, b) : Nat × Span) => j ≤ u.rows.length ∧ b = bxN u j) (fun ((j, b) : Nat × Span) => u.rows.length - j) (fun ((j, b) : Nat × Span) => [(1, .ptr 0 0), (2, .ptr 1 0), (3, .ptr 2 0), (18, .c (LS u.rows)), (19, A u.rows.length), (20, A j)]) (fun ((j, b) : Nat × Span) => [(0, some (secB u)), (1, some (.cells 85 [A 0, A 0, A 0, A 0])), (2, some (.cells 44 [A b.1, A b.2]))]) 3 (0, u.rows[0]'(by omega)) ?_ (by refine weak_mk rfl ?_ ?_ <;> repeat (first | exact envW_nil | exact heapW_nil | refine envW_cons rfl rfl ?_ | refine heapW_cons rfl rfl rfl ?_)) rfl ?_
  · exact ⟨Nat.zero_le _, hr0.symm⟩
  rintro ⟨j, b⟩ hI
  try dsimp only at hI
  try dsimp only
  obtain ⟨hj, hb⟩ := hI
  by_cases hjl : j < u.rows.length
  · have hc := isEmpty_con (gl := gl) u.rows[j].1 u.rows[j].2
    have hrj := rowD_eq hjl
    cases he : emptyS u.rows[j] with
    | true =>
      rw [show emptyS (u.rows[j].1, u.rows[j].2) = true from he] at hc
      repeat' (first
        | ((with_reducible apply r_call); exact rfl; exact rfl; exact hc; exact rfl; exact rfl)
        | ((with_reducible apply aw_seq))
        | ((with_reducible apply aw_region))
        | ((with_reducible apply aw_block))
        | ((with_reducible apply thn_normal))
        | ((with_reducible apply inb_normal))
        | ((with_reducible apply aw_skip))
        | ((with_reducible apply ao_nil))
        | ((with_reducible apply r_move); exact rfl; exact rfl)
        | ((with_reducible apply r_load_pa); exact rfl; exact rfl; exact rfl; exact rfl; exact rfl)
        | ((with_reducible apply r_lss); exact rfl; exact rfl; exact rfl)
        | ((with_reducible apply r_add); exact rfl; exact rfl; exact (by first | assumption | (unfold fits; omega)); exact rfl)
        | ((with_reducible apply r_not); exact rfl; exact rfl)
        | ((with_reducible apply r_index_f); exact rfl; exact inferInstance; exact rfl; exact rfl; (first | assumption | omega); exact rfl)
        | ((with_reducible apply r_load_fa0); exact rfl; exact inferInstance; exact List.getElem?_eq_getElem (by first | assumption | omega); exact rfl; exact rfl; exact rfl)
        | ((with_reducible apply r_store_pa); exact rfl; exact rfl; exact rfl; exact rfl; exact rfl; exact rfl)
        | ((with_reducible apply r_alloc); exact rfl)
        | (((with_reducible apply aw_cond); exact rfl) <;> intro hg <;> (first | (exact absurd hg (by decide)) | ((try simp only [decide_eq_true_eq, decide_eq_false_iff_not, Bool.not_eq_true', Bool.not_eq_false', Bool.not_true, Bool.not_false, Bool.not_not, Int.not_lt, Int.not_le, Nat.not_lt, Nat.not_le, gt_iff_lt, ge_iff_le, List.cons.injEq, and_true] at hg); first | (exact absurd trivial hg) | (exfalso; omega) | (have hT : True := hg; clear hT hg) | skip)))
        )
      refine ⟨(j + 1, b), ?_, ?_, by refine weak_mk rfl ?_ ?_ <;> repeat (first | exact envW_nil | exact heapW_nil | refine envW_cons rfl rfl ?_ | refine heapW_cons rfl rfl rfl ?_)⟩
      · show _ - (j + 1) < _ - j; omega
      · exact ⟨by show j + 1 ≤ _; omega, by show b = if emptyS (rowD u j) = true then bxN u j else _; rw [hrj, if_pos he, hb]⟩
    | false =>
      rw [show emptyS (u.rows[j].1, u.rows[j].2) = false from he] at hc
      repeat' (first
        | ((with_reducible apply r_call); exact rfl; exact rfl; exact hc; exact rfl; exact rfl)
        | ((with_reducible apply aw_seq))
        | ((with_reducible apply aw_region))
        | ((with_reducible apply aw_block))
        | ((with_reducible apply thn_normal))
        | ((with_reducible apply inb_normal))
        | ((with_reducible apply aw_skip))
        | ((with_reducible apply ao_nil))
        | ((with_reducible apply r_move); exact rfl; exact rfl)
        | ((with_reducible apply r_field_p); exact rfl; exact rfl)
        | ((with_reducible apply r_load_p); exact rfl; exact rfl; exact rfl; exact rfl)
        | ((with_reducible apply r_load_pa); exact rfl; exact rfl; exact rfl; exact rfl; exact rfl)
        | ((with_reducible apply r_lss); exact rfl; exact rfl; exact rfl)
        | ((with_reducible apply r_add); exact rfl; exact rfl; exact (by first | assumption | (unfold fits; omega)); exact rfl)
        | ((with_reducible apply r_max); exact rfl; exact rfl; exact rfl)
        | ((with_reducible apply r_min); exact rfl; exact rfl; exact rfl)
        | ((with_reducible apply r_not); exact rfl; exact rfl)
        | ((with_reducible apply r_index_f); exact rfl; exact inferInstance; exact rfl; exact rfl; (first | assumption | omega); exact rfl)
        | ((with_reducible apply r_load_fa0); exact rfl; exact inferInstance; exact List.getElem?_eq_getElem (by first | assumption | omega); exact rfl; exact rfl; exact rfl)
        | ((with_reducible apply r_store_pa); exact rfl; exact rfl; exact rfl; exact rfl; exact rfl; exact rfl)
        | ((with_reducible apply r_build); exact rfl; exact rfl; exact rfl)
        | ((with_reducible apply r_alloc); exact rfl)
        | (((with_reducible apply aw_cond); exact rfl) <;> intro hg <;> (first | (exact absurd hg (by decide)) | ((try simp only [decide_eq_true_eq, decide_eq_false_iff_not, Bool.not_eq_true', Bool.not_eq_false', Bool.not_true, Bool.not_false, Bool.not_not, Int.not_lt, Int.not_le, Nat.not_lt, Nat.not_le, gt_iff_lt, ge_iff_le, List.cons.injEq, and_true] at hg); first | (exact absurd trivial hg) | (exfalso; omega) | (have hT : True := hg; clear hT hg) | skip)))
        )
      refine ⟨(j + 1, joinS b u.rows[j]), ?_, ?_, by refine weak_mk rfl ?_ ?_ <;> repeat (first | exact envW_nil | exact heapW_nil | refine envW_cons rfl rfl ?_ | refine heapW_cons rfl rfl rfl ?_)⟩
      · show _ - (j + 1) < _ - j; omega
      · exact ⟨by show j + 1 ≤ _; omega, by show joinS b u.rows[j] = if emptyS (rowD u j) = true then bxN u j else joinS (bxN u j) (rowD u j); rw [hrj, if_neg (by rw [he]; simp), hb]⟩
  · obtain rfl : j = u.rows.length := by omega
    rw [← hb]
    repeat' (first
      | (refine aw_drawt 11 ?_ ?_; (kernel_rfl); (simp only [List.take_succ_cons, List.take_zero, List.drop_succ_cons, List.drop_zero]))
      | ((with_reducible apply r_call); exact rfl; exact rfl; exact hh; exact rfl; exact rfl)
      | ((with_reducible apply aw_seq))
      | ((with_reducible apply aw_region))
      | ((with_reducible apply thn_normal))
      | ((with_reducible apply thn_exit))
      | ((with_reducible apply inb_exit))
      | ((with_reducible apply aw_exit))
      | ((with_reducible apply aw_ret))
      | ((with_reducible apply ao_nil))
      | ((with_reducible apply r_field_p); exact rfl; exact rfl)
      | ((with_reducible apply r_load_p); exact rfl; exact rfl; exact rfl; exact rfl)
      | ((with_reducible apply r_load_pa); exact rfl; exact rfl; exact rfl; exact rfl; exact rfl)
      | ((with_reducible apply r_lss); exact rfl; exact rfl; exact rfl)
      | ((with_reducible apply r_add); exact rfl; exact rfl; exact (by first | assumption | (unfold fits; omega)); exact rfl)
      | ((with_reducible apply r_len_f); exact rfl; exact inferInstance; exact rfl)
      | ((with_reducible apply r_store_pa); exact rfl; exact rfl; exact rfl; exact rfl; exact rfl; exact rfl)
      | ((with_reducible apply r_build); exact rfl; exact rfl; exact rfl)
      | (((with_reducible apply aw_cond); exact rfl) <;> intro hg <;> (first | (exact absurd hg (by decide)) | ((try simp only [decide_eq_true_eq, decide_eq_false_iff_not, Bool.not_eq_true', Bool.not_eq_false', Bool.not_true, Bool.not_false, Bool.not_not, Int.not_lt, Int.not_le, Nat.not_lt, Nat.not_le, gt_iff_lt, ge_iff_le, List.cons.injEq, and_true] at hg); first | (exact absurd trivial hg) | (exfalso; omega) | (have hT : True := hg; clear hT hg) | skip)))
      | ((with_reducible apply ds_nil))
      )
    exact ret1 (.cell_a inferInstance rfl rfl rfl rfl (cl_cons cl_c (cl_cons cl_c (cl_cons cl_c (cl_cons cl_c cl_nil)))))
set_option maxRecDepth 100000 in
set_option maxHeartbeats 4000000 in
theorem rbounds_con (s : Sec) : Con Try.prog gl 86 [secC s] (rectC (bdS s)) := by
  have hv := rvalid_con (gl := gl) s
  have v := valS_V s
  unfold bdS bdV
  generalize valS s = u at *
  have h1 := v.len
  have h2 := v.low
  have h3 := v.high
  refine con_of Try.func86 rfl (by kernel_rfl) rfl ?_
  simp only [Try.ntmps86, Try.results86, argEnv, ofC, of1, List.map]
  by_cases h0 : u.rows.length = 0
  · rw [if_pos h0]
    repeat' (first
      | ((with_reducible apply r_call); exact rfl; exact rfl; exact hv; exact rfl; exact rfl)
      | ((with_reducible apply aw_seq))
      | ((with_reducible apply aw_region))
      | ((with_reducible apply thn_normal))
      | ((with_reducible apply thn_ret))
      | ((with_reducible apply aw_ret))
      | ((with_reducible apply ao_nil))
      | ((with_reducible apply r_field_p); exact rfl; exact rfl)
      | ((with_reducible apply r_load_p); exact rfl; exact rfl; exact rfl; exact rfl)
      | ((with_reducible apply r_load_pa); exact rfl; exact rfl; exact rfl; exact rfl; exact rfl)
      | ((with_reducible apply r_eql); exact rfl; exact rfl; exact rfl)
      | ((with_reducible apply r_box_a); exact rfl; exact rfl)
      | ((with_reducible apply r_len_f); exact rfl; exact inferInstance; exact rfl)
      | ((with_reducible apply r_store_pa); exact rfl; exact rfl; exact rfl; exact rfl; exact rfl; exact rfl)
      | ((with_reducible apply r_build); exact rfl; exact rfl; exact rfl)
      | ((with_reducible apply r_alloc); exact rfl)
      | (((with_reducible apply aw_cond); exact rfl) <;> intro hg <;> (first | (exact absurd hg (by decide)) | ((try simp only [decide_eq_true_eq, decide_eq_false_iff_not, Bool.not_eq_true', Bool.not_eq_false', Bool.not_true, Bool.not_false, Bool.not_not, Int.not_lt, Int.not_le, Nat.not_lt, Nat.not_le, gt_iff_lt, ge_iff_le, List.cons.injEq, and_true] at hg); first | (exact absurd trivial hg) | (exfalso; omega) | (have hT : True := hg; clear hT hg) | skip)))
      )
    exact ret1 (.cell_a inferInstance rfl rfl rfl rfl (cl_cons cl_c (cl_cons cl_c (cl_cons cl_c (cl_cons cl_c cl_nil)))))
  rw [if_neg h0]
  have hr0 : rowD u 0 = u.rows[0]'(by omega) := rowD_eq (by omega)
  repeat' (first
    | ((with_reducible apply r_call); exact rfl; exact rfl; exact hv; exact rfl; exact rfl)
    | ((with_reducible apply (r_index_f (k := 0))); exact rfl; exact inferInstance; exact rfl; exact rfl; (omega); exact rfl)
    | ((with_reducible apply aw_seq))
    | ((with_reducible apply aw_region))
    | ((with_reducible apply aw_block))
    | ((with_reducible apply thn_normal))
    | ((with_reducible apply aw_skip))
    | ((with_reducible apply ao_nil))
    | ((with_reducible apply r_assign); exact rfl; exact rfl)
    | ((with_reducible apply r_field_p); exact rfl; exact rfl)
    | ((with_reducible apply r_load_p); exact rfl; exact rfl; exact rfl; exact rfl)
    | ((with_reducible apply r_load_pa); exact rfl; exact rfl; exact rfl; exact rfl; exact rfl)
    | ((with_reducible apply r_eql); exact rfl; exact rfl; exact rfl)
    | ((with_reducible apply r_box_a); exact rfl; exact rfl)
    | ((with_reducible apply r_len_f); exact rfl; exact inferInstance; exact rfl)
    | ((with_reducible apply r_load_fa0); exact rfl; exact inferInstance; exact List.getElem?_eq_getElem (by first | assumption | omega); exact rfl; exact rfl; exact rfl)
    | ((with_reducible apply r_store_pa); exact rfl; exact rfl; exact rfl; exact rfl; exact rfl; exact rfl)
    | ((with_reducible apply r_alloc); exact rfl)
    | (((with_reducible apply aw_cond); exact rfl) <;> intro hg <;> (first | (exact absurd hg (by decide)) | ((try simp only [decide_eq_true_eq, decide_eq_false_iff_not, Bool.not_eq_true', Bool.not_eq_false', Bool.not_true, Bool.not_false, Bool.not_not, Int.not_lt, Int.not_le, Nat.not_lt, Nat.not_le, gt_iff_lt, ge_iff_le, List.cons.injEq, and_true] at hg); first | (exact absurd trivial hg) | (exfalso; omega) | (have hT : True := hg; clear hT hg) | skip)))
    )
  refine aw_loopG (G := Nat × Span) (fun ((j, b) : Nat × Span) => j ≤ u.rows.length ∧ b = bxN u j) (fun ((j, b) : Nat × Span) => u.rows.length - j) (fun ((j, b) : Nat × Span) => [(1, .ptr 0 0), (2, .ptr 1 0), (3, .ptr 2 0), (4, A j)]) (fun ((j, b) : Nat × Span) => [(0, some (secB u)), (1, some (.cells 85 [A 0, A 0, A 0, A 0])), (2, some (.cells 44 [A b.1, A b.2]))]) 3 (0, u.rows[0]'(by omega)) ?_ (by refine weak_mk rfl ?_ ?_ <;> repeat (first | exact envW_nil | exact heapW_nil | refine envW_cons rfl rfl ?_ | refine heapW_cons rfl rfl rfl ?_)) rfl ?_
  · exact ⟨Nat.zero_le _, hr0.symm⟩
  rintro ⟨j, b⟩ hI
  try dsimp only at hI
  try dsimp only
  obtain ⟨hj, hb⟩ := hI
  by_cases hjl : j < u.rows.length
  · have hc := empty_con (gl := gl) u.rows[j].1 u.rows[j].2
    have hrj := rowD_eq hjl
    cases he : emptyS u.rows[j] with
    | true =>
      rw [show emptyS (u.rows[j].1, u.rows[j].2) = true from he] at hc
      repeat' (first
        | ((with_reducible apply r_call); exact rfl; exact rfl; exact hc; exact rfl; exact rfl)
        | ((with_reducible apply aw_seq))
        | ((with_reducible apply aw_region))
        | ((with_reducible apply aw_block))
        | ((with_reducible apply thn_normal))
        | ((with_reducible apply inb_normal))
        | ((with_reducible apply aw_skip))
        | ((with_reducible apply ao_nil))
        | ((with_reducible apply r_move); exact rfl; exact rfl)
        | ((with_reducible apply r_assign); exact rfl; exact rfl)
        | ((with_reducible apply r_field_p); exact rfl; exact rfl)
        | ((with_reducible apply r_load_p); exact rfl; exact rfl; exact rfl; exact rfl)
        | ((with_reducible apply r_lss); exact rfl; exact rfl; exact rfl)
        | ((with_reducible apply r_add); exact rfl; exact rfl; exact (by first | assumption | (unfold fits; omega)); exact rfl)
        | ((with_reducible apply r_not); exact rfl; exact rfl)
        | ((with_reducible apply r_len_f); exact rfl; exact inferInstance; exact rfl)
        | ((with_reducible apply r_index_f); exact rfl; exact inferInstance; exact rfl; exact rfl; (first | assumption | omega); exact rfl)
        | ((with_reducible apply r_load_fa0); exact rfl; exact inferInstance; exact List.getElem?_eq_getElem (by first | assumption | omega); exact rfl; exact rfl; exact rfl)
        | (((with_reducible apply aw_cond); exact rfl) <;> intro hg <;> (first | (exact absurd hg (by decide)) | ((try simp only [decide_eq_true_eq, decide_eq_false_iff_not, Bool.not_eq_true', Bool.not_eq_false', Bool.not_true, Bool.not_false, Bool.not_not, Int.not_lt, Int.not_le, Nat.not_lt, Nat.not_le, gt_iff_lt, ge_iff_le, List.cons.injEq, and_true] at hg); first | (exact absurd trivial hg) | (exfalso; omega) | (have hT : True := hg; clear hT hg) | skip)))
        )
      refine ⟨(j + 1, b), ?_, ?_, by refine weak_mk rfl ?_ ?_ <;> repeat (first | exact envW_nil | exact heapW_nil | refine envW_cons rfl rfl ?_ | refine heapW_cons rfl rfl rfl ?_)⟩
      · show _ - (j + 1) < _ - j; omega
      · exact ⟨by show j + 1 ≤ _; omega, by show b = if emptyS (rowD u j) = true then bxN u j else _; rw [hrj, if_pos he, hb]⟩
    | false =>
      rw [show emptyS (u.rows[j].1, u.rows[j].2) = false from he] at hc
      repeat' (first
        | (refine aw_drawt 19 ?_ ?_; (kernel_rfl); (simp only [List.take_succ_cons, List.take_zero, List.drop_succ_cons, List.drop_zero]))
        | ((with_reducible apply r_call); exact rfl; exact rfl; exact hc; exact rfl; exact rfl)
        | ((with_reducible apply aw_seq))
        | ((with_reducible apply aw_region))
        | ((with_reducible apply aw_block))
        | ((with_reducible apply thn_normal))
        | ((with_reducible apply inb_normal))
        | ((with_reducible apply aw_skip))
        | ((with_reducible apply ao_nil))
        | ((with_reducible apply r_move); exact rfl; exact rfl)
        | ((with_reducible apply r_assign); exact rfl; exact rfl)
        | ((with_reducible apply r_field_p); exact rfl; exact rfl)
        | ((with_reducible apply r_load_p); exact rfl; exact rfl; exact rfl; exact rfl)
        | ((with_reducible apply r_lss); exact rfl; exact rfl; exact rfl)
        | ((with_reducible apply r_add); exact rfl; exact rfl; exact (by first | assumption | (unfold fits; omega)); exact rfl)
        | ((with_reducible apply r_max); exact rfl; exact rfl; exact rfl)
        | ((with_reducible apply r_min); exact rfl; exact rfl; exact rfl)
        | ((with_reducible apply r_not); exact rfl; exact rfl)
        | ((with_reducible apply r_len_f); exact rfl; exact inferInstance; exact rfl)
        | ((with_reducible apply r_index_f); exact rfl; exact inferInstance; exact rfl; exact rfl; (first | assumption | omega); exact rfl)
        | ((with_reducible apply r_load_f0); exact rfl; exact inferInstance; exact List.getElem?_eq_getElem (by first | assumption | omega); exact rfl; exact rfl)
        | ((with_reducible apply r_load_f); exact rfl; exact inferInstance; exact List.getElem?_eq_getElem (by first | assumption | omega); exact rfl; exact rfl; exact rfl)
        | ((with_reducible apply r_load_fa0); exact rfl; exact inferInstance; exact List.getElem?_eq_getElem (by first | assumption | omega); exact rfl; exact rfl; exact rfl)
        | ((with_reducible apply r_field_e); exact rfl; exact rfl)
        | ((with_reducible apply r_store_pa); exact rfl; exact rfl; exact rfl; exact rfl; exact rfl; exact rfl)
        | ((with_reducible apply r_build); exact rfl; exact rfl; exact rfl)
        | (((with_reducible apply aw_cond); exact rfl) <;> intro hg <;> (first | (exact absurd hg (by decide)) | ((try simp only [decide_eq_true_eq, decide_eq_false_iff_not, Bool.not_eq_true', Bool.not_eq_false', Bool.not_true, Bool.not_false, Bool.not_not, Int.not_lt, Int.not_le, Nat.not_lt, Nat.not_le, gt_iff_lt, ge_iff_le, List.cons.injEq, and_true] at hg); first | (exact absurd trivial hg) | (exfalso; omega) | (have hT : True := hg; clear hT hg) | skip)))
        | ((with_reducible apply ds_nil))
        )
      refine ⟨(j + 1, joinS b u.rows[j]), ?_, ?_, by refine weak_mk rfl ?_ ?_ <;> repeat (first | exact envW_nil | exact heapW_nil | refine envW_cons rfl rfl ?_ | refine heapW_cons rfl rfl rfl ?_)⟩
      · show _ - (j + 1) < _ - j; omega
      · exact ⟨by show j + 1 ≤ _; omega, by show joinS b u.rows[j] = if emptyS (rowD u j) = true then bxN u j else joinS (bxN u j) (rowD u j); rw [hrj, if_neg (by rw [he]; simp), hb]⟩
  · obtain rfl : j = u.rows.length := by omega
    rw [← hb]
    repeat' (first
      | ((with_reducible apply aw_seq))
      | ((with_reducible apply aw_region))
      | ((with_reducible apply thn_normal))
      | ((with_reducible apply thn_exit))
      | ((with_reducible apply inb_exit))
      | ((with_reducible apply aw_exit))
      | ((with_reducible apply aw_ret))
      | ((with_reducible apply ao_nil))
      | ((with_reducible apply r_move); exact rfl; exact rfl)
      | ((with_reducible apply r_field_p); exact rfl; exact rfl)
      | ((with_reducible apply r_load_p); exact rfl; exact rfl; exact rfl; exact rfl)
      | ((with_reducible apply r_load_pa); exact rfl; exact rfl; exact rfl; exact rfl; exact rfl)
      | ((with_reducible apply r_lss); exact rfl; exact rfl; exact rfl)
      | ((with_reducible apply r_add); exact rfl; exact rfl; exact (by first | assumption | (unfold fits; omega)); exact rfl)
      | ((with_reducible apply r_mul); exact rfl; exact rfl; exact (by first | assumption | (unfold fits; omega)); exact rfl)
      | ((with_reducible apply r_len_f); exact rfl; exact inferInstance; exact rfl)
      | ((with_reducible apply r_store_pa); exact rfl; exact rfl; exact rfl; exact rfl; exact rfl; exact rfl)
      | ((with_reducible apply r_build); exact rfl; exact rfl; exact rfl)
      | (((with_reducible apply aw_cond); exact rfl) <;> intro hg <;> (first | (exact absurd hg (by decide)) | ((try simp only [decide_eq_true_eq, decide_eq_false_iff_not, Bool.not_eq_true', Bool.not_eq_false', Bool.not_true, Bool.not_false, Bool.not_not, Int.not_lt, Int.not_le, Nat.not_lt, Nat.not_le, gt_iff_lt, ge_iff_le, List.cons.injEq, and_true] at hg); first | (exact absurd trivial hg) | (exfalso; omega) | (have hT : True := hg; clear hT hg) | skip)))
      )
    exact ret1 (.cell_a inferInstance rfl rfl rfl rfl (cl_cons cl_c (cl_cons cl_c (cl_cons cl_c (cl_cons cl_c cl_nil)))))

def joinR (a b : Rect) : Rect := (joinS a.1 b.1, joinS a.2 b.2)
noncomputable def sbN (l : List Slc) : Nat → Rect
  | 0 => ((0, 0), (0, 0))
  | j + 1 => joinR (if j = 0 then bdS (secD l j) else sbN l j) (bdS (secD l j))
noncomputable def sbS (l : List Slc) : Rect := sbN (valL l) (valL l).length
theorem joinR_self (a : Rect) : joinR a a = a := by
  unfold joinR joinS
  rw [Int.min_self, Int.max_self, Int.min_self, Int.max_self]
end Go.Proofs.Ytokkpocccgdilaa.Ge
