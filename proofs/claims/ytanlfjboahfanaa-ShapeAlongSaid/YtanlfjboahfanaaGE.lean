/- Walks of geometry: sections: at, Meet; solids: Common. -/
import Derived.Test.YtanlfjboahfanaaGD
namespace Go.Proofs.Ytanlfjboahfanaa.Ge
set_option linter.unusedVariables false
set_option linter.unusedSimpArgs false
open Go.RowKit Go.Proofs.Ytanlfjboahfanaa.Ev
variable {gl : List (Nat × List CV)}

def atR (s : Sec) (r : Int) : Span := if r < s.low ∨ s.low + s.rows.length ≤ r then (0, 0) else rowD s (r - s.low).toNat
theorem at_con (s : Sec) (v : SecV s) (r : Int) (h : -1000 ≤ r ∧ r ≤ 1000) : Con Try.prog gl 57 [secC s, I r] (spV (atR s r)) := by
  have h1 := v.len
  have h2 := v.low
  have h3 := v.high
  by_cases hr : r < s.low ∨ s.low + s.rows.length ≤ r
  · have e : atR s r = (0, 0) := if_pos hr
    rw [e]
    refine con_of Try.func57 rfl (by kernel_rfl) rfl ?_
    simp only [Try.ntmps57, Try.results57, argEnv, ofC, of1, List.map]
    repeat' (first
      | ((with_reducible apply aw_seq))
      | ((with_reducible apply aw_region))
      | ((with_reducible apply thn_normal))
      | ((with_reducible apply thn_ret))
      | ((with_reducible apply aw_ret))
      | ((with_reducible apply ao_nil))
      | ((with_reducible apply r_move); exact rfl; exact rfl)
      | ((with_reducible apply r_field_p); exact rfl; exact rfl)
      | ((with_reducible apply r_load_p); exact rfl; exact rfl; exact rfl; exact rfl)
      | ((with_reducible apply r_lss); exact rfl; exact rfl; exact rfl)
      | ((with_reducible apply r_geq); exact rfl; exact rfl; exact rfl)
      | ((with_reducible apply r_add); exact rfl; exact rfl; exact (by first | assumption | (unfold fits; omega)); exact rfl)
      | ((with_reducible apply r_box_a); exact rfl; exact rfl)
      | ((with_reducible apply r_pick_t); exact rfl; exact rfl; exact rfl)
      | ((with_reducible apply r_pick_f); exact rfl; exact rfl; exact rfl)
      | ((with_reducible apply r_len_f); exact rfl; exact inferInstance; exact rfl)
      | ((with_reducible apply r_store_pa); exact rfl; exact rfl; exact rfl; exact rfl; exact rfl; exact rfl)
      | ((with_reducible apply r_build); exact rfl; exact rfl; exact rfl)
      | ((with_reducible apply r_alloc); exact rfl)
      | (((with_reducible apply r_guard); exact rfl; exact rfl; exact rfl; exact rfl) <;> intro hg <;> (first | (exact absurd hg (by decide)) | ((try simp only [decide_eq_true_eq, decide_eq_false_iff_not, Bool.not_eq_true', Bool.not_eq_false', Bool.not_true, Bool.not_false, Bool.not_not, Int.not_lt, Int.not_le, Nat.not_lt, Nat.not_le, gt_iff_lt, ge_iff_le, List.cons.injEq, and_true] at hg); first | (exact absurd trivial hg) | (exfalso; omega) | (have hT : True := hg; clear hT hg) | skip)))
      | (((with_reducible apply aw_cond); exact rfl) <;> intro hg <;> (first | (exact absurd hg (by decide)) | ((try simp only [decide_eq_true_eq, decide_eq_false_iff_not, Bool.not_eq_true', Bool.not_eq_false', Bool.not_true, Bool.not_false, Bool.not_not, Int.not_lt, Int.not_le, Nat.not_lt, Nat.not_le, gt_iff_lt, ge_iff_le, List.cons.injEq, and_true] at hg); first | (exact absurd trivial hg) | (exfalso; omega) | (have hT : True := hg; clear hT hg) | skip)))
      )
    all_goals exact ret1 (.cell_a inferInstance rfl rfl rfl rfl (cl_cons cl_c (cl_cons cl_c cl_nil)))
  · have e : atR s r = s.rows[(r - s.low).toNat]'(by omega) := by
      unfold atR; rw [if_neg hr]; exact rowD_eq (by omega)
    rw [e]
    refine con_of Try.func57 rfl (by kernel_rfl) rfl ?_
    simp only [Try.ntmps57, Try.results57, argEnv, ofC, of1, List.map]
    repeat' (first
      | ((with_reducible apply aw_seq))
      | ((with_reducible apply aw_region))
      | ((with_reducible apply thn_normal))
      | ((with_reducible apply aw_skip))
      | ((with_reducible apply aw_ret))
      | ((with_reducible apply ao_nil))
      | ((with_reducible apply r_move); exact rfl; exact rfl)
      | ((with_reducible apply r_field_p); exact rfl; exact rfl)
      | ((with_reducible apply r_load_p); exact rfl; exact rfl; exact rfl; exact rfl)
      | ((with_reducible apply r_lss); exact rfl; exact rfl; exact rfl)
      | ((with_reducible apply r_geq); exact rfl; exact rfl; exact rfl)
      | ((with_reducible apply r_add); exact rfl; exact rfl; exact (by first | assumption | (unfold fits; omega)); exact rfl)
      | ((with_reducible apply r_sub); exact rfl; exact rfl; exact (by first | assumption | (unfold fits; omega)); exact rfl)
      | ((with_reducible apply r_box_a); exact rfl; exact rfl)
      | ((with_reducible apply r_pick_f); exact rfl; exact rfl; exact rfl)
      | ((with_reducible apply r_len_f); exact rfl; exact inferInstance; exact rfl)
      | ((with_reducible apply r_index_f); exact rfl; exact inferInstance; exact rfl; exact (Int.toNat_of_nonneg (by omega)).symm; (first | assumption | omega); exact rfl)
      | ((with_reducible apply r_load_fa0); exact rfl; exact inferInstance; exact List.getElem?_eq_getElem (by first | assumption | omega); exact rfl; exact rfl; exact rfl)
      | ((with_reducible apply r_store_pa); exact rfl; exact rfl; exact rfl; exact rfl; exact rfl; exact rfl)
      | ((with_reducible apply r_alloc); exact rfl)
      | (((with_reducible apply r_guard); exact rfl; exact rfl; exact rfl; exact rfl) <;> intro hg <;> (first | (exact absurd hg (by decide)) | ((try simp only [decide_eq_true_eq, decide_eq_false_iff_not, Bool.not_eq_true', Bool.not_eq_false', Bool.not_true, Bool.not_false, Bool.not_not, Int.not_lt, Int.not_le, Nat.not_lt, Nat.not_le, gt_iff_lt, ge_iff_le, List.cons.injEq, and_true] at hg); first | (exact absurd trivial hg) | (exfalso; omega) | (have hT : True := hg; clear hT hg) | skip)))
      | (((with_reducible apply aw_cond); exact rfl) <;> intro hg <;> (first | (exact absurd hg (by decide)) | ((try simp only [decide_eq_true_eq, decide_eq_false_iff_not, Bool.not_eq_true', Bool.not_eq_false', Bool.not_true, Bool.not_false, Bool.not_not, Int.not_lt, Int.not_le, Nat.not_lt, Nat.not_le, gt_iff_lt, ge_iff_le, List.cons.injEq, and_true] at hg); first | (exact absurd trivial hg) | (exfalso; omega) | (have hT : True := hg; clear hT hg) | skip)))
      )
    exact ret1 (.cell_a inferInstance rfl rfl rfl rfl (cl_cons cl_c (cl_cons cl_c cl_nil)))

def bldStep (f : Int → Span) (r : Int) (b : Int × List Span × Nat) : Int × List Span × Nat :=
  if emptyS (f r) = false then (if b.2.2 = 0 then r else b.1, b.2.1 ++ [f r], b.2.1.length + 1)
  else if 0 < b.2.2 then (b.1, b.2.1 ++ [(0, 0)], b.2.2) else b
/-- The rows so far. -/
def bldN (f : Int → Span) : Nat → Int × List Span × Nat
  | 0 => (0, [], 0)
  | j + 1 => bldStep f (-60 + j) (bldN f j)
def bldS (f : Int → Span) : Sec := ⟨(bldN f 120).1, (bldN f 120).2.1.take (bldN f 120).2.2⟩
theorem bldN_len (f : Int → Span) : ∀ j, (bldN f j).2.1.length ≤ j ∧ (bldN f j).2.2 ≤ (bldN f j).2.1.length
  | 0 => ⟨Nat.le_refl _, Nat.le_refl _⟩
  | j + 1 => by
    have ih := bldN_len f j
    unfold bldN bldStep
    split
    · simp; omega
    · split
      · simp; omega
      · omega
noncomputable def meetSec (a b : Sec) : Sec := bldS fun r => meetS (atR (valS a) r) (atR (valS b) r)
set_option maxRecDepth 100000 in
set_option maxHeartbeats 8000000 in
theorem smeet_con (a b : Sec) : Con Try.prog gl 28 [secC a, secC b] (secC (meetSec a b)) := by
  have hva := valid_con (gl := gl) a
  have hvb := valid_con (gl := gl) b
  have va := valS_V a
  have vb := valS_V b
  unfold meetSec
  generalize valS a = u at *
  generalize valS b = w at *
  refine con_of Try.func28 rfl (by kernel_rfl) rfl ?_
  simp only [Try.ntmps28, Try.results28, argEnv, ofC, of1, List.map]
  repeat' (first
    | (refine aw_drawt 4 ?_ ?_; (kernel_rfl); (simp only [List.take_succ_cons, List.take_zero, List.drop_succ_cons, List.drop_zero]))
    | ((with_reducible apply r_call); exact rfl; exact rfl; (first | exact hva | exact hvb); exact rfl; exact rfl)
    | ((with_reducible apply r_makefn); exact rfl; exact rfl)
    | ((with_reducible apply (r_inA Try.func54 rfl Try.results54 (by kernel_rfl) Try.ntmps54)); exact rfl; exact rfl; exact rfl; exact rfl)
    | ((with_reducible apply aw_seq))
    | ((with_reducible apply aw_region))
    | ((with_reducible apply aw_block))
    | ((with_reducible apply thn_normal))
    | ((with_reducible apply ao_nil))
    | ((with_reducible apply r_assign); exact rfl; exact rfl)
    | ((with_reducible apply r_load_pa); exact rfl; exact rfl; exact rfl; exact rfl; exact rfl)
    | ((with_reducible apply r_box_a); exact rfl; exact rfl)
    | ((with_reducible apply r_store_pa); exact rfl; exact rfl; exact rfl; exact rfl; exact rfl; exact rfl)
    | ((with_reducible apply r_alloc); exact rfl)
    | ((with_reducible apply ds_nil))
    )
  refine aw_nilcell 4 1 49 2 rfl rfl rfl rfl ?_
  generalize hf : (fun r => meetS (atR u r) (atR w r)) = f
  have hfr : ∀ r, f r = meetS (atR u r) (atR w r) := fun r => by rw [← hf]
  refine aw_loopG (G := Nat × Int × Int × List Span × Nat × Nat) (fun ((j, r, bl, br, bu, k) : Nat × Int × Int × List Span × Nat × Nat) => j ≤ 120 ∧ r = -60 + (j : Int) ∧ bldN f j = (bl, br, bu) ∧ br.length = k) (fun ((j, r, bl, br, bu, k) : Nat × Int × Int × List Span × Nat × Nat) => 120 - j) (fun ((j, r, bl, br, bu, k) : Nat × Int × Int × List Span × Nat × Nat) => [(0, .fn 55 [.ptr 0 0, .ptr 1 0]), (2, .ptr 3 0), (3, .ptr 4 0), (4, A bu), (5, A r)]) (fun ((j, r, bl, br, bu, k) : Nat × Int × Int × List Span × Nat × Nat) => [(0, some (secB u)), (1, some (secB w)), (2, some (.cells 24 [A 0, .c (.v (.slice none 0 0))])), (3, some (.cells 24 [A 0, .c (.v (.slice none 0 0))])), (4, some (.cells 24 [A bl, .vec 5 k])), (5, some (.vec 49 2 (br.flatMap spC)))]) 6 (0, -60, 0, [], 0, 0) ?_ (by refine weak_mk rfl ?_ ?_ <;> repeat (first | exact envW_nil | exact heapW_nil | refine envW_cons rfl rfl ?_ | refine heapW_cons rfl rfl rfl ?_)) rfl ?_
  · exact ⟨Nat.zero_le _, rfl, rfl, rfl⟩
  rintro ⟨j, r, bl, br, bu, k⟩ hI
  try dsimp only at hI
  try dsimp only
  obtain ⟨hj, hr, hB, hk⟩ := hI
  have hlen := bldN_len f j
  rw [hB] at hlen
  dsimp only at hlen
  by_cases hjl : j < 120
  · have h1 := at_con (gl := gl) u va r (by omega)
    have h2 := at_con (gl := gl) w vb r (by omega)
    have h3 := meet_con (gl := gl) (atR u r).1 (atR u r).2 (atR w r).1 (atR w r).2
    rw [show meetS ((atR u r).1, (atR u r).2) ((atR w r).1, (atR w r).2) = f r from (hfr _).symm] at h3
    have h4 := isEmpty_con (gl := gl) (f r).1 (f r).2
    have hst : bldN f (j + 1) = bldStep f r (bl, br, bu) := by rw [hr, ← hB]; rfl
    repeat' (first
      | (refine aw_drawt 7 ?_ ?_; (kernel_rfl); (simp only [List.take_succ_cons, List.take_zero, List.drop_succ_cons, List.drop_zero]))
      | ((with_reducible apply r_call); exact rfl; exact rfl; (first | exact h1 | exact h2 | exact h3); exact rfl; exact rfl)
      | ((with_reducible apply (r_inFA Try.func55 rfl Try.results55 (by kernel_rfl) Try.ntmps55)); exact rfl; exact rfl; exact rfl; exact rfl; exact rfl)
      | ((with_reducible apply aw_seq))
      | ((with_reducible apply aw_region))
      | ((with_reducible apply aw_block))
      | ((with_reducible apply thn_normal))
      | ((with_reducible apply aw_skip))
      | ((with_reducible apply aw_ret))
      | ((with_reducible apply ao_nil))
      | ((with_reducible apply r_move); exact rfl; exact rfl)
      | ((with_reducible apply r_load_pa); exact rfl; exact rfl; exact rfl; exact rfl; exact rfl)
      | ((with_reducible apply r_lss); exact rfl; exact rfl; exact rfl)
      | ((with_reducible apply r_store_pa); exact rfl; exact rfl; exact rfl; exact rfl; exact rfl; exact rfl)
      | ((with_reducible apply r_alloc); exact rfl)
      | (((with_reducible apply aw_cond); exact rfl) <;> intro hg <;> (first | (exact absurd hg (by decide)) | ((try simp only [decide_eq_true_eq, decide_eq_false_iff_not, Bool.not_eq_true', Bool.not_eq_false', Bool.not_true, Bool.not_false, Bool.not_not, Int.not_lt, Int.not_le, Nat.not_lt, Nat.not_le, gt_iff_lt, ge_iff_le, List.cons.injEq, and_true] at hg); first | (exact absurd trivial hg) | (exfalso; omega) | (have hT : True := hg; clear hT hg) | skip)))
      | ((with_reducible apply ds_nil))
      )
    refine backA_ret inferInstance rfl rfl rfl rfl ?_
    cases he : emptyS (f r) with
    | false =>
      rw [show emptyS ((f r).1, (f r).2) = false from he] at h4
      have hst2 : bldN f (j + 1) = (if bu = 0 then r else bl, br ++ [f r], br.length + 1) := by
        rw [hst]; unfold bldStep; rw [if_pos he]
      rw [hk] at hst2
      by_cases hu0 : bu = 0
      · rw [if_pos hu0] at hst2
        repeat' (first
          | ((with_reducible apply r_call); exact rfl; exact rfl; exact h4; exact rfl; exact rfl)
          | ((with_reducible apply (r_push (enc := spC) (l := br) (x0 := f r))); exact rfl; exact rfl; exact inferInstance; exact hk; exact rfl; exact rfl; exact rfl; exact (by omega); exact (by omega); exact rfl)
          | ((with_reducible apply r_len_v); exact rfl; exact rfl; (rw [flat_len EncL.len]; simp only [List.length_append, List.length_cons, List.length_nil, hk]); exact rfl)
          | ((with_reducible apply aw_seq))
          | ((with_reducible apply aw_region))
          | ((with_reducible apply aw_block))
          | ((with_reducible apply thn_normal))
          | ((with_reducible apply inb_normal))
          | ((with_reducible apply ao_nil))
          | ((with_reducible apply r_move); exact rfl; exact rfl)
          | ((with_reducible apply r_assign); exact rfl; exact rfl)
          | ((with_reducible apply r_field_p); exact rfl; exact rfl)
          | ((with_reducible apply r_load_p); exact rfl; exact rfl; exact rfl; exact rfl)
          | ((with_reducible apply r_load_pa); exact rfl; exact rfl; exact rfl; exact rfl; exact rfl)
          | ((with_reducible apply r_eql); exact rfl; exact rfl; exact rfl)
          | ((with_reducible apply r_add); exact rfl; exact rfl; exact (by first | assumption | (unfold fits; omega)); exact rfl)
          | ((with_reducible apply r_not); exact rfl; exact rfl)
          | ((with_reducible apply r_store_p); exact rfl; exact rfl; exact rfl; exact rfl; exact rfl; exact rfl)
          | ((with_reducible apply r_store_pa); exact rfl; exact rfl; exact rfl; exact rfl; exact rfl; exact rfl)
          | ((with_reducible apply r_alloc); exact rfl)
          | (((with_reducible apply aw_cond); exact rfl) <;> intro hg <;> (first | (exact absurd hg (by decide)) | ((try simp only [decide_eq_true_eq, decide_eq_false_iff_not, Bool.not_eq_true', Bool.not_eq_false', Bool.not_true, Bool.not_false, Bool.not_not, Int.not_lt, Int.not_le, Nat.not_lt, Nat.not_le, gt_iff_lt, ge_iff_le, List.cons.injEq, and_true] at hg); first | (exact absurd trivial hg) | (exfalso; omega) | (have hT : True := hg; clear hT hg) | skip)))
          | ((with_reducible apply r_lit); exact rfl; exact rfl; exact rfl; exact rfl; exact rfl; exact rfl; exact rfl)
          )
        refine ⟨(j + 1, r + 1, r, br ++ [f r], k + 1, k + 1), ?_, ?_, by refine weak_mk rfl ?_ ?_ <;> repeat (first | exact envW_nil | exact heapW_nil | refine envW_cons rfl rfl ?_ | refine heapW_cons rfl rfl rfl ?_)⟩
        · show 120 - (j + 1) < 120 - j; omega
        · exact ⟨by show j + 1 ≤ _; omega, by show r + 1 = -60 + ((j + 1 : Nat) : Int); omega, hst2, by simp [hk]⟩
      · rw [if_neg hu0] at hst2
        repeat' (first
          | ((with_reducible apply r_call); exact rfl; exact rfl; exact h4; exact rfl; exact rfl)
          | ((with_reducible apply (r_push (enc := spC) (l := br) (x0 := f r))); exact rfl; exact rfl; exact inferInstance; exact hk; exact rfl; exact rfl; exact rfl; exact (by omega); exact (by omega); exact rfl)
          | ((with_reducible apply r_len_v); exact rfl; exact rfl; (rw [flat_len EncL.len]; simp only [List.length_append, List.length_cons, List.length_nil, hk]); exact rfl)
          | ((with_reducible apply aw_seq))
          | ((with_reducible apply aw_region))
          | ((with_reducible apply aw_block))
          | ((with_reducible apply thn_normal))
          | ((with_reducible apply inb_normal))
          | ((with_reducible apply aw_skip))
          | ((with_reducible apply ao_nil))
          | ((with_reducible apply r_move); exact rfl; exact rfl)
          | ((with_reducible apply r_assign); exact rfl; exact rfl)
          | ((with_reducible apply r_field_p); exact rfl; exact rfl)
          | ((with_reducible apply r_load_p); exact rfl; exact rfl; exact rfl; exact rfl)
          | ((with_reducible apply r_load_pa); exact rfl; exact rfl; exact rfl; exact rfl; exact rfl)
          | ((with_reducible apply r_eql); exact rfl; exact rfl; exact rfl)
          | ((with_reducible apply r_add); exact rfl; exact rfl; exact (by first | assumption | (unfold fits; omega)); exact rfl)
          | ((with_reducible apply r_not); exact rfl; exact rfl)
          | ((with_reducible apply r_store_p); exact rfl; exact rfl; exact rfl; exact rfl; exact rfl; exact rfl)
          | ((with_reducible apply r_store_pa); exact rfl; exact rfl; exact rfl; exact rfl; exact rfl; exact rfl)
          | ((with_reducible apply r_alloc); exact rfl)
          | (((with_reducible apply aw_cond); exact rfl) <;> intro hg <;> (first | (exact absurd hg (by decide)) | ((try simp only [decide_eq_true_eq, decide_eq_false_iff_not, Bool.not_eq_true', Bool.not_eq_false', Bool.not_true, Bool.not_false, Bool.not_not, Int.not_lt, Int.not_le, Nat.not_lt, Nat.not_le, gt_iff_lt, ge_iff_le, List.cons.injEq, and_true] at hg); first | (exact absurd trivial hg) | (exfalso; omega) | (have hT : True := hg; clear hT hg) | skip)))
          | ((with_reducible apply r_lit); exact rfl; exact rfl; exact rfl; exact rfl; exact rfl; exact rfl; exact rfl)
          )
        refine ⟨(j + 1, r + 1, bl, br ++ [f r], k + 1, k + 1), ?_, ?_, by refine weak_mk rfl ?_ ?_ <;> repeat (first | exact envW_nil | exact heapW_nil | refine envW_cons rfl rfl ?_ | refine heapW_cons rfl rfl rfl ?_)⟩
        · show 120 - (j + 1) < 120 - j; omega
        · exact ⟨by show j + 1 ≤ _; omega, by show r + 1 = -60 + ((j + 1 : Nat) : Int); omega, hst2, by simp [hk]⟩
    | true =>
      rw [show emptyS ((f r).1, (f r).2) = true from he] at h4
      by_cases hu0 : 0 < bu
      · have hst2 : bldN f (j + 1) = (bl, br ++ [(0, 0)], bu) := by
          rw [hst]; unfold bldStep; rw [if_neg (by rw [he]; simp), if_pos hu0]
        repeat' (first
          | ((with_reducible apply r_call); exact rfl; exact rfl; exact h4; exact rfl; exact rfl)
          | ((with_reducible apply (r_push (enc := spC) (l := br) (x0 := ((0, 0) : Span)))); exact rfl; exact rfl; exact inferInstance; exact hk; exact rfl; exact rfl; exact rfl; exact (by omega); exact (by omega); exact rfl)
          | ((with_reducible apply r_len_v); exact rfl; exact rfl; (rw [flat_len EncL.len]; simp only [List.length_append, List.length_cons, List.length_nil, hk]); exact rfl)
          | ((with_reducible apply aw_seq))
          | ((with_reducible apply aw_region))
          | ((with_reducible apply aw_block))
          | ((with_reducible apply thn_normal))
          | ((with_reducible apply inb_normal))
          | ((with_reducible apply ao_nil))
          | ((with_reducible apply r_move); exact rfl; exact rfl)
          | ((with_reducible apply r_assign); exact rfl; exact rfl)
          | ((with_reducible apply r_field_p); exact rfl; exact rfl)
          | ((with_reducible apply r_load_p); exact rfl; exact rfl; exact rfl; exact rfl)
          | ((with_reducible apply r_load_pa); exact rfl; exact rfl; exact rfl; exact rfl; exact rfl)
          | ((with_reducible apply r_gtr); exact rfl; exact rfl; exact rfl)
          | ((with_reducible apply r_add); exact rfl; exact rfl; exact (by first | assumption | (unfold fits; omega)); exact rfl)
          | ((with_reducible apply r_not); exact rfl; exact rfl)
          | ((with_reducible apply r_store_p); exact rfl; exact rfl; exact rfl; exact rfl; exact rfl; exact rfl)
          | ((with_reducible apply r_store_pa); exact rfl; exact rfl; exact rfl; exact rfl; exact rfl; exact rfl)
          | ((with_reducible apply r_build); exact rfl; exact rfl; exact rfl)
          | ((with_reducible apply r_alloc); exact rfl)
          | (((with_reducible apply aw_cond); exact rfl) <;> intro hg <;> (first | (exact absurd hg (by decide)) | ((try simp only [decide_eq_true_eq, decide_eq_false_iff_not, Bool.not_eq_true', Bool.not_eq_false', Bool.not_true, Bool.not_false, Bool.not_not, Int.not_lt, Int.not_le, Nat.not_lt, Nat.not_le, gt_iff_lt, ge_iff_le, List.cons.injEq, and_true] at hg); first | (exact absurd trivial hg) | (exfalso; omega) | (have hT : True := hg; clear hT hg) | skip)))
          | ((with_reducible apply r_lit); exact rfl; exact rfl; exact rfl; exact rfl; exact rfl; exact rfl; exact rfl)
          )
        refine ⟨(j + 1, r + 1, bl, br ++ [(0, 0)], bu, k + 1), ?_, ?_, by refine weak_mk rfl ?_ ?_ <;> repeat (first | exact envW_nil | exact heapW_nil | refine envW_cons rfl rfl ?_ | refine heapW_cons rfl rfl rfl ?_)⟩
        · show 120 - (j + 1) < 120 - j; omega
        · exact ⟨by show j + 1 ≤ _; omega, by show r + 1 = -60 + ((j + 1 : Nat) : Int); omega, hst2, by simp [hk]⟩
      · have hst2 : bldN f (j + 1) = (bl, br, bu) := by
          rw [hst]; unfold bldStep; rw [if_neg (by rw [he]; simp), if_neg hu0]
        repeat' (first
          | ((with_reducible apply r_call); exact rfl; exact rfl; exact h4; exact rfl; exact rfl)
          | ((with_reducible apply aw_seq))
          | ((with_reducible apply aw_region))
          | ((with_reducible apply aw_block))
          | ((with_reducible apply thn_normal))
          | ((with_reducible apply inb_normal))
          | ((with_reducible apply aw_skip))
          | ((with_reducible apply ao_nil))
          | ((with_reducible apply r_move); exact rfl; exact rfl)
          | ((with_reducible apply r_assign); exact rfl; exact rfl)
          | ((with_reducible apply r_load_pa); exact rfl; exact rfl; exact rfl; exact rfl; exact rfl)
          | ((with_reducible apply r_gtr); exact rfl; exact rfl; exact rfl)
          | ((with_reducible apply r_add); exact rfl; exact rfl; exact (by first | assumption | (unfold fits; omega)); exact rfl)
          | ((with_reducible apply r_not); exact rfl; exact rfl)
          | ((with_reducible apply r_store_pa); exact rfl; exact rfl; exact rfl; exact rfl; exact rfl; exact rfl)
          | ((with_reducible apply r_alloc); exact rfl)
          | (((with_reducible apply aw_cond); exact rfl) <;> intro hg <;> (first | (exact absurd hg (by decide)) | ((try simp only [decide_eq_true_eq, decide_eq_false_iff_not, Bool.not_eq_true', Bool.not_eq_false', Bool.not_true, Bool.not_false, Bool.not_not, Int.not_lt, Int.not_le, Nat.not_lt, Nat.not_le, gt_iff_lt, ge_iff_le, List.cons.injEq, and_true] at hg); first | (exact absurd trivial hg) | (exfalso; omega) | (have hT : True := hg; clear hT hg) | skip)))
          )
        refine ⟨(j + 1, r + 1, bl, br, bu, k), ?_, ?_, by refine weak_mk rfl ?_ ?_ <;> repeat (first | exact envW_nil | exact heapW_nil | refine envW_cons rfl rfl ?_ | refine heapW_cons rfl rfl rfl ?_)⟩
        · show 120 - (j + 1) < 120 - j; omega
        · exact ⟨by show j + 1 ≤ _; omega, by show r + 1 = -60 + ((j + 1 : Nat) : Int); omega, hst2, hk⟩
  · obtain rfl : j = 120 := by omega
    have e : bldS f = ⟨bl, br.take bu⟩ := by unfold bldS; rw [hB]
    rw [e]
    repeat' (first
      | ((with_reducible apply (r_freeze 41)); exact rfl; exact rfl; exact (by rw [flat_len EncL.len, hk]))
      | ((with_reducible apply r_slice_hi); exact rfl; exact inferInstance; exact rfl; exact rfl; exact (by omega); exact rfl)
      | ((with_reducible apply aw_seq))
      | ((with_reducible apply aw_region))
      | ((with_reducible apply thn_normal))
      | ((with_reducible apply thn_exit))
      | ((with_reducible apply inb_exit))
      | ((with_reducible apply aw_exit))
      | ((with_reducible apply aw_ret))
      | ((with_reducible apply ao_nil))
      | ((with_reducible apply r_move); exact rfl; exact rfl)
      | ((with_reducible apply r_field_p); exact rfl; exact rfl)
      | ((with_reducible apply r_load_p); exact rfl; exact rfl; exact rfl; exact rfl)
      | ((with_reducible apply r_load_pa); exact rfl; exact rfl; exact rfl; exact rfl; exact rfl)
      | ((with_reducible apply r_lss); exact rfl; exact rfl; exact rfl)
      | ((with_reducible apply r_store_p); exact rfl; exact rfl; exact rfl; exact rfl; exact rfl; exact rfl)
      | ((with_reducible apply r_store_pa); exact rfl; exact rfl; exact rfl; exact rfl; exact rfl; exact rfl)
      | (((with_reducible apply aw_cond); exact rfl) <;> intro hg <;> (first | (exact absurd hg (by decide)) | ((try simp only [decide_eq_true_eq, decide_eq_false_iff_not, Bool.not_eq_true', Bool.not_eq_false', Bool.not_true, Bool.not_false, Bool.not_not, Int.not_lt, Int.not_le, Nat.not_lt, Nat.not_le, gt_iff_lt, ge_iff_le, List.cons.injEq, and_true] at hg); first | (exact absurd trivial hg) | (exfalso; omega) | (have hT : True := hg; clear hT hg) | skip)))
      )
    refine backA_ret inferInstance rfl rfl rfl rfl ?_
    repeat' (first
      | ((with_reducible apply thn_normal))
      | ((with_reducible apply aw_ret))
      | ((with_reducible apply ao_nil))
      | ((with_reducible apply r_store_pa); exact rfl; exact rfl; exact rfl; exact rfl; exact rfl; exact rfl)
      )
    exact ret1 (.cell_a inferInstance rfl rfl rfl rfl (cl_cons cl_c (cl_cons cl_c cl_nil)))
end Go.Proofs.Ytanlfjboahfanaa.Ge
