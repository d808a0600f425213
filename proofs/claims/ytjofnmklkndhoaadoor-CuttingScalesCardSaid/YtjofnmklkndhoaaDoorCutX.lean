/- Walks of the laws on cutting: scaled, CuttingScales. -/
import Derived.Test.YtjofnmklkndhoaaDoorCutW
import Derived.Test.YtjofnmklkndhoaaDoorCutS
import Derived.Test.YtjofnmklkndhoaaDoorEv17
namespace Go.Proofs.YtjofnmklkndhoaaDoor.Cu
set_option linter.unusedVariables false
set_option linter.unusedSimpArgs false
open Go.RowKit Go.Proofs.YtjofnmklkndhoaaDoor.Ev
variable {gl : List (Nat × List CV)}

theorem mul_bd {x k : Int} (hx : -1125899906842624 ≤ x ∧ x ≤ 1125899906842624) (hk : 1 ≤ k ∧ k ≤ 1000) : fits (x * k) := by
  have h1 : x * k ≤ 1125899906842624 * k := Int.mul_le_mul_of_nonneg_right hx.2 (by omega)
  have h2 : -1125899906842624 * k ≤ x * k := Int.mul_le_mul_of_nonneg_right hx.1 (by omega)
  unfold fits; omega
set_option maxRecDepth 100000 in
set_option maxHeartbeats 8000000 in
theorem scaled_con (w : List Int) (k : Int) (hb : Bd w) (hk : 1 ≤ k ∧ k ≤ 1000) (hn : w.length ≤ 100000) : Con Tryd.prog gl 30 [LI w, I k] (LI (scL k w)) := by
  refine con_of Tryd.func30 rfl (by kernel_rfl) rfl ?_
  simp only [Tryd.ntmps30, Tryd.results30, argEnv, ofC, of1, List.map]
  repeat' (first
    | ((with_reducible apply aw_seq))
    | ((with_reducible apply aw_region))
    | ((with_reducible apply aw_block))
    | ((with_reducible apply thn_normal))
    | ((with_reducible apply ao_nil))
    | ((with_reducible apply r_assign); exact rfl; exact rfl)
    )
  refine aw_nilvec 5 3 1 rfl rfl ?_
  refine aw_loopG (G := Nat) (fun (j : Nat) => j ≤ w.length) (fun (j : Nat) => w.length - j) (fun (j : Nat) => [(0, .c (LI w)), (1, A k), (5, .vec 0 j), (6, A j)]) (fun (j : Nat) => [(0, some (.vec 3 1 ((scL k (w.take j)).flatMap inC)))]) 1 0 ?_ (by refine weak_mk rfl ?_ ?_ <;> repeat (first | exact envW_nil | exact heapW_nil | refine envW_cons rfl rfl ?_ | refine heapW_cons rfl rfl rfl ?_)) rfl ?_
  · exact Nat.zero_le _
  rintro j hI
  try dsimp only at hI
  try dsimp only
  have hj : j ≤ w.length := hI
  have hl : (scL k (w.take j)).length = j := by unfold scL; simp; omega
  by_cases hjl : j < w.length
  · have hf := mul_bd (hb j hjl) hk
    have e : scL k (w.take j) ++ [w[j] * k] = scL k (w.take (j + 1)) := by unfold scL; rw [List.take_succ_eq_append_getElem hjl, List.map_append]; rfl
    repeat' (first
      | ((with_reducible apply (r_push (enc := inC) (l := scL k (w.take j)) (x0 := w[j] * k))); exact rfl; exact rfl; exact inferInstance; exact hl; exact rfl; exact rfl; exact rfl; exact (by omega); exact (by omega); exact rfl)
      | ((with_reducible apply aw_seq))
      | ((with_reducible apply aw_region))
      | ((with_reducible apply aw_block))
      | ((with_reducible apply thn_normal))
      | ((with_reducible apply inb_normal))
      | ((with_reducible apply aw_skip))
      | ((with_reducible apply ao_nil))
      | ((with_reducible apply r_move); exact rfl; exact rfl)
      | ((with_reducible apply r_assign); exact rfl; exact rfl)
      | ((with_reducible apply r_lss); exact rfl; exact rfl; exact rfl)
      | ((with_reducible apply r_add); exact rfl; exact rfl; exact (by first | assumption | (unfold fits; omega)); exact rfl)
      | ((with_reducible apply r_mul); exact rfl; exact rfl; exact (by first | assumption | (unfold fits; omega)); exact rfl)
      | ((with_reducible apply r_len_f); exact rfl; exact inferInstance; exact rfl)
      | ((with_reducible apply r_index_f); exact rfl; exact inferInstance; exact rfl; exact rfl; (first | assumption | omega); exact rfl)
      | ((with_reducible apply r_load_f0); exact rfl; exact inferInstance; exact List.getElem?_eq_getElem (by first | assumption | omega); exact rfl; exact rfl)
      | (((with_reducible apply aw_cond); exact rfl) <;> intro hg <;> (first | (exact absurd hg (by decide)) | ((try simp only [decide_eq_true_eq, decide_eq_false_iff_not, Bool.not_eq_true', Bool.not_eq_false', Bool.not_true, Bool.not_false, Bool.not_not, Int.not_lt, Int.not_le, Nat.not_lt, Nat.not_le, gt_iff_lt, ge_iff_le, List.cons.injEq, and_true] at hg); first | (exact absurd trivial hg) | (exfalso; omega) | (have hT : True := hg; clear hT hg) | skip)))
      | ((with_reducible apply r_lit); exact rfl; exact rfl; exact rfl; exact rfl; exact rfl; exact rfl; exact rfl)
      )
    rw [e]
    refine ⟨j + 1, ?_, ?_, by refine weak_mk rfl ?_ ?_ <;> repeat (first | exact envW_nil | exact heapW_nil | refine envW_cons rfl rfl ?_ | refine heapW_cons rfl rfl rfl ?_)⟩
    · show _ - (j + 1) < _ - j; omega
    · show j + 1 ≤ _; omega
  · obtain rfl : j = w.length := by omega
    rw [List.take_length] at hl ⊢
    repeat' (first
      | ((with_reducible apply aw_seq))
      | ((with_reducible apply aw_region))
      | ((with_reducible apply thn_normal))
      | ((with_reducible apply thn_exit))
      | ((with_reducible apply inb_exit))
      | ((with_reducible apply aw_exit))
      | ((with_reducible apply aw_ret))
      | ((with_reducible apply ao_nil))
      | ((with_reducible apply r_move); exact rfl; exact rfl)
      | ((with_reducible apply r_assign); exact rfl; exact rfl)
      | ((with_reducible apply r_lss); exact rfl; exact rfl; exact rfl)
      | ((with_reducible apply r_len_f); exact rfl; exact inferInstance; exact rfl)
      | (((with_reducible apply aw_cond); exact rfl) <;> intro hg <;> (first | (exact absurd hg (by decide)) | ((try simp only [decide_eq_true_eq, decide_eq_false_iff_not, Bool.not_eq_true', Bool.not_eq_false', Bool.not_true, Bool.not_false, Bool.not_not, Int.not_lt, Int.not_le, Nat.not_lt, Nat.not_le, gt_iff_lt, ge_iff_le, List.cons.injEq, and_true] at hg); first | (exact absurd trivial hg) | (exfalso; omega) | (have hT : True := hg; clear hT hg) | skip)))
      )
    exact ret1 (.tmp rfl (cl_vec rfl ((flat_len EncL.len _).trans (congrArg (· * 1) hl))))

abbrev nilL : List AV := [A 0, A 0, A 0, .c (.v (.slice none 0 0)), .c (.v (.slice none 0 0)), .c (.v (.slice none 0 0)), .c (.v (.slice none 0 0))]
set_option maxRecDepth 100000 in
set_option maxHeartbeats 16000000 in
theorem scalesLaw_con (l : Line) (k : Int) (hN : l.gain.length ≤ maxLen) : Con Tryd.prog G 10 [lineC l, I k] T := by
  have hf := short_con (gl := G) l hN
  have hc := check_con (gl := G) l
  refine con_of Tryd.func10 rfl (by kernel_rfl) rfl ?_
  simp only [Tryd.ntmps10, Tryd.results10, argEnv, ofC, of1, List.map, lineC, lineL]
  cases h : shortS l with
  | false =>
    rw [h] at hf
    repeat' (first
      | ((with_reducible apply r_call); exact rfl; exact rfl; (first | exact hf | exact awake_con); exact rfl; exact rfl)
      | ((with_reducible apply aw_seq))
      | ((with_reducible apply aw_region))
      | ((with_reducible apply thn_normal))
      | ((with_reducible apply thn_ret))
      | ((with_reducible apply aw_ret))
      | ((with_reducible apply ao_nil))
      | ((with_reducible apply r_move); exact rfl; exact rfl)
      | ((with_reducible apply r_assign); exact rfl; exact rfl)
      | ((with_reducible apply r_load_pa); exact rfl; exact rfl; exact rfl; exact rfl; exact rfl)
      | ((with_reducible apply r_box_a); exact rfl; exact rfl)
      | ((with_reducible apply r_pick_t); exact rfl; exact rfl; exact rfl)
      | ((with_reducible apply r_not); exact rfl; exact rfl)
      | (((with_reducible apply r_guard); exact rfl; exact rfl; exact rfl; exact rfl) <;> intro hg <;> (first | (exact absurd hg (by decide)) | ((try simp only [decide_eq_true_eq, decide_eq_false_iff_not, Bool.not_eq_true', Bool.not_eq_false', Bool.not_true, Bool.not_false, Bool.not_not, Int.not_lt, Int.not_le, Nat.not_lt, Nat.not_le, gt_iff_lt, ge_iff_le, List.cons.injEq, and_true] at hg); first | (exact absurd trivial hg) | (exfalso; omega) | (have hT : True := hg; clear hT hg) | skip)))
      | (((with_reducible apply aw_cond); exact rfl) <;> intro hg <;> (first | (exact absurd hg (by decide)) | ((try simp only [decide_eq_true_eq, decide_eq_false_iff_not, Bool.not_eq_true', Bool.not_eq_false', Bool.not_true, Bool.not_false, Bool.not_not, Int.not_lt, Int.not_le, Nat.not_lt, Nat.not_le, gt_iff_lt, ge_iff_le, List.cons.injEq, and_true] at hg); first | (exact absurd trivial hg) | (exfalso; omega) | (have hT : True := hg; clear hT hg) | skip)))
      )
    all_goals first | exact ret_b rfl rfl | trace_state
  | true =>
  rw [h] at hf
  have hso := short_out h
  have hfo := few_out hso.1
  have hfr := few_rows hso.1
  by_cases hk : chk l = 0
  rotate_left
  · skip
    repeat' (first
      | ((with_reducible apply r_call); exact rfl; exact rfl; (first | exact hf | exact hc | exact awake_con); exact rfl; exact rfl)
      | ((with_reducible apply aw_seq))
      | ((with_reducible apply aw_region))
      | ((with_reducible apply thn_normal))
      | ((with_reducible apply thn_ret))
      | ((with_reducible apply aw_ret))
      | ((with_reducible apply ao_nil))
      | ((with_reducible apply r_move); exact rfl; exact rfl)
      | ((with_reducible apply r_assign); exact rfl; exact rfl)
      | ((with_reducible apply r_load_pa); exact rfl; exact rfl; exact rfl; exact rfl; exact rfl)
      | ((with_reducible apply r_neq); exact rfl; exact rfl; exact rfl)
      | ((with_reducible apply r_box_a); exact rfl; exact rfl)
      | ((with_reducible apply r_pick_t); exact rfl; exact rfl; exact rfl)
      | ((with_reducible apply r_pick_f); exact rfl; exact rfl; exact rfl)
      | ((with_reducible apply r_not); exact rfl; exact rfl)
      | (((with_reducible apply r_guard); exact rfl; exact rfl; exact rfl; exact rfl) <;> intro hg <;> (first | (exact absurd hg (by decide)) | ((try simp only [decide_eq_true_eq, decide_eq_false_iff_not, Bool.not_eq_true', Bool.not_eq_false', Bool.not_true, Bool.not_false, Bool.not_not, Int.not_lt, Int.not_le, Nat.not_lt, Nat.not_le, gt_iff_lt, ge_iff_le, List.cons.injEq, and_true] at hg); first | (exact absurd trivial hg) | (exfalso; omega) | (have hT : True := hg; clear hT hg) | skip)))
      | (((with_reducible apply aw_cond); exact rfl) <;> intro hg <;> (first | (exact absurd hg (by decide)) | ((try simp only [decide_eq_true_eq, decide_eq_false_iff_not, Bool.not_eq_true', Bool.not_eq_false', Bool.not_true, Bool.not_false, Bool.not_not, Int.not_lt, Int.not_le, Nat.not_lt, Nat.not_le, gt_iff_lt, ge_iff_le, List.cons.injEq, and_true] at hg); first | (exact absurd trivial hg) | (exfalso; omega) | (have hT : True := hg; clear hT hg) | skip)))
      )
    all_goals first | exact ret_b rfl rfl | trace_state
  by_cases hb1 : 1 ≤ k ∧ k ≤ 1000
  rotate_left
  · skip
    repeat' (first
      | ((with_reducible apply r_call); exact rfl; exact rfl; (first | exact hf | exact hc | exact awake_con); exact rfl; exact rfl)
      | ((with_reducible apply aw_seq))
      | ((with_reducible apply aw_region))
      | ((with_reducible apply thn_normal))
      | ((with_reducible apply thn_ret))
      | ((with_reducible apply aw_ret))
      | ((with_reducible apply ao_nil))
      | ((with_reducible apply r_move); exact rfl; exact rfl)
      | ((with_reducible apply r_assign); exact rfl; exact rfl)
      | ((with_reducible apply r_load_pa); exact rfl; exact rfl; exact rfl; exact rfl; exact rfl)
      | ((with_reducible apply r_lss); exact rfl; exact rfl; exact rfl)
      | ((with_reducible apply r_gtr); exact rfl; exact rfl; exact rfl)
      | ((with_reducible apply r_neq); exact rfl; exact rfl; exact rfl)
      | ((with_reducible apply r_box_a); exact rfl; exact rfl)
      | ((with_reducible apply r_pick_t); exact rfl; exact rfl; exact rfl)
      | ((with_reducible apply r_pick_f); exact rfl; exact rfl; exact rfl)
      | ((with_reducible apply r_not); exact rfl; exact rfl)
      | (((with_reducible apply r_guard); exact rfl; exact rfl; exact rfl; exact rfl) <;> intro hg <;> (first | (exact absurd hg (by decide)) | ((try simp only [decide_eq_true_eq, decide_eq_false_iff_not, Bool.not_eq_true', Bool.not_eq_false', Bool.not_true, Bool.not_false, Bool.not_not, Int.not_lt, Int.not_le, Nat.not_lt, Nat.not_le, gt_iff_lt, ge_iff_le, List.cons.injEq, and_true] at hg); first | (exact absurd trivial hg) | (exfalso; omega) | (have hT : True := hg; clear hT hg) | skip)))
      | (((with_reducible apply aw_cond); exact rfl) <;> intro hg <;> (first | (exact absurd hg (by decide)) | ((try simp only [decide_eq_true_eq, decide_eq_false_iff_not, Bool.not_eq_true', Bool.not_eq_false', Bool.not_true, Bool.not_false, Bool.not_not, Int.not_lt, Int.not_le, Nat.not_lt, Nat.not_le, gt_iff_lt, ge_iff_le, List.cons.injEq, and_true] at hg); first | (exact absurd trivial hg) | (exfalso; omega) | (have hT : True := hg; clear hT hg) | skip)))
      )
    all_goals first | exact ret_b rfl rfl | trace_state
  have v := valid_of hk
  repeat' (first
    | ((with_reducible apply r_call); exact rfl; exact rfl; (first | exact hf | exact hc | exact awake_con); exact rfl; exact rfl)
    | ((with_reducible apply (r_inA Tryd.func29 rfl Tryd.results29 (by kernel_rfl) Tryd.ntmps29)); exact rfl; exact rfl; exact rfl; exact rfl)
    | ((with_reducible apply (r_appendl (enc := inC) (l := []) (l2 := l.sizes))); exact rfl; exact rfl; exact inferInstance; exact rfl; exact rfl; exact (by show 0 + l.sizes.length < _; omega); exact (by show (0 + l.sizes.length) * 8 ≤ _; omega); exact rfl)
    | ((with_reducible apply aw_seq))
    | ((with_reducible apply aw_region))
    | ((with_reducible apply aw_block))
    | ((with_reducible apply thn_normal))
    | ((with_reducible apply aw_skip))
    | ((with_reducible apply ao_nil))
    | ((with_reducible apply r_move); exact rfl; exact rfl)
    | ((with_reducible apply r_assign); exact rfl; exact rfl)
    | ((with_reducible apply r_field_p); exact rfl; exact rfl)
    | ((with_reducible apply r_load_p); exact rfl; exact rfl; exact rfl; exact rfl)
    | ((with_reducible apply r_load_pa); exact rfl; exact rfl; exact rfl; exact rfl; exact rfl)
    | ((with_reducible apply r_lss); exact rfl; exact rfl; exact rfl)
    | ((with_reducible apply r_gtr); exact rfl; exact rfl; exact rfl)
    | ((with_reducible apply r_neq); exact rfl; exact rfl; exact rfl)
    | ((with_reducible apply r_box_a); exact rfl; exact rfl)
    | ((with_reducible apply r_pick_f); exact rfl; exact rfl; exact rfl)
    | ((with_reducible apply r_not); exact rfl; exact rfl)
    | ((with_reducible apply r_store_p); exact rfl; exact rfl; exact rfl; exact rfl; exact rfl; exact rfl)
    | ((with_reducible apply r_store_pa); exact rfl; exact rfl; exact rfl; exact rfl; exact rfl; exact rfl)
    | ((with_reducible apply r_alloc); exact rfl)
    | (((with_reducible apply r_guard); exact rfl; exact rfl; exact rfl; exact rfl) <;> intro hg <;> (first | (exact absurd hg (by decide)) | ((try simp only [decide_eq_true_eq, decide_eq_false_iff_not, Bool.not_eq_true', Bool.not_eq_false', Bool.not_true, Bool.not_false, Bool.not_not, Int.not_lt, Int.not_le, Nat.not_lt, Nat.not_le, gt_iff_lt, ge_iff_le, List.cons.injEq, and_true] at hg); first | (exact absurd trivial hg) | (exfalso; omega) | (have hT : True := hg; clear hT hg) | skip)))
    | (((with_reducible apply aw_cond); exact rfl) <;> intro hg <;> (first | (exact absurd hg (by decide)) | ((try simp only [decide_eq_true_eq, decide_eq_false_iff_not, Bool.not_eq_true', Bool.not_eq_false', Bool.not_true, Bool.not_false, Bool.not_not, Int.not_lt, Int.not_le, Nat.not_lt, Nat.not_le, gt_iff_lt, ge_iff_le, List.cons.injEq, and_true] at hg); first | (exact absurd trivial hg) | (exfalso; omega) | (have hT : True := hg; clear hT hg) | skip)))
    | ((with_reducible apply r_lit0); exact rfl)
    )
  refine aw_nilcell 3 4 22 1 rfl rfl rfl rfl ?_
  rw [Nat.zero_add l.sizes.length, List.nil_append]
  refine aw_loopG (G := Nat × Nat) (fun ((j, r) : Nat × Nat) => j ≤ l.gain.length ∧ r = j) (fun ((j, r) : Nat × Nat) => l.gain.length - j) (fun ((j, r) : Nat × Nat) => [(1, .ptr 1 0), (2, .ptr 2 0), (3, .ptr 3 0), (4, A j)]) (fun ((j, r) : Nat × Nat) => [(0, some (lineB l)), (1, some (lineB l)), (2, some (.cells 25 nilL)), (3, some (.cells 25 [A l.len, A l.kerf, A l.pitch, .vec 4 l.sizes.length, .vec 5 r, .c (LI l.chip), .c (LI l.dust)])), (4, some (.vec 3 1 (l.sizes.flatMap inC))), (5, some (.vec 22 1 ((l.gain.take j).flatMap rowC)))]) 6 (0, 0) ?_ (by refine weak_mk rfl ?_ ?_ <;> repeat (first | exact envW_nil | exact heapW_nil | refine envW_cons rfl rfl ?_ | refine heapW_cons rfl rfl rfl ?_)) rfl ?_
  · exact ⟨Nat.zero_le _, rfl⟩
  rintro ⟨j, r⟩ hI
  try dsimp only at hI
  try dsimp only
  obtain ⟨hj, rfl⟩ := hI
  have hrl : (l.gain.take r).length = r := by simp; omega
  by_cases hjl : r < l.gain.length
  · have hro := hfr r hjl
    repeat' (first
      | (refine aw_drawt 10 ?_ ?_; (kernel_rfl); (simp only [List.take_succ_cons, List.take_zero, List.drop_succ_cons, List.drop_zero]))
      | ((with_reducible apply r_lit0q); exact rfl)
      | ((with_reducible apply (r_append0q (enc := inC) (l2 := l.gain[r]))); exact rfl; exact rfl; exact inferInstance; exact (by omega); exact (by omega); exact rfl)
      | ((with_reducible apply (r_appendl (enc := rowC) (l := l.gain.take r) (l2 := [l.gain[r]]))); exact rfl; exact rfl; exact inferInstance; exact hrl; exact rfl; exact (by show r + 1 < _; omega); exact (by show (r + 1) * 24 ≤ _; omega); exact rfl)
      | ((with_reducible apply aw_seq))
      | ((with_reducible apply aw_region))
      | ((with_reducible apply aw_block))
      | ((with_reducible apply thn_normal))
      | ((with_reducible apply inb_normal))
      | ((with_reducible apply aw_skip))
      | ((with_reducible apply ao_nil))
      | ((with_reducible apply r_move); exact rfl; exact rfl)
      | ((with_reducible apply r_assign); exact rfl; exact rfl)
      | ((with_reducible apply r_field_p); exact rfl; exact rfl)
      | ((with_reducible apply r_load_p); exact rfl; exact rfl; exact rfl; exact rfl)
      | ((with_reducible apply r_lss); exact rfl; exact rfl; exact rfl)
      | ((with_reducible apply r_add); exact rfl; exact rfl; exact (by first | assumption | (unfold fits; omega)); exact rfl)
      | ((with_reducible apply r_len_f); exact rfl; exact inferInstance; exact rfl)
      | ((with_reducible apply r_index_f); exact rfl; exact inferInstance; exact rfl; exact rfl; (first | assumption | omega); exact rfl)
      | ((with_reducible apply r_load_f0); exact rfl; exact inferInstance; exact List.getElem?_eq_getElem (by first | assumption | omega); exact rfl; exact rfl)
      | ((with_reducible apply r_store_p); exact rfl; exact rfl; exact rfl; exact rfl; exact rfl; exact rfl)
      | (((with_reducible apply aw_cond); exact rfl) <;> intro hg <;> (first | (exact absurd hg (by decide)) | ((try simp only [decide_eq_true_eq, decide_eq_false_iff_not, Bool.not_eq_true', Bool.not_eq_false', Bool.not_true, Bool.not_false, Bool.not_not, Int.not_lt, Int.not_le, Nat.not_lt, Nat.not_le, gt_iff_lt, ge_iff_le, List.cons.injEq, and_true] at hg); first | (exact absurd trivial hg) | (exfalso; omega) | (have hT : True := hg; clear hT hg) | skip)))
      | ((with_reducible apply ds_nil))
      | ((with_reducible apply r_litq); exact rfl; exact rfl; exact rfl; exact rfl; exact rfl; exact rfl; exact rfl)
      )
    rw [← List.take_succ_eq_append_getElem hjl]
    refine ⟨(r + 1, r + 1), ?_, ?_, by refine weak_mk rfl ?_ ?_ <;> repeat (first | exact envW_nil | exact heapW_nil | refine envW_cons rfl rfl ?_ | refine heapW_cons rfl rfl rfl ?_)⟩
    · show _ - (r + 1) < _ - r; omega
    · exact ⟨by show r + 1 ≤ _; omega, rfl⟩
  obtain rfl : r = l.gain.length := by omega
  rw [List.take_length]
  have hs1 := scaled_con (gl := G) l.chip k v.chips hb1 (by omega)
  have hs2 := scaled_con (gl := G) l.dust k v.dusts hb1 (by omega)
  repeat' (first
    | ((with_reducible apply aw_seq))
    | ((with_reducible apply aw_region))
    | ((with_reducible apply thn_normal))
    | ((with_reducible apply thn_exit))
    | ((with_reducible apply inb_exit))
    | ((with_reducible apply aw_exit))
    | ((with_reducible apply aw_ret))
    | ((with_reducible apply ao_nil))
    | ((with_reducible apply r_move); exact rfl; exact rfl)
    | ((with_reducible apply r_field_p); exact rfl; exact rfl)
    | ((with_reducible apply r_load_p); exact rfl; exact rfl; exact rfl; exact rfl)
    | ((with_reducible apply r_load_pa); exact rfl; exact rfl; exact rfl; exact rfl; exact rfl)
    | ((with_reducible apply r_lss); exact rfl; exact rfl; exact rfl)
    | ((with_reducible apply r_len_f); exact rfl; exact inferInstance; exact rfl)
    | ((with_reducible apply r_store_pa); exact rfl; exact rfl; exact rfl; exact rfl; exact rfl; exact rfl)
    | (((with_reducible apply aw_cond); exact rfl) <;> intro hg <;> (first | (exact absurd hg (by decide)) | ((try simp only [decide_eq_true_eq, decide_eq_false_iff_not, Bool.not_eq_true', Bool.not_eq_false', Bool.not_true, Bool.not_false, Bool.not_not, Int.not_lt, Int.not_le, Nat.not_lt, Nat.not_le, gt_iff_lt, ge_iff_le, List.cons.injEq, and_true] at hg); first | (exact absurd trivial hg) | (exfalso; omega) | (have hT : True := hg; clear hT hg) | skip)))
    )
  refine backA_ret inferInstance rfl rfl rfl rfl ?_
  repeat' (first
    | (refine aw_drawt 9 ?_ ?_; (kernel_rfl); (simp only [List.take_succ_cons, List.take_zero, List.drop_succ_cons, List.drop_zero]))
    | ((with_reducible apply r_call); exact rfl; exact rfl; (first | exact hs1 | exact hs2); exact rfl; exact rfl)
    | ((with_reducible apply aw_seq))
    | ((with_reducible apply aw_region))
    | ((with_reducible apply aw_block))
    | ((with_reducible apply thn_normal))
    | ((with_reducible apply ao_nil))
    | ((with_reducible apply r_move); exact rfl; exact rfl)
    | ((with_reducible apply r_assign); exact rfl; exact rfl)
    | ((with_reducible apply r_field_p); exact rfl; exact rfl)
    | ((with_reducible apply r_load_p); exact rfl; exact rfl; exact rfl; exact rfl)
    | ((with_reducible apply r_store_p); exact rfl; exact rfl; exact rfl; exact rfl; exact rfl; exact rfl)
    | ((with_reducible apply r_store_pa); exact rfl; exact rfl; exact rfl; exact rfl; exact rfl; exact rfl)
    | ((with_reducible apply r_alloc); exact rfl)
    | ((with_reducible apply ds_nil))
    )
  refine aw_loopG (G := Nat) (fun (j : Nat) => j ≤ l.gain.length) (fun (j : Nat) => l.gain.length - j) (fun (j : Nat) => [(1, A k), (2, .ptr 0 0), (5, .ptr 6 0), (6, A j)]) (fun (j : Nat) => [(0, some (lineB l)), (4, some (.vec 3 1 (l.sizes.flatMap inC))), (5, some (.vec 22 1 ((mixG k l.gain j).flatMap rowC))), (6, some (.cells 25 [A l.len, A l.kerf, A l.pitch, .vec 4 l.sizes.length, .vec 5 l.gain.length, .c (LI (scL k l.chip)), .c (LI (scL k l.dust))]))]) 7 0 ?_ (by refine weak_mk rfl ?_ ?_ <;> repeat (first | exact envW_nil | exact heapW_nil | refine envW_cons rfl rfl ?_ | refine heapW_cons rfl rfl rfl ?_)) rfl ?_
  · exact Nat.zero_le _
  rintro j hI
  try dsimp only at hI
  try dsimp only
  have hj2 : j ≤ l.gain.length := hI
  have hml := mix_len k l.gain j hj2
  by_cases hjl : j < l.gain.length
  · have hro := hfr j hjl
    have hs3 := scaled_con (gl := G) l.gain[j] k (v.gains j hjl) hb1 (by omega)
    repeat' (first
      | (refine aw_drawt 10 ?_ ?_; (kernel_rfl); (simp only [List.take_succ_cons, List.take_zero, List.drop_succ_cons, List.drop_zero]))
      | ((with_reducible apply r_call); exact rfl; exact rfl; exact hs3; exact rfl; exact rfl)
      | ((with_reducible apply (r_store_v (enc := rowC) (k := j) (l := mixG k l.gain j) (scL k l.gain[j]))); exact rfl; exact rfl; exact inferInstance; exact hml; exact (by omega); exact rfl; exact rfl; exact rfl; exact rfl)
      | ((with_reducible apply aw_seq))
      | ((with_reducible apply aw_region))
      | ((with_reducible apply aw_block))
      | ((with_reducible apply thn_normal))
      | ((with_reducible apply inb_normal))
      | ((with_reducible apply aw_skip))
      | ((with_reducible apply ao_nil))
      | ((with_reducible apply r_move); exact rfl; exact rfl)
      | ((with_reducible apply r_assign); exact rfl; exact rfl)
      | ((with_reducible apply r_field_p); exact rfl; exact rfl)
      | ((with_reducible apply r_load_p); exact rfl; exact rfl; exact rfl; exact rfl)
      | ((with_reducible apply r_lss); exact rfl; exact rfl; exact rfl)
      | ((with_reducible apply r_add); exact rfl; exact rfl; exact (by first | assumption | (unfold fits; omega)); exact rfl)
      | ((with_reducible apply r_len_f); exact rfl; exact inferInstance; exact rfl)
      | ((with_reducible apply r_index_f); exact rfl; exact inferInstance; exact rfl; exact rfl; (first | assumption | omega); exact rfl)
      | ((with_reducible apply r_load_f0); exact rfl; exact inferInstance; exact List.getElem?_eq_getElem (by first | assumption | omega); exact rfl; exact rfl)
      | ((with_reducible apply r_index_vf); exact rfl; exact rfl; exact inferInstance; (first | exact rfl | assumption | omega); exact rfl; exact rfl; (first | assumption | omega); exact rfl)
      | (((with_reducible apply aw_cond); exact rfl) <;> intro hg <;> (first | (exact absurd hg (by decide)) | ((try simp only [decide_eq_true_eq, decide_eq_false_iff_not, Bool.not_eq_true', Bool.not_eq_false', Bool.not_true, Bool.not_false, Bool.not_not, Int.not_lt, Int.not_le, Nat.not_lt, Nat.not_le, gt_iff_lt, ge_iff_le, List.cons.injEq, and_true] at hg); first | (exact absurd trivial hg) | (exfalso; omega) | (have hT : True := hg; clear hT hg) | skip)))
      | ((with_reducible apply ds_nil))
      )
    rw [mix_set k l.gain j hjl]
    refine ⟨j + 1, ?_, ?_, by refine weak_mk rfl ?_ ?_ <;> repeat (first | exact envW_nil | exact heapW_nil | refine envW_cons rfl rfl ?_ | refine heapW_cons rfl rfl rfl ?_)⟩
    · show _ - (j + 1) < _ - j; omega
    · show j + 1 ≤ _; omega
  obtain rfl : j = l.gain.length := by omega
  rw [mix_end] at hml ⊢
  have hcm := check_con (gl := G) (scaleL k l)
  have hbl := best_con l
  have hbm := best_con (scaleL k l)
  apply aw_freezecell 6 3
  · exact rfl
  · exact rfl
  · exact rfl
  · exact flat_len EncL.len _
  · exact rfl
  apply aw_freezecell 6 4
  · exact rfl
  · exact rfl
  · exact rfl
  · exact (flat_len EncL.len _).trans (congrArg (· * 1) hml)
  · exact rfl
  by_cases hkm : chk (scaleL k l) = 0
  · rw [best_sc (by omega) hk hkm] at hbm
    rw [hkm] at hcm
    have hsp := samePieces_con (gl := G) (bestS l).1 (best_len l hso.2.1)
    have vm := valid_of hkm
    have hbd := T_bd vm ((scaleL k l).len.toNat + 1) 0 (by omega) vm.len.1
    have he : (bestS (scaleL k l)).2.1 = (bestS l).2.1 * k := by rw [best_sc (by omega) hk hkm]
    rw [best_ok hkm] at he
    have hfit : fits ((bestS l).2.1 * k) := by
      rw [← he]
      have hlen := vm.len
      show fits (TV (scaleL k l) 0)
      unfold TV TT fits
      omega
    have he0 : (bestS l).2.2 = 0 := by rw [best_ok hk]
    obtain ⟨q, n, e, hq⟩ : ∃ q n e, bestS l = (q, n, e) := ⟨_, _, _, rfl⟩
    rw [hq] at hbm hbl hsp hfit he0
    repeat' (first
      | ((with_reducible apply r_call); exact rfl; exact rfl; (first | exact hcm | exact hbl | exact hbm | exact hsp | exact awake_con); exact rfl; exact rfl)
      | ((with_reducible apply aw_seq))
      | ((with_reducible apply aw_region))
      | ((with_reducible apply thn_normal))
      | ((with_reducible apply thn_exit))
      | ((with_reducible apply inb_exit))
      | ((with_reducible apply aw_skip))
      | ((with_reducible apply aw_exit))
      | ((with_reducible apply aw_ret))
      | ((with_reducible apply ao_nil))
      | ((with_reducible apply r_move); exact rfl; exact rfl)
      | ((with_reducible apply r_assign); exact rfl; exact rfl)
      | ((with_reducible apply r_field_p); exact rfl; exact rfl)
      | ((with_reducible apply r_load_p); exact rfl; exact rfl; exact rfl; exact rfl)
      | ((with_reducible apply r_load_pa); exact rfl; exact rfl; exact rfl; exact rfl; exact rfl)
      | ((with_reducible apply r_lss); exact rfl; exact rfl; exact rfl)
      | ((with_reducible apply r_eql); exact rfl; exact rfl; exact rfl)
      | ((with_reducible apply r_neq); exact rfl; exact rfl; exact rfl)
      | ((with_reducible apply r_mul); exact rfl; exact rfl; exact (by first | assumption | (unfold fits; omega)); exact rfl)
      | ((with_reducible apply r_pick_t); exact rfl; exact rfl; exact rfl)
      | ((with_reducible apply r_pick_f); exact rfl; exact rfl; exact rfl)
      | ((with_reducible apply r_len_f); exact rfl; exact inferInstance; exact rfl)
      | ((with_reducible apply r_extract); exact rfl; exact rfl; exact rfl)
      | (((with_reducible apply r_guard); exact rfl; exact rfl; exact rfl; exact rfl) <;> intro hg <;> (first | (exact absurd hg (by decide)) | ((try simp only [decide_eq_true_eq, decide_eq_false_iff_not, Bool.not_eq_true', Bool.not_eq_false', Bool.not_true, Bool.not_false, Bool.not_not, Int.not_lt, Int.not_le, Nat.not_lt, Nat.not_le, gt_iff_lt, ge_iff_le, List.cons.injEq, and_true] at hg); first | (exact absurd trivial hg) | (exfalso; omega) | (have hT : True := hg; clear hT hg) | skip)))
      | (((with_reducible apply aw_cond); exact rfl) <;> intro hg <;> (first | (exact absurd hg (by decide)) | ((try simp only [decide_eq_true_eq, decide_eq_false_iff_not, Bool.not_eq_true', Bool.not_eq_false', Bool.not_true, Bool.not_false, Bool.not_not, Int.not_lt, Int.not_le, Nat.not_lt, Nat.not_le, gt_iff_lt, ge_iff_le, List.cons.injEq, and_true] at hg); first | (exact absurd trivial hg) | (exfalso; omega) | (have hT : True := hg; clear hT hg) | skip)))
      )
    all_goals first | exact ret_b rfl rfl | exact absurd he0 hg | trace_state
  · skip
    repeat' (first
      | ((with_reducible apply r_call); exact rfl; exact rfl; (first | exact hcm | exact hbl | exact hbm | exact awake_con); exact rfl; exact rfl)
      | ((with_reducible apply aw_seq))
      | ((with_reducible apply aw_region))
      | ((with_reducible apply thn_normal))
      | ((with_reducible apply thn_ret))
      | ((with_reducible apply thn_exit))
      | ((with_reducible apply inb_exit))
      | ((with_reducible apply aw_exit))
      | ((with_reducible apply aw_ret))
      | ((with_reducible apply ao_nil))
      | ((with_reducible apply r_move); exact rfl; exact rfl)
      | ((with_reducible apply r_assign); exact rfl; exact rfl)
      | ((with_reducible apply r_field_p); exact rfl; exact rfl)
      | ((with_reducible apply r_load_p); exact rfl; exact rfl; exact rfl; exact rfl)
      | ((with_reducible apply r_load_pa); exact rfl; exact rfl; exact rfl; exact rfl; exact rfl)
      | ((with_reducible apply r_lss); exact rfl; exact rfl; exact rfl)
      | ((with_reducible apply r_neq); exact rfl; exact rfl; exact rfl)
      | ((with_reducible apply r_len_f); exact rfl; exact inferInstance; exact rfl)
      | (((with_reducible apply aw_cond); exact rfl) <;> intro hg <;> (first | (exact absurd hg (by decide)) | ((try simp only [decide_eq_true_eq, decide_eq_false_iff_not, Bool.not_eq_true', Bool.not_eq_false', Bool.not_true, Bool.not_false, Bool.not_not, Int.not_lt, Int.not_le, Nat.not_lt, Nat.not_le, gt_iff_lt, ge_iff_le, List.cons.injEq, and_true] at hg); first | (exact absurd trivial hg) | (exfalso; omega) | (have hT : True := hg; clear hT hg) | skip)))
      )
    all_goals first | exact ret_b rfl rfl | trace_state
theorem scales_law (l : Line) (h : l.gain.length ≤ maxLen ∧ ((Lit.int .i64 l.len).wf = true ∧ l.sizes.length ≤ maxLen ∧ l.chip.length ≤ maxLen ∧ l.dust.length ≤ maxLen)) (k : Int) (_ : (Lit.int .i64 k).wf = true) : Con Tryd.prog G 10 [lineC l, I k] T := scalesLaw_con l k h.1
end Go.Proofs.YtjofnmklkndhoaaDoor.Cu
