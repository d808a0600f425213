/- Walks of cutting: the sums from the left, in both. -/
import Derived.Test.YtjofnmklkndhoaaDoorCutG
namespace Go.Proofs.YtjofnmklkndhoaaDoor.Cu
set_option linter.unusedVariables false
set_option linter.unusedSimpArgs false
open Go.RowKit Go.Proofs.YtjofnmklkndhoaaDoor.Ev
variable {gl : List (Nat × List CV)}

/-- The sums of the first 0, 1, .. elements. -/
def sumsS (l : List Int) : List Int := (List.range (l.length + 1)).map (pre l)
@[simp] theorem sumsS_len (l : List Int) : (sumsS l).length = l.length + 1 := by simp [sumsS]
theorem sumsS_get (l : List Int) (k : Nat) (h : k < (sumsS l).length) : (sumsS l)[k] = pre l k := by simp [sumsS]
theorem sumsS_of {l s : List Int} (hn : s.length = l.length + 1) (h : ∀ i (hi : i < s.length), s[i] = pre l i) : s = sumsS l := by
  refine List.ext_getElem (by simp [hn]) (fun i h1 h2 => ?_)
  rw [h i h1, sumsS_get]
theorem pre_le {l : List Int} (hb : Bd l) (hn : l.length ≤ 2000) {k : Nat} (hk : k ≤ l.length) : -1125899906842624 * 2000 ≤ pre l k ∧ pre l k ≤ 1125899906842624 * 2000 := by
  have := pre_bd hb 0 k (by omega)
  rw [Nat.zero_add, show pre l 0 = 0 from rfl] at this
  omega
set_option maxRecDepth 100000 in
set_option maxHeartbeats 8000000 in
theorem sums_con (l : List Int) (hb : Bd l) (hn : l.length ≤ 2000) : Con Tryd.prog gl 47 [LI l] (LI (sumsS l)) := by
  refine con_of Tryd.func47 rfl (by kernel_rfl) rfl ?_
  simp only [Tryd.ntmps47, Tryd.results47, argEnv, ofC, of1, List.map]
  repeat' (first
    | ((with_reducible apply r_make (enc := inC) (0 : Int) (l.length + 1)); exact inferInstance; exact rfl; exact rfl; exact rfl; exact rfl; exact rfl; omega; omega; exact rfl)
    | ((with_reducible apply aw_seq))
    | ((with_reducible apply aw_region))
    | ((with_reducible apply aw_block))
    | ((with_reducible apply thn_normal))
    | ((with_reducible apply ao_nil))
    | ((with_reducible apply r_move); exact rfl; exact rfl)
    | ((with_reducible apply r_assign); exact rfl; exact rfl)
    | ((with_reducible apply r_add); exact rfl; exact rfl; exact (by first | assumption | (unfold fits; omega)); exact rfl)
    | ((with_reducible apply r_len_f); exact rfl; exact inferInstance; exact rfl)
    )
  refine aw_loopG (G := Nat × List Int) (fun ((j, s) : Nat × List Int) => j ≤ l.length ∧ s.length = l.length + 1 ∧ ∀ i (h : i < s.length), i ≤ j → s[i] = pre l i) (fun ((j, s) : Nat × List Int) => l.length - j) (fun ((j, s) : Nat × List Int) => [(3, .vec 0 (l.length + 1)), (10, .c (LI l)), (11, A l.length), (12, A j)]) (fun ((j, s) : Nat × List Int) => [(0, some (.vec 3 1 (s.flatMap inC)))]) 1 (0, List.replicate (l.length + 1) 0) ?_ (by refine weak_mk rfl ?_ ?_ <;> repeat (first | exact envW_nil | exact heapW_nil | refine envW_cons rfl rfl ?_ | refine heapW_cons rfl rfl rfl ?_)) rfl ?_
  · refine ⟨Nat.zero_le _, by simp, fun i h hi => ?_⟩
    obtain rfl : i = 0 := Nat.le_zero.1 hi
    simp [pre]
  rintro ⟨j, s⟩ hI
  try dsimp only at hI
  try dsimp only
  obtain ⟨hj, hs, hall⟩ := hI
  by_cases hjl : j < l.length
  · have h1 := hall j (by omega) (Nat.le_refl _)
    have h2 := pre_le hb hn hj
    have h3 := hb j hjl
    have h4 := pre_succ l j hjl
    repeat' (first
      | ((with_reducible apply r_store_v (enc := inC) (s[j] + l[j])); exact rfl; exact rfl; exact inferInstance; (first | exact rfl | assumption); (first | assumption | omega); exact rfl; exact rfl; exact rfl; exact rfl)
      | ((with_reducible apply aw_seq))
      | ((with_reducible apply aw_region))
      | ((with_reducible apply aw_block))
      | ((with_reducible apply thn_normal))
      | ((with_reducible apply inb_normal))
      | ((with_reducible apply aw_skip))
      | ((with_reducible apply ao_nil))
      | ((with_reducible apply r_move); exact rfl; exact rfl)
      | ((with_reducible apply r_assign); exact rfl; exact rfl)
      | ((with_reducible apply r_lss); exact rfl; exact rfl; exact rfl)
      | ((with_reducible apply r_add); exact rfl; exact rfl; exact (by first | assumption | (unfold fits; omega)); exact rfl)
      | ((with_reducible apply r_index_f); exact rfl; exact inferInstance; exact rfl; exact rfl; (first | assumption | omega); exact rfl)
      | ((with_reducible apply r_load_f0); exact rfl; exact inferInstance; exact List.getElem?_eq_getElem (by first | assumption | omega); exact rfl; exact rfl)
      | ((with_reducible apply r_index_vf); exact rfl; exact rfl; exact inferInstance; (first | exact rfl | assumption | omega); exact rfl; exact rfl; (first | assumption | omega); exact rfl)
      | ((with_reducible apply r_index_vf); exact rfl; exact rfl; exact inferInstance; (first | exact rfl | assumption | omega); exact rfl; exact (Int.toNat_of_nonneg (by omega)).symm; (first | assumption | omega); exact rfl)
      | ((with_reducible apply r_load_vf0); exact rfl; exact rfl; exact inferInstance; (first | exact rfl | assumption | omega); exact List.getElem?_eq_getElem (by first | assumption | omega); exact rfl; exact rfl)
      | (((with_reducible apply aw_cond); exact rfl) <;> intro hg <;> (first | (exact absurd hg (by decide)) | ((try simp only [decide_eq_true_eq, decide_eq_false_iff_not, Bool.not_eq_true', Bool.not_eq_false', Bool.not_true, Bool.not_false, Bool.not_not, Int.not_lt, Int.not_le, Nat.not_lt, Nat.not_le, gt_iff_lt, ge_iff_le, List.cons.injEq, and_true] at hg); first | (exact absurd trivial hg) | (exfalso; omega) | (have hT : True := hg; clear hT hg) | skip)))
      )
    refine ⟨(j + 1, s.set (j + 1) (s[j] + l[j])), ?_, ?_, by refine weak_mk rfl ?_ ?_ <;> repeat (first | exact envW_nil | exact heapW_nil | refine envW_cons rfl rfl ?_ | refine heapW_cons rfl rfl rfl ?_)⟩
    · show _ - (j + 1) < _ - j; omega
    · refine ⟨by show j + 1 ≤ _; omega, by simp [hs], fun i h hi => ?_⟩
      by_cases e : i = j + 1
      · subst e; rw [List.getElem_set_self, h1, h4]
      · rw [List.getElem_set_ne (by omega)]
        exact hall i (by simpa using h) (by have : i ≤ j + 1 := hi; omega)
  · skip
    repeat' (first
      | ((with_reducible apply aw_seq))
      | ((with_reducible apply aw_region))
      | ((with_reducible apply thn_normal))
      | ((with_reducible apply thn_exit))
      | ((with_reducible apply inb_exit))
      | ((with_reducible apply aw_exit))
      | ((with_reducible apply aw_ret))
      | ((with_reducible apply ao_nil))
      | ((with_reducible apply r_move); exact rfl; exact rfl)
      | ((with_reducible apply r_assign); exact rfl; exact rfl)
      | ((with_reducible apply r_lss); exact rfl; exact rfl; exact rfl)
      | (((with_reducible apply aw_cond); exact rfl) <;> intro hg <;> (first | (exact absurd hg (by decide)) | ((try simp only [decide_eq_true_eq, decide_eq_false_iff_not, Bool.not_eq_true', Bool.not_eq_false', Bool.not_true, Bool.not_false, Bool.not_not, Int.not_lt, Int.not_le, Nat.not_lt, Nat.not_le, gt_iff_lt, ge_iff_le, List.cons.injEq, and_true] at hg); first | (exact absurd trivial hg) | (exfalso; omega) | (have hT : True := hg; clear hT hg) | skip)))
      )
    have : s = sumsS l := sumsS_of hs (fun i hi => hall i hi (by omega))
    rw [← this]
    exact ret1 (.tmp rfl (cl_vec rfl (by rw [flat_len EncL.len, hs])))
set_option maxRecDepth 100000 in
set_option maxHeartbeats 8000000 in
theorem prefix_con (l : List Int) (hb : Bd l) (hn : l.length ≤ 2000) : Con Tryd.prog gl 42 [LI l] (LI (sumsS l)) := by
  refine con_of Tryd.func42 rfl (by kernel_rfl) rfl ?_
  simp only [Tryd.ntmps42, Tryd.results42, argEnv, ofC, of1, List.map]
  repeat' (first
    | ((with_reducible apply aw_seq))
    | ((with_reducible apply aw_region))
    | ((with_reducible apply aw_block))
    | ((with_reducible apply thn_normal))
    | ((with_reducible apply ao_nil))
    | ((with_reducible apply r_assign); exact rfl; exact rfl)
    | ((with_reducible apply r_lit); exact rfl; exact rfl; exact rfl; exact rfl; exact rfl; exact rfl; exact rfl)
    )
  refine aw_loopG (G := Nat × List Int) (fun ((j, s) : Nat × List Int) => j ≤ l.length ∧ s.length = j + 1 ∧ ∀ i (h : i < s.length), s[i] = pre l i) (fun ((j, s) : Nat × List Int) => l.length - j) (fun ((j, s) : Nat × List Int) => [(0, .c (LI l)), (3, .vec 0 (j + 1)), (4, A j)]) (fun ((j, s) : Nat × List Int) => [(0, some (.vec 3 1 (s.flatMap inC)))]) 1 (0, [0]) ?_ (by refine weak_mk rfl ?_ ?_ <;> repeat (first | exact envW_nil | exact heapW_nil | refine envW_cons rfl rfl ?_ | refine heapW_cons rfl rfl rfl ?_)) rfl ?_
  · refine ⟨Nat.zero_le _, by simp, fun i h => ?_⟩
    obtain rfl : i = 0 := by simpa using h
    simp [pre]
  rintro ⟨j, s⟩ hI
  try dsimp only at hI
  try dsimp only
  obtain ⟨hj, hs, hall⟩ := hI
  by_cases hjl : j < l.length
  · have h1 := hall j (by omega)
    have h2 := pre_le hb hn hj
    have h3 := hb j hjl
    have h4 := pre_succ l j hjl
    repeat' (first
      | (refine aw_drawt 11 ?_ ?_; (kernel_rfl); (simp only [List.take_succ_cons, List.take_zero, List.drop_succ_cons, List.drop_zero]))
      | ((with_reducible apply (r_appendl (enc := inC) (l2 := [s[j] + l[j]]))); exact rfl; exact rfl; exact inferInstance; exact hs; exact rfl; exact (by show j + 1 + 1 < _; omega); exact (by show (j + 1 + 1) * 8 ≤ _; omega); exact rfl)
      | ((with_reducible apply aw_seq))
      | ((with_reducible apply aw_region))
      | ((with_reducible apply aw_block))
      | ((with_reducible apply thn_normal))
      | ((with_reducible apply inb_normal))
      | ((with_reducible apply aw_skip))
      | ((with_reducible apply ao_nil))
      | ((with_reducible apply r_move); exact rfl; exact rfl)
      | ((with_reducible apply r_assign); exact rfl; exact rfl)
      | ((with_reducible apply r_lss); exact rfl; exact rfl; exact rfl)
      | ((with_reducible apply r_add); exact rfl; exact rfl; exact (by first | assumption | (unfold fits; omega)); exact rfl)
      | ((with_reducible apply r_len_f); exact rfl; exact inferInstance; exact rfl)
      | ((with_reducible apply r_index_f); exact rfl; exact inferInstance; exact rfl; exact rfl; (first | assumption | omega); exact rfl)
      | ((with_reducible apply r_load_f0); exact rfl; exact inferInstance; exact List.getElem?_eq_getElem (by first | assumption | omega); exact rfl; exact rfl)
      | ((with_reducible apply r_index_vf); exact rfl; exact rfl; exact inferInstance; (first | exact rfl | assumption | omega); exact rfl; exact rfl; (first | assumption | omega); exact rfl)
      | ((with_reducible apply r_load_vf0); exact rfl; exact rfl; exact inferInstance; (first | exact rfl | assumption | omega); exact List.getElem?_eq_getElem (by first | assumption | omega); exact rfl; exact rfl)
      | (((with_reducible apply aw_cond); exact rfl) <;> intro hg <;> (first | (exact absurd hg (by decide)) | ((try simp only [decide_eq_true_eq, decide_eq_false_iff_not, Bool.not_eq_true', Bool.not_eq_false', Bool.not_true, Bool.not_false, Bool.not_not, Int.not_lt, Int.not_le, Nat.not_lt, Nat.not_le, gt_iff_lt, ge_iff_le, List.cons.injEq, and_true] at hg); first | (exact absurd trivial hg) | (exfalso; omega) | (have hT : True := hg; clear hT hg) | skip)))
      | ((with_reducible apply ds_nil))
      | ((with_reducible apply r_litq); exact rfl; exact rfl; exact rfl; exact rfl; exact rfl; exact rfl; exact rfl)
      )
    refine ⟨(j + 1, s ++ [s[j] + l[j]]), ?_, ?_, by refine weak_mk rfl ?_ ?_ <;> repeat (first | exact envW_nil | exact heapW_nil | refine envW_cons rfl rfl ?_ | refine heapW_cons rfl rfl rfl ?_)⟩
    · show _ - (j + 1) < _ - j; omega
    · refine ⟨by show j + 1 ≤ _; omega, by simp [hs], fun i h => ?_⟩
      dsimp only
      by_cases e : i < s.length
      · rw [List.getElem_append_left e]; exact hall i e
      · have : i = s.length := by
          have : i < (s ++ [s[j] + l[j]]).length := h
          simp at this; omega
        subst this
        simp only [List.getElem_concat_length]
        rw [h1, ← h4]; congr 1; omega
  · skip
    repeat' (first
      | ((with_reducible apply aw_seq))
      | ((with_reducible apply aw_region))
      | ((with_reducible apply thn_normal))
      | ((with_reducible apply thn_exit))
      | ((with_reducible apply inb_exit))
      | ((with_reducible apply aw_exit))
      | ((with_reducible apply aw_ret))
      | ((with_reducible apply ao_nil))
      | ((with_reducible apply r_move); exact rfl; exact rfl)
      | ((with_reducible apply r_assign); exact rfl; exact rfl)
      | ((with_reducible apply r_lss); exact rfl; exact rfl; exact rfl)
      | ((with_reducible apply r_len_f); exact rfl; exact inferInstance; exact rfl)
      | (((with_reducible apply aw_cond); exact rfl) <;> intro hg <;> (first | (exact absurd hg (by decide)) | ((try simp only [decide_eq_true_eq, decide_eq_false_iff_not, Bool.not_eq_true', Bool.not_eq_false', Bool.not_true, Bool.not_false, Bool.not_not, Int.not_lt, Int.not_le, Nat.not_lt, Nat.not_le, gt_iff_lt, ge_iff_le, List.cons.injEq, and_true] at hg); first | (exact absurd trivial hg) | (exfalso; omega) | (have hT : True := hg; clear hT hg) | skip)))
      )
    have : s = sumsS l := sumsS_of (by omega) (fun i hi => hall i hi)
    rw [← this]
    exact ret1 (.tmp rfl (cl_vec rfl (by rw [flat_len EncL.len, hs])))
end Go.Proofs.YtjofnmklkndhoaaDoor.Cu
