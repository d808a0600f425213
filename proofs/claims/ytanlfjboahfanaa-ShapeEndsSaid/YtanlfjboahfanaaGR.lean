/- Walks of geometry: Reverse of solids in both; SolidTurns. -/
import Derived.Test.YtanlfjboahfanaaGM
import Derived.Test.YtanlfjboahfanaaGU
import Derived.Test.YtanlfjboahfanaaEv21
import Derived.Test.YtanlfjboahfanaaEv25
namespace Go.Proofs.Ytanlfjboahfanaa.Ge
set_option linter.unusedVariables false
set_option linter.unusedSimpArgs false
open Go.RowKit Go.Proofs.Ytanlfjboahfanaa.Ev
variable {gl : List (Nat × List CV)}

noncomputable def revS (l : List Slc) : List Slc := (valL l).reverse
/-- The outer elements are exchanged. -/
def Swp (u s : List Slc) (i : Nat) : Prop := s.length = u.length ∧ ∀ k (h : k < s.length) (h' : k < u.length), s[k] = if k < i ∨ u.length - 1 < k + i then u[u.length - 1 - k] else u[k]
theorem swp_end {u s : List Slc} {i : Nat} (h : Swp u s i) (hi : u.length ≤ 2 * i + 1) : s = u.reverse := by
  refine List.ext_getElem (by simp [h.1]) (fun k h1 h2 => ?_)
  have hk : k < u.length := by rw [← h.1]; exact h1
  rw [h.2 k h1 hk, List.getElem_reverse]
  split
  · rfl
  · congr 1; omega
theorem swp_step {u s : List Slc} {i : Nat} (h : Swp u s i) (hi : 2 * i + 1 < u.length) : Swp u ((s.set i (s[u.length - 1 - i]'(by rw [h.1]; omega))).set (u.length - 1 - i) (s[i]'(by rw [h.1]; omega))) (i + 1) := by
  have hl := h.1
  refine ⟨by simp [hl], fun k h1 h2 => ?_⟩
  have hk : k < s.length := by simpa using h1
  rw [List.getElem_set]
  by_cases e1 : u.length - 1 - i = k
  · rw [if_pos e1, h.2 i (by omega) (by omega), if_neg (by omega), if_pos (by omega)]
    congr 1; omega
  · rw [if_neg e1, List.getElem_set]
    by_cases e2 : i = k
    · subst e2
      rw [if_pos rfl, h.2 _ (by omega) (by omega), if_neg (by omega), if_pos (by omega)]
    · rw [if_neg e2, h.2 k hk h2]
      by_cases e3 : k < i ∨ u.length - 1 < k + i
      · rw [if_pos e3, if_pos (by omega)]
      · rw [if_neg e3, if_neg (by omega)]
theorem swp_next {u s : List Slc} {i q : Nat} (h : Swp u s i) (hi : 2 * i + 1 < u.length) (hq : q = u.length - 1 - i) : Swp u ((s.set i (s[q]'(by rw [h.1]; omega))).set q (s[i]'(by rw [h.1]; omega))) (i + 1) := by
  subst hq; exact swp_step h hi
set_option maxRecDepth 100000 in
set_option maxHeartbeats 8000000 in
theorem sreverse_con (l : List Slc) (hn : l.length ≤ maxLen) : Con Try.prog gl 26 [LL l] (LL (revS l)) := by
  have hv := svalid_con (gl := gl) l hn
  have v := valL_V l
  unfold revS
  generalize valL l = u at *
  have hu := v.n
  refine con_of Try.func26 rfl (by kernel_rfl) rfl ?_
  simp only [Try.ntmps26, Try.results26, argEnv, ofC, of1, List.map]
  repeat' (first
    | ((with_reducible apply r_call); exact rfl; exact rfl; exact hv; exact rfl; exact rfl)
    | ((with_reducible apply aw_seq))
    | ((with_reducible apply aw_region))
    | ((with_reducible apply aw_block))
    | ((with_reducible apply thn_normal))
    | ((with_reducible apply ao_nil))
    | ((with_reducible apply r_move); exact rfl; exact rfl)
    | ((with_reducible apply r_assign); exact rfl; exact rfl)
    | ((with_reducible apply r_len_f); exact rfl; exact inferInstance; exact rfl)
    )
  refine aw_nilvec 3 36 3 rfl rfl ?_
  refine aw_loopG (G := Nat × Nat) (fun ((j, k) : Nat × Nat) => j ≤ u.length ∧ k = j) (fun ((j, k) : Nat × Nat) => u.length - j) (fun ((j, k) : Nat × Nat) => [(3, .vec 0 k), (7, .c (LL u)), (8, A u.length), (9, A j)]) (fun ((j, k) : Nat × Nat) => [(0, some (.vec 36 3 ((u.take j).flatMap slcC)))]) 1 (0, 0) ?_ (by refine weak_mk rfl ?_ ?_ <;> repeat (first | exact envW_nil | exact heapW_nil | refine envW_cons rfl rfl ?_ | refine heapW_cons rfl rfl rfl ?_)) rfl ?_
  · exact ⟨Nat.zero_le _, rfl⟩
  rintro ⟨j, k⟩ hI
  try dsimp only at hI
  try dsimp only
  obtain ⟨hj, rfl⟩ := hI
  have hl : (u.take k).length = k := by simp; omega
  by_cases hjl : k < u.length
  · have h3 := clone_con (gl := gl) u[k].sec (by have := (chk_is (v.chk k hjl)).len; omega)
    repeat' (first
      | (refine aw_drawt 8 ?_ ?_; (kernel_rfl); (simp only [List.take_succ_cons, List.take_zero, List.drop_succ_cons, List.drop_zero]))
      | ((with_reducible apply r_call); exact rfl; exact rfl; exact h3; exact rfl; exact rfl)
      | ((with_reducible apply (r_appendl (enc := slcC) (l := u.take k) (l2 := [(⟨u[k].len, u[k].sec⟩ : Slc)]))); exact rfl; exact rfl; exact inferInstance; exact hl; exact rfl; exact (by show k + 1 < _; omega); exact (by show (k + 1) * 40 ≤ _; omega); exact rfl)
      | ((with_reducible apply aw_seq))
      | ((with_reducible apply aw_region))
      | ((with_reducible apply aw_block))
      | ((with_reducible apply thn_normal))
      | ((with_reducible apply inb_normal))
      | ((with_reducible apply aw_skip))
      | ((with_reducible apply ao_nil))
      | ((with_reducible apply r_move); exact rfl; exact rfl)
      | ((with_reducible apply r_assign); exact rfl; exact rfl)
      | ((with_reducible apply r_field_p); exact rfl; exact rfl)
      | ((with_reducible apply r_load_p); exact rfl; exact rfl; exact rfl; exact rfl)
      | ((with_reducible apply r_load_pa); exact rfl; exact rfl; exact rfl; exact rfl; exact rfl)
      | ((with_reducible apply r_lss); exact rfl; exact rfl; exact rfl)
      | ((with_reducible apply r_add); exact rfl; exact rfl; exact (by first | assumption | (unfold fits; omega)); exact rfl)
      | ((with_reducible apply r_index_f); exact rfl; exact inferInstance; exact rfl; exact rfl; (first | assumption | omega); exact rfl)
      | ((with_reducible apply r_load_fa0); exact rfl; exact inferInstance; exact List.getElem?_eq_getElem (by first | assumption | omega); exact rfl; exact rfl; exact rfl)
      | ((with_reducible apply r_store_pa); exact rfl; exact rfl; exact rfl; exact rfl; exact rfl; exact rfl)
      | ((with_reducible apply r_build); exact rfl; exact rfl; exact rfl)
      | ((with_reducible apply r_alloc); exact rfl)
      | (((with_reducible apply aw_cond); exact rfl) <;> intro hg <;> (first | (exact absurd hg (by decide)) | ((try simp only [decide_eq_true_eq, decide_eq_false_iff_not, Bool.not_eq_true', Bool.not_eq_false', Bool.not_true, Bool.not_false, Bool.not_not, Int.not_lt, Int.not_le, Nat.not_lt, Nat.not_le, gt_iff_lt, ge_iff_le, List.cons.injEq, and_true] at hg); first | (exact absurd trivial hg) | (exfalso; omega) | (have hT : True := hg; clear hT hg) | skip)))
      | ((with_reducible apply ds_nil))
      | ((with_reducible apply r_litq); exact rfl; exact rfl; exact rfl; exact rfl; exact rfl; exact rfl; exact rfl)
      )
    rw [show u.take k ++ [(⟨u[k].len, u[k].sec⟩ : Slc)] = u.take (k + 1) from (List.take_succ_eq_append_getElem hjl).symm]
    refine ⟨(k + 1, k + 1), ?_, ?_, by refine weak_mk rfl ?_ ?_ <;> repeat (first | exact envW_nil | exact heapW_nil | refine envW_cons rfl rfl ?_ | refine heapW_cons rfl rfl rfl ?_)⟩
    · show _ - (k + 1) < _ - k; omega
    · exact ⟨by show k + 1 ≤ _; omega, rfl⟩
  obtain rfl : k = u.length := by omega
  rw [List.take_length]
  repeat' (first
    | ((with_reducible apply (r_in0 Try.func51 rfl Try.results51 (by kernel_rfl) Try.ntmps51)); exact rfl; exact rfl; exact rfl; exact rfl)
    | ((with_reducible apply aw_seq))
    | ((with_reducible apply aw_region))
    | ((with_reducible apply aw_block))
    | ((with_reducible apply thn_normal))
    | ((with_reducible apply thn_exit))
    | ((with_reducible apply inb_exit))
    | ((with_reducible apply aw_exit))
    | ((with_reducible apply ao_nil))
    | ((with_reducible apply r_move); exact rfl; exact rfl)
    | ((with_reducible apply r_assign); exact rfl; exact rfl)
    | ((with_reducible apply r_lss); exact rfl; exact rfl; exact rfl)
    | ((with_reducible apply r_sub); exact rfl; exact rfl; exact (by first | assumption | (unfold fits; omega)); exact rfl)
    | ((with_reducible apply r_len_v); exact rfl; exact rfl; (first | (exact flat_len EncL.len _) | (rw [flat_len EncL.len]; first | assumption | omega | (congr 1; omega))); exact rfl)
    | (((with_reducible apply aw_cond); exact rfl) <;> intro hg <;> (first | (exact absurd hg (by decide)) | ((try simp only [decide_eq_true_eq, decide_eq_false_iff_not, Bool.not_eq_true', Bool.not_eq_false', Bool.not_true, Bool.not_false, Bool.not_not, Int.not_lt, Int.not_le, Nat.not_lt, Nat.not_le, gt_iff_lt, ge_iff_le, List.cons.injEq, and_true] at hg); first | (exact absurd trivial hg) | (exfalso; omega) | (have hT : True := hg; clear hT hg) | skip)))
    )
  refine aw_loopG (G := Nat × Int × List Slc) (fun ((i, jj, s) : Nat × Int × List Slc) => jj = (u.length : Int) - 1 - i ∧ 2 * i ≤ u.length + 1 ∧ Swp u s i) (fun ((i, jj, s) : Nat × Int × List Slc) => u.length - i) (fun ((i, jj, s) : Nat × Int × List Slc) => [(0, .vec 0 u.length), (2, A i), (3, A jj)]) (fun ((i, jj, s) : Nat × Int × List Slc) => [(0, some (.vec 36 3 (s.flatMap slcC)))]) 1 (0, (u.length : Int) - 1, u) ?_ (by refine weak_mk rfl ?_ ?_ <;> repeat (first | exact envW_nil | exact heapW_nil | refine envW_cons rfl rfl ?_ | refine heapW_cons rfl rfl rfl ?_)) rfl ?_
  · exact ⟨by simp, by omega, rfl, fun k h h' => by rw [if_neg (by omega)]⟩
  rintro ⟨i, jj, s⟩ hI
  try dsimp only at hI
  try dsimp only
  obtain ⟨hjj, hi, hs⟩ := hI
  have hsl := hs.1
  by_cases hlt : (i : Int) < jj
  · have e : jj.toNat = u.length - 1 - i := by omega
    have hst := swp_next hs (by omega) e
    repeat' (first
      | (refine aw_drawV [0] [0, 1, 4, 5, 6, 7, 8, 9, 10, 11, 12] [2, 3] 3 _ ?_ rfl rfl ?_; (decide +kernel); (simp only [pk, List.drop_succ_cons, List.drop_zero, List.map_cons, List.map_nil, List.cons_append, List.nil_append]))
      | ((with_reducible apply ds_nilV2))
      | ((with_reducible apply ds_nilV1))
      | ((with_reducible apply ds_nilV))
      | ((with_reducible apply d4_nil); (decide +kernel))
      | (first | (refine d4_step [13] (by decide +kernel) rfl ?_) | (refine d4_step [14] (by decide +kernel) rfl ?_) | (refine d4_step [15] (by decide +kernel) rfl ?_) | (refine d4_step [13, 14] (by decide +kernel) rfl ?_) | (refine d4_step [13, 15] (by decide +kernel) rfl ?_) | (refine d4_step [14, 15] (by decide +kernel) rfl ?_) | (refine d4_step [13, 14, 15] (by decide +kernel) rfl ?_))
      | ((with_reducible refine List.forall_mem_cons.2 ⟨?_, ?_⟩))
      | ((with_reducible exact d4_none))
      | ((with_reducible apply d4_a); exact rfl; exact inferInstance; exact rfl)
      | ((with_reducible apply d4_pa); exact rfl; exact inferInstance; exact rfl; exact rfl; exact rfl; exact rfl; exact rfl; exact rfl; exact rfl; exact rfl)
      | ((with_reducible apply d4_p); exact rfl; exact inferInstance; exact rfl; exact rfl; exact rfl; exact rfl; exact rfl; exact rfl; exact rfl; exact rfl)
      | ((with_reducible apply (d4_v (enc := slcC) (k' := i) (l := s) (x0 := s[jj.toNat]'(by omega)))); exact rfl; exact inferInstance; exact rfl; exact rfl; exact inferInstance; exact hsl; exact (by omega); exact rfl; exact rfl; exact rfl; exact rfl; exact rfl; exact rfl)
      | ((with_reducible apply (d4_v (enc := slcC) (k' := jj.toNat) (l := s.set i (s[jj.toNat]'(by omega))) (x0 := s[i]'(by omega)))); exact rfl; exact inferInstance; exact rfl; exact rfl; exact inferInstance; exact (by rw [List.length_set, hsl]); exact (by rw [List.length_set]; omega); exact rfl; exact rfl; exact rfl; exact rfl; exact rfl; exact rfl)
      | ((with_reducible apply d4_q); exact rfl; (simp only [pk, List.drop_succ_cons, List.drop_zero]))
      | ((with_reducible apply (r_index_vf (enc := slcC) (k := jj.toNat) (l := s.set i (s[jj.toNat]'(by omega))))); exact rfl; exact rfl; exact inferInstance; exact (by rw [List.length_set, hsl]); exact rfl; exact (Int.toNat_of_nonneg (by omega)).symm; exact (by omega); exact rfl)
      | ((with_reducible apply aw_seq))
      | ((with_reducible apply aw_region))
      | ((with_reducible apply aw_block))
      | ((with_reducible apply thn_normal))
      | ((with_reducible apply inb_normal))
      | ((with_reducible apply aw_skip))
      | ((with_reducible apply ao_nil))
      | ((with_reducible apply r_move); exact rfl; exact rfl)
      | ((with_reducible apply r_assign); exact rfl; exact rfl)
      | ((with_reducible apply r_lss); exact rfl; exact rfl; exact rfl)
      | ((with_reducible apply r_add); exact rfl; exact rfl; exact (by first | assumption | (unfold fits; omega)); exact rfl)
      | ((with_reducible apply r_sub); exact rfl; exact rfl; exact (by first | assumption | (unfold fits; omega)); exact rfl)
      | ((with_reducible apply r_index_vf); exact rfl; exact rfl; exact inferInstance; (first | exact rfl | assumption | omega); exact rfl; exact rfl; (first | assumption | omega); exact rfl)
      | ((with_reducible apply r_index_vf); exact rfl; exact rfl; exact inferInstance; (first | exact rfl | assumption | omega); exact rfl; exact (Int.toNat_of_nonneg (by omega)).symm; (first | assumption | omega); exact rfl)
      | ((with_reducible apply r_load_vfa0); exact rfl; exact rfl; exact inferInstance; (first | exact rfl | assumption | omega); exact List.getElem?_eq_getElem (by first | assumption | omega); exact rfl; exact rfl; exact rfl)
      | (((with_reducible apply aw_cond); exact rfl) <;> intro hg <;> (first | (exact absurd hg (by decide)) | ((try simp only [decide_eq_true_eq, decide_eq_false_iff_not, Bool.not_eq_true', Bool.not_eq_false', Bool.not_true, Bool.not_false, Bool.not_not, Int.not_lt, Int.not_le, Nat.not_lt, Nat.not_le, gt_iff_lt, ge_iff_le, List.cons.injEq, and_true] at hg); first | (exact absurd trivial hg) | (exfalso; omega) | (have hT : True := hg; clear hT hg) | skip)))
      )
    all_goals
      refine ⟨(i + 1, jj - 1, (s.set i (s[jj.toNat]'(by omega))).set jj.toNat (s[i]'(by omega))), ?_, ?_, by refine weak_mk rfl ?_ ?_ <;> repeat (first | exact envW_nil | exact heapW_nil | refine envW_cons rfl rfl ?_ | refine heapW_cons rfl rfl rfl ?_)⟩
      · show u.length - (i + 1) < u.length - i; omega
      · exact ⟨by show jj - 1 = (u.length : Int) - 1 - ((i + 1 : Nat) : Int); omega, by show 2 * (i + 1) ≤ u.length + 1; omega, hst⟩
  · have e := swp_end hs (by omega)
    subst e
    repeat' (first
      | ((with_reducible apply aw_seq))
      | ((with_reducible apply aw_region))
      | ((with_reducible apply thn_normal))
      | ((with_reducible apply thn_exit))
      | ((with_reducible apply inb_exit))
      | ((with_reducible apply aw_exit))
      | ((with_reducible apply ao_nil))
      | ((with_reducible apply r_move); exact rfl; exact rfl)
      | ((with_reducible apply r_lss); exact rfl; exact rfl; exact rfl)
      | (((with_reducible apply aw_cond); exact rfl) <;> intro hg <;> (first | (exact absurd hg (by decide)) | ((try simp only [decide_eq_true_eq, decide_eq_false_iff_not, Bool.not_eq_true', Bool.not_eq_false', Bool.not_true, Bool.not_false, Bool.not_not, Int.not_lt, Int.not_le, Nat.not_lt, Nat.not_le, gt_iff_lt, ge_iff_le, List.cons.injEq, and_true] at hg); first | (exact absurd trivial hg) | (exfalso; omega) | (have hT : True := hg; clear hT hg) | skip)))
      )
    refine back0_normal ?_
    repeat' (first
      | ((with_reducible apply aw_seq))
      | ((with_reducible apply aw_region))
      | ((with_reducible apply thn_normal))
      | ((with_reducible apply aw_ret))
      | ((with_reducible apply ao_nil))
      | ((with_reducible apply r_move); exact rfl; exact rfl)
      | ((with_reducible apply r_assign); exact rfl; exact rfl)
      )
    exact ret1 (.tmp rfl (cl_vec rfl (by rw [flat_len EncL.len, List.length_reverse])))
theorem take_rev {l : List Slc} {k : Nat} (h : k < l.length) {q : Nat} (hq : q = l.length - 1 - k) : l.reverse.take (k + 1) = l.reverse.take k ++ [l[q]'(by omega)] := by
  subst hq
  rw [List.take_succ_eq_append_getElem (by simpa using h), List.getElem_reverse]
theorem revS_V (l : List Slc) : SolV (revS l) := rev_V (valL_V l)
end Go.Proofs.Ytanlfjboahfanaa.Ge
