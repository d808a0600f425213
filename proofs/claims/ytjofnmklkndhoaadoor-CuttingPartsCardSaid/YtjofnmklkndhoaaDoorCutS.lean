/- Walks of the laws on cutting that compare with the reference. -/
import Derived.Test.YtjofnmklkndhoaaDoorCutR
namespace Go.Proofs.YtjofnmklkndhoaaDoor.Cu
set_option linter.unusedVariables false
set_option linter.unusedSimpArgs false
open Go.RowKit Go.Proofs.YtjofnmklkndhoaaDoor.Ev

set_option maxRecDepth 100000 in
set_option maxHeartbeats 4000000 in
theorem checks_con (l : Line) (hN : l.gain.length ≤ maxLen) : Con Tryd.prog G 3 [lineC l] T := by
  have hf := few_con (gl := G) l hN
  have hc := check_con (gl := G) l
  have hr := rcheck_con (gl := G) l
  refine con_of Tryd.func3 rfl (by kernel_rfl) rfl ?_
  simp only [Tryd.ntmps3, Tryd.results3, argEnv, ofC, of1, List.map, lineC, lineL]
  cases h : fewS l with
  | false =>
    rw [h] at hf
    repeat' (first
      | ((with_reducible apply r_call); exact rfl; exact rfl; (first | exact hf | exact awake_con); exact rfl; exact rfl)
      | ((with_reducible apply aw_seq))
      | ((with_reducible apply aw_region))
      | ((with_reducible apply thn_normal))
      | ((with_reducible apply thn_ret))
      | ((with_reducible apply aw_ret))
      | ((with_reducible apply ao_nil))
      | ((with_reducible apply r_assign); exact rfl; exact rfl)
      | ((with_reducible apply r_load_pa); exact rfl; exact rfl; exact rfl; exact rfl; exact rfl)
      | ((with_reducible apply r_box_a); exact rfl; exact rfl)
      | ((with_reducible apply r_not); exact rfl; exact rfl)
      | (((with_reducible apply aw_cond); exact rfl) <;> intro hg <;> (first | (exact absurd hg (by decide)) | ((try simp only [decide_eq_true_eq, decide_eq_false_iff_not, Bool.not_eq_true', Bool.not_eq_false', Bool.not_true, Bool.not_false, Bool.not_not, Int.not_lt, Int.not_le, Nat.not_lt, Nat.not_le, gt_iff_lt, ge_iff_le, List.cons.injEq, and_true] at hg); first | (exact absurd trivial hg) | (exfalso; omega) | (have hT : True := hg; clear hT hg) | skip)))
      )
    all_goals first | exact ret_b rfl rfl | trace_state
  | true =>
    rw [h] at hf
    repeat' (first
      | ((with_reducible apply r_call); exact rfl; exact rfl; (first | exact hf | exact hc | exact hr | exact awake_con); exact rfl; exact rfl)
      | ((with_reducible apply aw_seq))
      | ((with_reducible apply aw_region))
      | ((with_reducible apply thn_normal))
      | ((with_reducible apply aw_skip))
      | ((with_reducible apply aw_ret))
      | ((with_reducible apply ao_nil))
      | ((with_reducible apply r_move); exact rfl; exact rfl)
      | ((with_reducible apply r_assign); exact rfl; exact rfl)
      | ((with_reducible apply r_load_pa); exact rfl; exact rfl; exact rfl; exact rfl; exact rfl)
      | ((with_reducible apply r_eql); exact rfl; exact rfl; exact rfl)
      | ((with_reducible apply r_box_a); exact rfl; exact rfl)
      | ((with_reducible apply r_pick_t); exact rfl; exact rfl; exact rfl)
      | ((with_reducible apply r_not); exact rfl; exact rfl)
      | (((with_reducible apply aw_cond); exact rfl) <;> intro hg <;> (first | (exact absurd hg (by decide)) | ((try simp only [decide_eq_true_eq, decide_eq_false_iff_not, Bool.not_eq_true', Bool.not_eq_false', Bool.not_true, Bool.not_false, Bool.not_not, Int.not_lt, Int.not_le, Nat.not_lt, Nat.not_le, gt_iff_lt, ge_iff_le, List.cons.injEq, and_true] at hg); first | (exact absurd trivial hg) | (exfalso; omega) | (have hT : True := hg; clear hT hg) | skip)))
      | (refine aw_drawq ?_ ?_; (kernel_rfl))
      | ((with_reducible apply ds_nil))
      | (((with_reducible apply rd_guard); exact rfl; exact rfl; exact rfl) <;> intro hg <;> (first | (exact absurd hg (by decide)) | ((try rw [hg]); (try simp only [decide_eq_true_eq, decide_eq_false_iff_not, Bool.not_eq_true', Bool.not_eq_false', Bool.not_true, Bool.not_false, Bool.not_not, Int.not_lt, Int.not_le, Nat.not_lt, Nat.not_le, gt_iff_lt, ge_iff_le, List.cons.injEq, and_true] at hg); first | (exact absurd trivial hg) | (exfalso; omega) | (have hT : True := hg; clear hT hg) | skip)))
      )
    all_goals first | exact ret_b rfl rfl | trace_state

theorem go_len {l : Line} : ∀ (p : List Piece) (e : Int) (d c : List Span), ¬ (cutsGo l p e d c).1 = 0 → (cutsGo l p e d c).2 = ([], [])
  | [], e, d, c, h => by simp [cutsGo] at h
  | x :: p, e, d, c, h => by
    rw [cutsGo] at h ⊢
    split at h
    · rename_i hh; rw [if_pos hh]
    · rename_i hh; rw [if_neg hh]; exact go_len p _ _ _ h
theorem cuts_len {l : Line} {p : List Piece} {e : Int} {D C : List Span} (h : cutsS l p = (e, D, C)) : D.length ≤ 1000000 ∧ C.length ≤ 1000000 := by
  by_cases he : e = 0
  · subst he
    have g := good_of h
    have h1 := g.nd
    have h2 := g.nc
    omega
  · unfold cutsS at h
    split at h
    · cases h; simp
    · have := go_len p 0 [] [] (by rw [h]; exact he)
      rw [h] at this
      cases this; simp
set_option maxRecDepth 100000 in
set_option maxHeartbeats 4000000 in
theorem cutsLaw_con (l : Line) (p : List Piece) (hN : l.gain.length ≤ maxLen) : Con Tryd.prog G 4 [lineC l, LP p] T := by
  have hf := few_con (gl := G) l hN
  refine con_of Tryd.func4 rfl (by kernel_rfl) rfl ?_
  simp only [Tryd.ntmps4, Tryd.results4, argEnv, ofC, of1, List.map, lineC, lineL]
  cases h : fewS l with
  | false =>
    rw [h] at hf
    repeat' (first
      | ((with_reducible apply r_call); exact rfl; exact rfl; (first | exact hf | exact awake_con); exact rfl; exact rfl)
      | ((with_reducible apply aw_seq))
      | ((with_reducible apply aw_region))
      | ((with_reducible apply thn_normal))
      | ((with_reducible apply thn_ret))
      | ((with_reducible apply aw_ret))
      | ((with_reducible apply ao_nil))
      | ((with_reducible apply r_move); exact rfl; exact rfl)
      | ((with_reducible apply r_assign); exact rfl; exact rfl)
      | ((with_reducible apply r_load_pa); exact rfl; exact rfl; exact rfl; exact rfl; exact rfl)
      | ((with_reducible apply r_box_a); exact rfl; exact rfl)
      | ((with_reducible apply r_pick_t); exact rfl; exact rfl; exact rfl)
      | ((with_reducible apply r_not); exact rfl; exact rfl)
      | (((with_reducible apply r_guard); exact rfl; exact rfl; exact rfl; exact rfl) <;> intro hg <;> (first | (exact absurd hg (by decide)) | ((try simp only [decide_eq_true_eq, decide_eq_false_iff_not, Bool.not_eq_true', Bool.not_eq_false', Bool.not_true, Bool.not_false, Bool.not_not, Int.not_lt, Int.not_le, Nat.not_lt, Nat.not_le, gt_iff_lt, ge_iff_le, List.cons.injEq, and_true] at hg); first | (exact absurd trivial hg) | (exfalso; omega) | (have hT : True := hg; clear hT hg) | skip)))
      | (((with_reducible apply aw_cond); exact rfl) <;> intro hg <;> (first | (exact absurd hg (by decide)) | ((try simp only [decide_eq_true_eq, decide_eq_false_iff_not, Bool.not_eq_true', Bool.not_eq_false', Bool.not_true, Bool.not_false, Bool.not_not, Int.not_lt, Int.not_le, Nat.not_lt, Nat.not_le, gt_iff_lt, ge_iff_le, List.cons.injEq, and_true] at hg); first | (exact absurd trivial hg) | (exfalso; omega) | (have hT : True := hg; clear hT hg) | skip)))
      )
    all_goals first | exact ret_b rfl rfl | trace_state
  | true =>
    rw [h] at hf
    by_cases hp : 300 < p.length
    · skip
      repeat' (first
        | ((with_reducible apply r_call); exact rfl; exact rfl; (first | exact hf | exact awake_con); exact rfl; exact rfl)
        | ((with_reducible apply aw_seq))
        | ((with_reducible apply aw_region))
        | ((with_reducible apply thn_normal))
        | ((with_reducible apply thn_ret))
        | ((with_reducible apply aw_ret))
        | ((with_reducible apply ao_nil))
        | ((with_reducible apply r_move); exact rfl; exact rfl)
        | ((with_reducible apply r_assign); exact rfl; exact rfl)
        | ((with_reducible apply r_load_pa); exact rfl; exact rfl; exact rfl; exact rfl; exact rfl)
        | ((with_reducible apply r_gtr); exact rfl; exact rfl; exact rfl)
        | ((with_reducible apply r_box_a); exact rfl; exact rfl)
        | ((with_reducible apply r_pick_f); exact rfl; exact rfl; exact rfl)
        | ((with_reducible apply r_not); exact rfl; exact rfl)
        | ((with_reducible apply r_len_f); exact rfl; exact inferInstance; exact rfl)
        | (((with_reducible apply r_guard); exact rfl; exact rfl; exact rfl; exact rfl) <;> intro hg <;> (first | (exact absurd hg (by decide)) | ((try simp only [decide_eq_true_eq, decide_eq_false_iff_not, Bool.not_eq_true', Bool.not_eq_false', Bool.not_true, Bool.not_false, Bool.not_not, Int.not_lt, Int.not_le, Nat.not_lt, Nat.not_le, gt_iff_lt, ge_iff_le, List.cons.injEq, and_true] at hg); first | (exact absurd trivial hg) | (exfalso; omega) | (have hT : True := hg; clear hT hg) | skip)))
        | (((with_reducible apply aw_cond); exact rfl) <;> intro hg <;> (first | (exact absurd hg (by decide)) | ((try simp only [decide_eq_true_eq, decide_eq_false_iff_not, Bool.not_eq_true', Bool.not_eq_false', Bool.not_true, Bool.not_false, Bool.not_not, Int.not_lt, Int.not_le, Nat.not_lt, Nat.not_le, gt_iff_lt, ge_iff_le, List.cons.injEq, and_true] at hg); first | (exact absurd trivial hg) | (exfalso; omega) | (have hT : True := hg; clear hT hg) | skip)))
        )
      all_goals first | exact ret_b rfl rfl | trace_state
    · obtain ⟨e, D, C, hcut⟩ : ∃ e D C, cutsS l p = (e, D, C) := ⟨_, _, _, rfl⟩
      obtain ⟨n, g, hval⟩ : ∃ n g, valS l p = (n, g) := ⟨_, _, rfl⟩
      have hc := cuts_con (gl := G) l p (by omega)
      have hr := rcuts_con (gl := G) l p (by omega)
      have hv := value_con (gl := G) l p (by omega)
      have hw := rvalue_con (gl := G) l p (by omega)
      rw [hcut] at hc hr
      rw [hval] at hv hw
      have hD := sameSpans_con (gl := G) D (cuts_len hcut).1
      have hC := sameSpans_con (gl := G) C (cuts_len hcut).2
      repeat' (first
        | ((with_reducible apply r_call); exact rfl; exact rfl; (first | exact hf | exact hc | exact hr | exact hv | exact hw | exact hD | exact hC | exact awake_con); exact rfl; exact rfl)
        | ((with_reducible apply aw_seq))
        | ((with_reducible apply aw_region))
        | ((with_reducible apply thn_normal))
        | ((with_reducible apply aw_skip))
        | ((with_reducible apply aw_ret))
        | ((with_reducible apply ao_nil))
        | ((with_reducible apply r_move); exact rfl; exact rfl)
        | ((with_reducible apply r_assign); exact rfl; exact rfl)
        | ((with_reducible apply r_load_pa); exact rfl; exact rfl; exact rfl; exact rfl; exact rfl)
        | ((with_reducible apply r_gtr); exact rfl; exact rfl; exact rfl)
        | ((with_reducible apply r_eql); exact rfl; exact rfl; exact rfl)
        | ((with_reducible apply r_box_a); exact rfl; exact rfl)
        | ((with_reducible apply r_pick_t); exact rfl; exact rfl; exact rfl)
        | ((with_reducible apply r_pick_f); exact rfl; exact rfl; exact rfl)
        | ((with_reducible apply r_not); exact rfl; exact rfl)
        | ((with_reducible apply r_len_f); exact rfl; exact inferInstance; exact rfl)
        | ((with_reducible apply r_extract); exact rfl; exact rfl; exact rfl)
        | (((with_reducible apply r_guard); exact rfl; exact rfl; exact rfl; exact rfl) <;> intro hg <;> (first | (exact absurd hg (by decide)) | ((try simp only [decide_eq_true_eq, decide_eq_false_iff_not, Bool.not_eq_true', Bool.not_eq_false', Bool.not_true, Bool.not_false, Bool.not_not, Int.not_lt, Int.not_le, Nat.not_lt, Nat.not_le, gt_iff_lt, ge_iff_le, List.cons.injEq, and_true] at hg); first | (exact absurd trivial hg) | (exfalso; omega) | (have hT : True := hg; clear hT hg) | skip)))
        | (((with_reducible apply aw_cond); exact rfl) <;> intro hg <;> (first | (exact absurd hg (by decide)) | ((try simp only [decide_eq_true_eq, decide_eq_false_iff_not, Bool.not_eq_true', Bool.not_eq_false', Bool.not_true, Bool.not_false, Bool.not_not, Int.not_lt, Int.not_le, Nat.not_lt, Nat.not_le, gt_iff_lt, ge_iff_le, List.cons.injEq, and_true] at hg); first | (exact absurd trivial hg) | (exfalso; omega) | (have hT : True := hg; clear hT hg) | skip)))
        )
      all_goals first | exact ret_b rfl rfl | trace_state

theorem chain_len (l : Line) : ∀ (n : Nat) (e : Int), (chainS l n e).length ≤ n
  | 0, e => by simp [chainS]
  | n + 1, e => by
    unfold chainS; split
    · simp
    · have := chain_len l n (behindS l ((TT l e).2.1 + szOf l (TT l e).1)); simp; omega
theorem best_len (l : Line) (h : l.len ≤ 120) : (bestS l).1.length ≤ 1000000 := by
  unfold bestS; split
  · simp
  · have := chain_len l (l.len.toNat + 2) 0; show (chainS l (l.len.toNat + 2) 0).length ≤ _; omega
theorem short_out {l : Line} (h : shortS l = true) : fewS l = true ∧ l.len ≤ 120 ∧ l.sizes.length ≤ 8 := by
  unfold shortS at h; simpa using h
set_option maxRecDepth 100000 in
set_option maxHeartbeats 4000000 in
theorem bests_con (l : Line) (hN : l.gain.length ≤ maxLen) : Con Tryd.prog G 5 [lineC l] T := by
  have hf := short_con (gl := G) l hN
  refine con_of Tryd.func5 rfl (by kernel_rfl) rfl ?_
  simp only [Tryd.ntmps5, Tryd.results5, argEnv, ofC, of1, List.map, lineC, lineL]
  cases h : shortS l with
  | false =>
    rw [h] at hf
    repeat' (first
      | ((with_reducible apply r_call); exact rfl; exact rfl; (first | exact hf | exact awake_con); exact rfl; exact rfl)
      | ((with_reducible apply aw_seq))
      | ((with_reducible apply aw_region))
      | ((with_reducible apply thn_normal))
      | ((with_reducible apply thn_ret))
      | ((with_reducible apply aw_ret))
      | ((with_reducible apply ao_nil))
      | ((with_reducible apply r_assign); exact rfl; exact rfl)
      | ((with_reducible apply r_load_pa); exact rfl; exact rfl; exact rfl; exact rfl; exact rfl)
      | ((with_reducible apply r_box_a); exact rfl; exact rfl)
      | ((with_reducible apply r_not); exact rfl; exact rfl)
      | (((with_reducible apply aw_cond); exact rfl) <;> intro hg <;> (first | (exact absurd hg (by decide)) | ((try simp only [decide_eq_true_eq, decide_eq_false_iff_not, Bool.not_eq_true', Bool.not_eq_false', Bool.not_true, Bool.not_false, Bool.not_not, Int.not_lt, Int.not_le, Nat.not_lt, Nat.not_le, gt_iff_lt, ge_iff_le, List.cons.injEq, and_true] at hg); first | (exact absurd trivial hg) | (exfalso; omega) | (have hT : True := hg; clear hT hg) | skip)))
      )
    all_goals first | exact ret_b rfl rfl | trace_state
  | true =>
    rw [h] at hf
    have hb := best_con l
    have hr := rbest_con (gl := G) l
    have hs := samePieces_con (gl := G) (bestS l).1 (best_len l (short_out h).2.1)
    obtain ⟨q, n, e, hq⟩ : ∃ q n e, bestS l = (q, n, e) := ⟨_, _, _, rfl⟩
    rw [hq] at hb hr hs
    repeat' (first
      | ((with_reducible apply r_call); exact rfl; exact rfl; (first | exact hf | exact hb | exact hr | exact hs | exact awake_con); exact rfl; exact rfl)
      | ((with_reducible apply aw_seq))
      | ((with_reducible apply aw_region))
      | ((with_reducible apply thn_normal))
      | ((with_reducible apply aw_skip))
      | ((with_reducible apply aw_ret))
      | ((with_reducible apply ao_nil))
      | ((with_reducible apply r_move); exact rfl; exact rfl)
      | ((with_reducible apply r_assign); exact rfl; exact rfl)
      | ((with_reducible apply r_load_pa); exact rfl; exact rfl; exact rfl; exact rfl; exact rfl)
      | ((with_reducible apply r_eql); exact rfl; exact rfl; exact rfl)
      | ((with_reducible apply r_box_a); exact rfl; exact rfl)
      | ((with_reducible apply r_pick_t); exact rfl; exact rfl; exact rfl)
      | ((with_reducible apply r_not); exact rfl; exact rfl)
      | ((with_reducible apply r_extract); exact rfl; exact rfl; exact rfl)
      | (((with_reducible apply r_guard); exact rfl; exact rfl; exact rfl; exact rfl) <;> intro hg <;> (first | (exact absurd hg (by decide)) | ((try simp only [decide_eq_true_eq, decide_eq_false_iff_not, Bool.not_eq_true', Bool.not_eq_false', Bool.not_true, Bool.not_false, Bool.not_not, Int.not_lt, Int.not_le, Nat.not_lt, Nat.not_le, gt_iff_lt, ge_iff_le, List.cons.injEq, and_true] at hg); first | (exact absurd trivial hg) | (exfalso; omega) | (have hT : True := hg; clear hT hg) | skip)))
      | (((with_reducible apply aw_cond); exact rfl) <;> intro hg <;> (first | (exact absurd hg (by decide)) | ((try simp only [decide_eq_true_eq, decide_eq_false_iff_not, Bool.not_eq_true', Bool.not_eq_false', Bool.not_true, Bool.not_false, Bool.not_not, Int.not_lt, Int.not_le, Nat.not_lt, Nat.not_le, gt_iff_lt, ge_iff_le, List.cons.injEq, and_true] at hg); first | (exact absurd trivial hg) | (exfalso; omega) | (have hT : True := hg; clear hT hg) | skip)))
      )
    all_goals first | exact ret_b rfl rfl | trace_state

theorem uni_out {n k p : Int} {sizes gains : List Int} {c d : Int} : uniS n k p sizes gains c d = ((uniS n k p sizes gains c d).1, (uniS n k p sizes gains c d).2) ∧ ((uniS n k p sizes gains c d).1 = zeroL ∨ chk (uniS n k p sizes gains c d).1 = 0) := by
  refine ⟨rfl, ?_⟩
  unfold uniS
  split
  · exact .inl rfl
  · split
    · exact .inl rfl
    · split
      · exact .inl rfl
      · rename_i h; exact .inr (Decidable.byContradiction h)
theorem same_uni {l : Line} (h : l = zeroL ∨ chk l = 0) : Con Tryd.prog G 26 [lineC l, lineC l] T := by
  rcases h with rfl | h
  · exact sameLine_con _ (by decide) (by decide) (by decide) (by decide) (fun i h => by cases h)
  · have v := valid_of h
    have hm : measS l = 0 := Decidable.byContradiction fun hh => hh (by rw [chk_meas hh]; exact h)
    have hs : shapeOk l := Classical.byContradiction fun hh => by have := chk_shape hm hh; omega
    obtain ⟨h1, h2, h3, h4, h5, h6⟩ := shape_len hm hs
    have h7 := (meas0 hm).2.1
    exact sameLine_con _ (by omega) (by omega) (by omega) (by omega) (fun i hi => by have := h6 i hi; omega)
set_option maxRecDepth 100000 in
set_option maxHeartbeats 4000000 in
theorem uniLaw_con (x : Plain) : Con Tryd.prog G 6 [plainC x] T := by
  refine con_of Tryd.func6 rfl (by kernel_rfl) rfl ?_
  simp only [Tryd.ntmps6, Tryd.results6, argEnv, ofC, of1, List.map, plainC, plainL]
  by_cases h0 : 300 < x.len ∧ x.len ≤ 2000
  · skip
    repeat' (first
      | ((with_reducible apply r_call); exact rfl; exact rfl; (first | exact awake_con); exact rfl; exact rfl)
      | ((with_reducible apply aw_seq))
      | ((with_reducible apply aw_region))
      | ((with_reducible apply thn_normal))
      | ((with_reducible apply thn_ret))
      | ((with_reducible apply aw_ret))
      | ((with_reducible apply ao_nil))
      | ((with_reducible apply r_move); exact rfl; exact rfl)
      | ((with_reducible apply r_assign); exact rfl; exact rfl)
      | ((with_reducible apply r_field_p); exact rfl; exact rfl)
      | ((with_reducible apply r_load_p); exact rfl; exact rfl; exact rfl; exact rfl)
      | ((with_reducible apply r_leq); exact rfl; exact rfl; exact rfl)
      | ((with_reducible apply r_gtr); exact rfl; exact rfl; exact rfl)
      | ((with_reducible apply r_box_a); exact rfl; exact rfl)
      | ((with_reducible apply r_pick_t); exact rfl; exact rfl; exact rfl)
      | (((with_reducible apply r_guard); exact rfl; exact rfl; exact rfl; exact rfl) <;> intro hg <;> (first | (exact absurd hg (by decide)) | ((try simp only [decide_eq_true_eq, decide_eq_false_iff_not, Bool.not_eq_true', Bool.not_eq_false', Bool.not_true, Bool.not_false, Bool.not_not, Int.not_lt, Int.not_le, Nat.not_lt, Nat.not_le, gt_iff_lt, ge_iff_le, List.cons.injEq, and_true] at hg); first | (exact absurd trivial hg) | (exfalso; omega) | (have hT : True := hg; clear hT hg) | skip)))
      | (((with_reducible apply aw_cond); exact rfl) <;> intro hg <;> (first | (exact absurd hg (by decide)) | ((try simp only [decide_eq_true_eq, decide_eq_false_iff_not, Bool.not_eq_true', Bool.not_eq_false', Bool.not_true, Bool.not_false, Bool.not_not, Int.not_lt, Int.not_le, Nat.not_lt, Nat.not_le, gt_iff_lt, ge_iff_le, List.cons.injEq, and_true] at hg); first | (exact absurd trivial hg) | (exfalso; omega) | (have hT : True := hg; clear hT hg) | skip)))
      )
    all_goals first | exact ret_b rfl rfl | trace_state
  by_cases h1 : 40 < x.sizes.length
  · skip
    repeat' (first
      | ((with_reducible apply r_call); exact rfl; exact rfl; (first | exact awake_con); exact rfl; exact rfl)
      | ((with_reducible apply aw_seq))
      | ((with_reducible apply aw_region))
      | ((with_reducible apply thn_normal))
      | ((with_reducible apply thn_ret))
      | ((with_reducible apply aw_ret))
      | ((with_reducible apply ao_nil))
      | ((with_reducible apply r_move); exact rfl; exact rfl)
      | ((with_reducible apply r_assign); exact rfl; exact rfl)
      | ((with_reducible apply r_field_p); exact rfl; exact rfl)
      | ((with_reducible apply r_load_p); exact rfl; exact rfl; exact rfl; exact rfl)
      | ((with_reducible apply r_leq); exact rfl; exact rfl; exact rfl)
      | ((with_reducible apply r_gtr); exact rfl; exact rfl; exact rfl)
      | ((with_reducible apply r_box_a); exact rfl; exact rfl)
      | ((with_reducible apply r_pick_t); exact rfl; exact rfl; exact rfl)
      | ((with_reducible apply r_pick_f); exact rfl; exact rfl; exact rfl)
      | ((with_reducible apply r_len_f); exact rfl; exact inferInstance; exact rfl)
      | (((with_reducible apply r_guard); exact rfl; exact rfl; exact rfl; exact rfl) <;> intro hg <;> (first | (exact absurd hg (by decide)) | ((try simp only [decide_eq_true_eq, decide_eq_false_iff_not, Bool.not_eq_true', Bool.not_eq_false', Bool.not_true, Bool.not_false, Bool.not_not, Int.not_lt, Int.not_le, Nat.not_lt, Nat.not_le, gt_iff_lt, ge_iff_le, List.cons.injEq, and_true] at hg); first | (exact absurd trivial hg) | (exfalso; omega) | (have hT : True := hg; clear hT hg) | skip)))
      | (((with_reducible apply aw_cond); exact rfl) <;> intro hg <;> (first | (exact absurd hg (by decide)) | ((try simp only [decide_eq_true_eq, decide_eq_false_iff_not, Bool.not_eq_true', Bool.not_eq_false', Bool.not_true, Bool.not_false, Bool.not_not, Int.not_lt, Int.not_le, Nat.not_lt, Nat.not_le, gt_iff_lt, ge_iff_le, List.cons.injEq, and_true] at hg); first | (exact absurd trivial hg) | (exfalso; omega) | (have hT : True := hg; clear hT hg) | skip)))
      )
    all_goals first | exact ret_b rfl rfl | trace_state
  by_cases h2 : 40 < x.gains.length
  · skip
    repeat' (first
      | ((with_reducible apply r_call); exact rfl; exact rfl; (first | exact awake_con); exact rfl; exact rfl)
      | ((with_reducible apply aw_seq))
      | ((with_reducible apply aw_region))
      | ((with_reducible apply thn_normal))
      | ((with_reducible apply thn_ret))
      | ((with_reducible apply aw_ret))
      | ((with_reducible apply ao_nil))
      | ((with_reducible apply r_move); exact rfl; exact rfl)
      | ((with_reducible apply r_assign); exact rfl; exact rfl)
      | ((with_reducible apply r_field_p); exact rfl; exact rfl)
      | ((with_reducible apply r_load_p); exact rfl; exact rfl; exact rfl; exact rfl)
      | ((with_reducible apply r_leq); exact rfl; exact rfl; exact rfl)
      | ((with_reducible apply r_gtr); exact rfl; exact rfl; exact rfl)
      | ((with_reducible apply r_box_a); exact rfl; exact rfl)
      | ((with_reducible apply r_pick_t); exact rfl; exact rfl; exact rfl)
      | ((with_reducible apply r_pick_f); exact rfl; exact rfl; exact rfl)
      | ((with_reducible apply r_len_f); exact rfl; exact inferInstance; exact rfl)
      | (((with_reducible apply r_guard); exact rfl; exact rfl; exact rfl; exact rfl) <;> intro hg <;> (first | (exact absurd hg (by decide)) | ((try simp only [decide_eq_true_eq, decide_eq_false_iff_not, Bool.not_eq_true', Bool.not_eq_false', Bool.not_true, Bool.not_false, Bool.not_not, Int.not_lt, Int.not_le, Nat.not_lt, Nat.not_le, gt_iff_lt, ge_iff_le, List.cons.injEq, and_true] at hg); first | (exact absurd trivial hg) | (exfalso; omega) | (have hT : True := hg; clear hT hg) | skip)))
      | (((with_reducible apply aw_cond); exact rfl) <;> intro hg <;> (first | (exact absurd hg (by decide)) | ((try simp only [decide_eq_true_eq, decide_eq_false_iff_not, Bool.not_eq_true', Bool.not_eq_false', Bool.not_true, Bool.not_false, Bool.not_not, Int.not_lt, Int.not_le, Nat.not_lt, Nat.not_le, gt_iff_lt, ge_iff_le, List.cons.injEq, and_true] at hg); first | (exact absurd trivial hg) | (exfalso; omega) | (have hT : True := hg; clear hT hg) | skip)))
      )
    all_goals first | exact ret_b rfl rfl | trace_state
  have hu := uniform_con (gl := G) x (by omega) (by omega)
  have hr := runi_con (gl := G) x.len x.kerf x.pitch x.sizes x.gains x.chip x.dust (by omega) (by omega)
  have ho := @uni_out x.len x.kerf x.pitch x.sizes x.gains x.chip x.dust
  unfold uniP at hu
  generalize uniS x.len x.kerf x.pitch x.sizes x.gains x.chip x.dust = r at *
  have hs := same_uni ho.2
  repeat' (first
    | ((with_reducible apply r_call); exact rfl; exact rfl; (first | exact hu | exact hr | exact hs | exact awake_con); exact rfl; exact rfl)
    | ((with_reducible apply aw_seq))
    | ((with_reducible apply aw_region))
    | ((with_reducible apply thn_normal))
    | ((with_reducible apply aw_skip))
    | ((with_reducible apply aw_ret))
    | ((with_reducible apply ao_nil))
    | ((with_reducible apply r_move); exact rfl; exact rfl)
    | ((with_reducible apply r_assign); exact rfl; exact rfl)
    | ((with_reducible apply r_field_p); exact rfl; exact rfl)
    | ((with_reducible apply r_load_p); exact rfl; exact rfl; exact rfl; exact rfl)
    | ((with_reducible apply r_load_pa); exact rfl; exact rfl; exact rfl; exact rfl; exact rfl)
    | ((with_reducible apply r_leq); exact rfl; exact rfl; exact rfl)
    | ((with_reducible apply r_gtr); exact rfl; exact rfl; exact rfl)
    | ((with_reducible apply r_eql); exact rfl; exact rfl; exact rfl)
    | ((with_reducible apply r_box_a); exact rfl; exact rfl)
    | ((with_reducible apply r_pick_t); exact rfl; exact rfl; exact rfl)
    | ((with_reducible apply r_pick_f); exact rfl; exact rfl; exact rfl)
    | ((with_reducible apply r_len_f); exact rfl; exact inferInstance; exact rfl)
    | ((with_reducible apply r_store_pa); exact rfl; exact rfl; exact rfl; exact rfl; exact rfl; exact rfl)
    | ((with_reducible apply r_extract); exact rfl; exact rfl; exact rfl)
    | ((with_reducible apply r_alloc); exact rfl)
    | (((with_reducible apply r_guard); exact rfl; exact rfl; exact rfl; exact rfl) <;> intro hg <;> (first | (exact absurd hg (by decide)) | ((try simp only [decide_eq_true_eq, decide_eq_false_iff_not, Bool.not_eq_true', Bool.not_eq_false', Bool.not_true, Bool.not_false, Bool.not_not, Int.not_lt, Int.not_le, Nat.not_lt, Nat.not_le, gt_iff_lt, ge_iff_le, List.cons.injEq, and_true] at hg); first | (exact absurd trivial hg) | (exfalso; omega) | (have hT : True := hg; clear hT hg) | skip)))
    | (((with_reducible apply aw_cond); exact rfl) <;> intro hg <;> (first | (exact absurd hg (by decide)) | ((try simp only [decide_eq_true_eq, decide_eq_false_iff_not, Bool.not_eq_true', Bool.not_eq_false', Bool.not_true, Bool.not_false, Bool.not_not, Int.not_lt, Int.not_le, Nat.not_lt, Nat.not_le, gt_iff_lt, ge_iff_le, List.cons.injEq, and_true] at hg); first | (exact absurd trivial hg) | (exfalso; omega) | (have hT : True := hg; clear hT hg) | skip)))
    )
  all_goals first | exact ret_b rfl rfl | trace_state
end Go.Proofs.YtjofnmklkndhoaaDoor.Cu
