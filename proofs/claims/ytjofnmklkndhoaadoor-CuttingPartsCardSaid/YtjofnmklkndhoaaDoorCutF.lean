/- Walks of cutting: Value in both. -/
import Derived.Test.YtjofnmklkndhoaaDoorCutE
namespace Go.Proofs.YtjofnmklkndhoaaDoor.Cu
set_option linter.unusedVariables false
set_option linter.unusedSimpArgs false
open Go.RowKit Go.Proofs.YtjofnmklkndhoaaDoor.Ev
variable {gl : List (Nat × List CV)}

theorem valS_err {l : Line} {p : List Piece} {e : Int} {D C : List Span} (h : cutsS l p = (e, D, C)) (he : ¬ e = 0) : valS l p = (0, e) := by
  unfold valS; rw [h]; rw [if_pos he]
theorem valS_ok {l : Line} {p : List Piece} {D C : List Span} (h : cutsS l p = (0, D, C)) : valS l p = (sumSp l.dust D + sumSp l.chip C + gsum l p, 0) := by
  unfold valS; rw [h]; rw [if_neg (by simp)]
theorem cutsS_ok {l : Line} {p : List Piece} {D C : List Span} (h : cutsS l p = (0, D, C)) : chk l = 0 ∧ cutsGo l p 0 [] [] = (0, D, C) := by
  unfold cutsS at h
  split at h
  · rename_i hc
    simp only [Prod.mk.injEq] at h
    exact absurd h.1 hc
  · rename_i hc
    exact ⟨by simpa using hc, h⟩
/-- What Value needs of good cuts. -/
structure Good (l : Line) (p : List Piece) (D C : List Span) : Prop where
  v : Valid l
  d : SpsOk l.dust.length D
  c : SpsOk l.chip.length C
  bd : Bd l.dust
  bc : Bd l.chip
  ld : l.dust.length ≤ 2000
  lc : l.chip.length ≤ 2000
  nd : D.length ≤ 2000
  nc : C.length ≤ 2000
  sd : -1125899906842624 * 2000 ≤ sumSp l.dust D ∧ sumSp l.dust D ≤ 1125899906842624 * 2000
  sc : -1125899906842624 * 2000 ≤ sumSp l.chip C ∧ sumSp l.chip C ≤ 1125899906842624 * 2000
  np : p.length ≤ 2000
  pm : ∀ x ∈ p, ∃ e, perm l e x = 0
theorem sumSp_le {l : List Int} (hb : Bd l) {ss : List Span} (h : SpsOk l.length ss) (ht : 0 ≤ tot ss) (h2 : tot ss ≤ 2000) : -1125899906842624 * 2000 ≤ sumSp l ss ∧ sumSp l ss ≤ 1125899906842624 * 2000 := by
  have := sumSp_bd hb h ss.length (Nat.le_refl _)
  rw [List.take_length] at this
  omega
theorem good_of {l : Line} {p : List Piece} {D C : List Span} (h : cutsS l p = (0, D, C)) : Good l p D C := by
  obtain ⟨hc, hg⟩ := cutsS_ok h
  have v := valid_of hc
  obtain ⟨h1, h2, h3, h4⟩ := cuts_ok v hg
  have t1 := tot_nn h1
  have t2 := tot_nn h2
  have hl := v.len
  have hd := v.dust
  have hch := v.chip
  have e1 : SpsOk l.dust.length D := sps_of (by rw [hd]; exact h1) (by omega)
  have e2 : SpsOk l.chip.length C := sps_of (by rw [hch]; exact h2) (by omega)
  exact ⟨v, e1, e2, v.dusts, v.chips, by omega, by omega, by omega, by omega, sumSp_le v.dusts e1 (by omega) (by omega), sumSp_le v.chips e2 (by omega) (by omega), by omega, h4⟩
set_option maxRecDepth 100000 in
set_option maxHeartbeats 8000000 in
theorem value_con (l : Line) (p : List Piece) (hp : p.length ≤ 100000) : Con Tryd.prog gl 17 [lineC l, LP p] (valC (valS l p)) := by
  have hcc := cuts_con (gl := gl) l p hp
  generalize hcs : cutsS l p = cs at hcc
  obtain ⟨e, D, C⟩ := cs
  have hcc' : Con Tryd.prog gl 15 [lineC l, LP p] (.tup [LS D, LS C, I e]) := hcc
  refine con_of Tryd.func17 rfl (by kernel_rfl) rfl ?_
  simp only [Tryd.ntmps17, Tryd.results17, argEnv, ofC, of1, List.map, lineC, lineL]
  by_cases he : e = 0
  · subst he
    have g := good_of hcs
    have gd := g.sd
    have gc := g.sc
    rw [valS_ok hcs]
    repeat' (first
      | ((with_reducible apply r_call); exact rfl; exact rfl; exact hcc'; exact rfl; exact rfl)
      | ((with_reducible apply r_call); exact rfl; exact rfl; (first | exact total_con l.dust g.bd D g.d (by have := g.ld; omega) (by have := g.nd; omega) | exact total_con l.chip g.bc C g.c (by have := g.lc; omega) (by have := g.nc; omega)); exact rfl; exact rfl)
      | ((with_reducible apply aw_seq))
      | ((with_reducible apply aw_region))
      | ((with_reducible apply aw_block))
      | ((with_reducible apply thn_normal))
      | ((with_reducible apply aw_skip))
      | ((with_reducible apply ao_nil))
      | ((with_reducible apply r_move); exact rfl; exact rfl)
      | ((with_reducible apply r_assign); exact rfl; exact rfl)
      | ((with_reducible apply r_field_p); exact rfl; exact rfl)
      | ((with_reducible apply r_load_p); exact rfl; exact rfl; exact rfl; exact rfl)
      | ((with_reducible apply r_load_pa); exact rfl; exact rfl; exact rfl; exact rfl; exact rfl)
      | ((with_reducible apply r_neq); exact rfl; exact rfl; exact rfl)
      | ((with_reducible apply r_add); exact rfl; exact rfl; exact (by first | assumption | (unfold fits; omega)); exact rfl)
      | ((with_reducible apply r_box_a); exact rfl; exact rfl)
      | ((with_reducible apply r_len_f); exact rfl; exact inferInstance; exact rfl)
      | ((with_reducible apply r_extract); exact rfl; exact rfl; exact rfl)
      | (((with_reducible apply aw_cond); exact rfl) <;> intro hg <;> (first | (exact absurd hg (by decide)) | ((try simp only [decide_eq_true_eq, decide_eq_false_iff_not, Bool.not_eq_true', Bool.not_eq_false', Bool.not_true, Bool.not_false, Bool.not_not, Int.not_lt, Int.not_le, Nat.not_lt, Nat.not_le, gt_iff_lt, ge_iff_le, List.cons.injEq, and_true] at hg); first | (exact absurd trivial hg) | (exfalso; omega) | (have hT : True := hg; clear hT hg) | skip)))
      | (refine aw_drawq ?_ ?_; (kernel_rfl))
      | ((with_reducible apply ds_nil))
      )
    refine aw_loopG (G := Nat × Int) (fun ((j, t) : Nat × Int) => j ≤ p.length ∧ t = sumSp l.dust D + sumSp l.chip C + gsum l (p.take j)) (fun ((j, t) : Nat × Int) => p.length - j) (fun ((j, t) : Nat × Int) => [(2, .ptr 0 0), (9, A t), (31, .c (LP p)), (32, A p.length), (33, A j)]) (fun ((j, t) : Nat × Int) => [(0, some (lineB l))]) 1 (0, sumSp l.dust D + sumSp l.chip C) ?_ (by refine weak_mk rfl ?_ ?_ <;> repeat (first | exact envW_nil | exact heapW_nil | refine envW_cons rfl rfl ?_ | refine heapW_cons rfl rfl rfl ?_)) rfl ?_
    · exact ⟨Nat.zero_le _, by simp [gsum]⟩
    rintro ⟨j, t⟩ hI
    try dsimp only at hI
    try dsimp only
    obtain ⟨hj, ht⟩ := hI
    by_cases hjl : j < p.length
    · obtain ⟨e', hpm⟩ := g.pm p[j] (List.getElem_mem hjl)
      obtain ⟨q1, q2, h1, h2, h3, h4, h5, h6, h7, h8, h9⟩ := piece_ok g.v (s := p[j].1) (p := p[j].2) hpm
      have hgs := gsum_succ l p j hjl
      have hgb := gsum_bd g.v g.pm j hj
      have hnp := g.np
      repeat' (first
        | ((with_reducible apply aw_seq))
        | ((with_reducible apply aw_region))
        | ((with_reducible apply aw_block))
        | ((with_reducible apply thn_normal))
        | ((with_reducible apply inb_normal))
        | ((with_reducible apply aw_skip))
        | ((with_reducible apply ao_nil))
        | ((with_reducible apply r_move); exact rfl; exact rfl)
        | ((with_reducible apply r_assign); exact rfl; exact rfl)
        | ((with_reducible apply r_field_p); exact rfl; exact rfl)
        | ((with_reducible apply r_load_p); exact rfl; exact rfl; exact rfl; exact rfl)
        | ((with_reducible apply r_lss); exact rfl; exact rfl; exact rfl)
        | ((with_reducible apply r_add); exact rfl; exact rfl; exact (by first | assumption | (unfold fits; omega)); exact rfl)
        | ((with_reducible apply r_index_f); exact rfl; exact inferInstance; exact rfl; exact rfl; (first | assumption | omega); exact rfl)
        | ((with_reducible apply r_index_f); exact rfl; exact inferInstance; exact rfl; exact (Int.toNat_of_nonneg (by omega)).symm; (first | assumption | omega); exact rfl)
        | ((with_reducible apply r_load_f0); exact rfl; exact inferInstance; exact List.getElem?_eq_getElem (by first | assumption | omega); exact rfl; exact rfl)
        | ((with_reducible apply r_load_fa0); exact rfl; exact inferInstance; exact List.getElem?_eq_getElem (by first | assumption | omega); exact rfl; exact rfl; exact rfl)
        | ((with_reducible apply r_store_pa); exact rfl; exact rfl; exact rfl; exact rfl; exact rfl; exact rfl)
        | ((with_reducible apply r_alloc); exact rfl)
        | (((with_reducible apply aw_cond); exact rfl) <;> intro hg <;> (first | (exact absurd hg (by decide)) | ((try simp only [decide_eq_true_eq, decide_eq_false_iff_not, Bool.not_eq_true', Bool.not_eq_false', Bool.not_true, Bool.not_false, Bool.not_not, Int.not_lt, Int.not_le, Nat.not_lt, Nat.not_le, gt_iff_lt, ge_iff_le, List.cons.injEq, and_true] at hg); first | (exact absurd trivial hg) | (exfalso; omega) | (have hT : True := hg; clear hT hg) | skip)))
        | (refine aw_drawq ?_ ?_; (kernel_rfl))
        | ((with_reducible apply ds_nil))
        )
      refine ⟨(j + 1, t + l.gain[p[j].1.toNat][p[j].2.toNat]), ?_, ?_, by refine weak_mk rfl ?_ ?_ <;> repeat (first | exact envW_nil | exact heapW_nil | refine envW_cons rfl rfl ?_ | refine heapW_cons rfl rfl rfl ?_)⟩
      · show _ - (j + 1) < _ - j; omega
      · exact ⟨by show j + 1 ≤ _; omega, by show _ = _ + gsum l (p.take (j + 1)); rw [hgs, ht, h4]; omega⟩
    · skip
      repeat' (first
        | ((with_reducible apply aw_seq))
        | ((with_reducible apply aw_region))
        | ((with_reducible apply thn_normal))
        | ((with_reducible apply thn_exit))
        | ((with_reducible apply inb_exit))
        | ((with_reducible apply aw_exit))
        | ((with_reducible apply aw_ret))
        | ((with_reducible apply ao_nil))
        | ((with_reducible apply r_move); exact rfl; exact rfl)
        | ((with_reducible apply r_assign); exact rfl; exact rfl)
        | ((with_reducible apply r_lss); exact rfl; exact rfl; exact rfl)
        | (((with_reducible apply aw_cond); exact rfl) <;> intro hg <;> (first | (exact absurd hg (by decide)) | ((try simp only [decide_eq_true_eq, decide_eq_false_iff_not, Bool.not_eq_true', Bool.not_eq_false', Bool.not_true, Bool.not_false, Bool.not_not, Int.not_lt, Int.not_le, Nat.not_lt, Nat.not_le, gt_iff_lt, ge_iff_le, List.cons.injEq, and_true] at hg); first | (exact absurd trivial hg) | (exfalso; omega) | (have hT : True := hg; clear hT hg) | skip)))
        )
      exact ret2 (.cons (.tmp rfl (by rw [ht, List.take_of_length_le (by omega)]; exact cl_c)) (.cons (.tmp rfl cl_c) .nil))
  · rw [valS_err hcs he]
    repeat' (first
      | ((with_reducible apply r_call); exact rfl; exact rfl; exact hcc'; exact rfl; exact rfl)
      | ((with_reducible apply aw_seq))
      | ((with_reducible apply aw_region))
      | ((with_reducible apply thn_normal))
      | ((with_reducible apply thn_ret))
      | ((with_reducible apply aw_ret))
      | ((with_reducible apply ao_nil))
      | ((with_reducible apply r_move); exact rfl; exact rfl)
      | ((with_reducible apply r_assign); exact rfl; exact rfl)
      | ((with_reducible apply r_load_pa); exact rfl; exact rfl; exact rfl; exact rfl; exact rfl)
      | ((with_reducible apply r_neq); exact rfl; exact rfl; exact rfl)
      | ((with_reducible apply r_box_a); exact rfl; exact rfl)
      | ((with_reducible apply r_extract); exact rfl; exact rfl; exact rfl)
      | (((with_reducible apply aw_cond); exact rfl) <;> intro hg <;> (first | (exact absurd hg (by decide)) | ((try simp only [decide_eq_true_eq, decide_eq_false_iff_not, Bool.not_eq_true', Bool.not_eq_false', Bool.not_true, Bool.not_false, Bool.not_not, Int.not_lt, Int.not_le, Nat.not_lt, Nat.not_le, gt_iff_lt, ge_iff_le, List.cons.injEq, and_true] at hg); first | (exact absurd trivial hg) | (exfalso; omega) | (have hT : True := hg; clear hT hg) | skip)))
      )
    exact ret2 (.cons (.tmp rfl cl_c) (.cons (.tmp rfl cl_c) .nil))
set_option maxRecDepth 100000 in
set_option maxHeartbeats 8000000 in
theorem rvalue_con (l : Line) (p : List Piece) (hp : p.length ≤ 100000) : Con Tryd.prog gl 18 [lineC l, LP p] (valC (valS l p)) := by
  have hcc := rcuts_con (gl := gl) l p hp
  generalize hcs : cutsS l p = cs at hcc
  obtain ⟨e, D, C⟩ := cs
  have hcc' : Con Tryd.prog gl 16 [lineC l, LP p] (.tup [LS D, LS C, I e]) := hcc
  refine con_of Tryd.func18 rfl (by kernel_rfl) rfl ?_
  simp only [Tryd.ntmps18, Tryd.results18, argEnv, ofC, of1, List.map, lineC, lineL]
  by_cases he : e = 0
  · subst he
    have g := good_of hcs
    have gd := g.sd
    have gc := g.sc
    rw [valS_ok hcs]
    repeat' (first
      | ((with_reducible apply r_call); exact rfl; exact rfl; exact hcc'; exact rfl; exact rfl)
      | ((with_reducible apply r_call); exact rfl; exact rfl; (first | exact sum_con l.dust g.bd D g.d (by have := g.ld; omega) (by have := g.nd; omega) | exact sum_con l.chip g.bc C g.c (by have := g.lc; omega) (by have := g.nc; omega)); exact rfl; exact rfl)
      | ((with_reducible apply aw_seq))
      | ((with_reducible apply aw_region))
      | ((with_reducible apply aw_block))
      | ((with_reducible apply thn_normal))
      | ((with_reducible apply aw_skip))
      | ((with_reducible apply ao_nil))
      | ((with_reducible apply r_move); exact rfl; exact rfl)
      | ((with_reducible apply r_assign); exact rfl; exact rfl)
      | ((with_reducible apply r_field_p); exact rfl; exact rfl)
      | ((with_reducible apply r_load_p); exact rfl; exact rfl; exact rfl; exact rfl)
      | ((with_reducible apply r_load_pa); exact rfl; exact rfl; exact rfl; exact rfl; exact rfl)
      | ((with_reducible apply r_neq); exact rfl; exact rfl; exact rfl)
      | ((with_reducible apply r_add); exact rfl; exact rfl; exact (by first | assumption | (unfold fits; omega)); exact rfl)
      | ((with_reducible apply r_box_a); exact rfl; exact rfl)
      | ((with_reducible apply r_extract); exact rfl; exact rfl; exact rfl)
      | (((with_reducible apply aw_cond); exact rfl) <;> intro hg <;> (first | (exact absurd hg (by decide)) | ((try simp only [decide_eq_true_eq, decide_eq_false_iff_not, Bool.not_eq_true', Bool.not_eq_false', Bool.not_true, Bool.not_false, Bool.not_not, Int.not_lt, Int.not_le, Nat.not_lt, Nat.not_le, gt_iff_lt, ge_iff_le, List.cons.injEq, and_true] at hg); first | (exact absurd trivial hg) | (exfalso; omega) | (have hT : True := hg; clear hT hg) | skip)))
      | (refine aw_drawq ?_ ?_; (kernel_rfl))
      | ((with_reducible apply ds_nil))
      )
    refine aw_loopG (G := Nat × Int) (fun ((j, t) : Nat × Int) => j ≤ p.length ∧ t = sumSp l.dust D + sumSp l.chip C + gsum l (p.take j)) (fun ((j, t) : Nat × Int) => p.length - j) (fun ((j, t) : Nat × Int) => [(1, .c (LP p)), (2, .ptr 0 0), (9, A t), (10, A j)]) (fun ((j, t) : Nat × Int) => [(0, some (lineB l))]) 1 (0, sumSp l.dust D + sumSp l.chip C) ?_ (by refine weak_mk rfl ?_ ?_ <;> repeat (first | exact envW_nil | exact heapW_nil | refine envW_cons rfl rfl ?_ | refine heapW_cons rfl rfl rfl ?_)) rfl ?_
    · exact ⟨Nat.zero_le _, by simp [gsum]⟩
    rintro ⟨j, t⟩ hI
    try dsimp only at hI
    try dsimp only
    obtain ⟨hj, ht⟩ := hI
    by_cases hjl : j < p.length
    · obtain ⟨e', hpm⟩ := g.pm p[j] (List.getElem_mem hjl)
      obtain ⟨q1, q2, h1, h2, h3, h4, h5, h6, h7, h8, h9⟩ := piece_ok g.v (s := p[j].1) (p := p[j].2) hpm
      have hgs := gsum_succ l p j hjl
      have hgb := gsum_bd g.v g.pm j hj
      have hnp := g.np
      repeat' (first
        | ((with_reducible apply aw_seq))
        | ((with_reducible apply aw_region))
        | ((with_reducible apply aw_block))
        | ((with_reducible apply thn_normal))
        | ((with_reducible apply inb_normal))
        | ((with_reducible apply aw_skip))
        | ((with_reducible apply ao_nil))
        | ((with_reducible apply r_move); exact rfl; exact rfl)
        | ((with_reducible apply r_assign); exact rfl; exact rfl)
        | ((with_reducible apply r_field_p); exact rfl; exact rfl)
        | ((with_reducible apply r_load_p); exact rfl; exact rfl; exact rfl; exact rfl)
        | ((with_reducible apply r_lss); exact rfl; exact rfl; exact rfl)
        | ((with_reducible apply r_add); exact rfl; exact rfl; exact (by first | assumption | (unfold fits; omega)); exact rfl)
        | ((with_reducible apply r_len_f); exact rfl; exact inferInstance; exact rfl)
        | ((with_reducible apply r_index_f); exact rfl; exact inferInstance; exact rfl; exact rfl; (first | assumption | omega); exact rfl)
        | ((with_reducible apply r_index_f); exact rfl; exact inferInstance; exact rfl; exact (Int.toNat_of_nonneg (by omega)).symm; (first | assumption | omega); exact rfl)
        | ((with_reducible apply r_load_f0); exact rfl; exact inferInstance; exact List.getElem?_eq_getElem (by first | assumption | omega); exact rfl; exact rfl)
        | ((with_reducible apply r_load_f); exact rfl; exact inferInstance; exact List.getElem?_eq_getElem (by first | assumption | omega); exact rfl; exact rfl; exact rfl)
        | ((with_reducible apply r_field_e); exact rfl; exact rfl)
        | (((with_reducible apply aw_cond); exact rfl) <;> intro hg <;> (first | (exact absurd hg (by decide)) | ((try simp only [decide_eq_true_eq, decide_eq_false_iff_not, Bool.not_eq_true', Bool.not_eq_false', Bool.not_true, Bool.not_false, Bool.not_not, Int.not_lt, Int.not_le, Nat.not_lt, Nat.not_le, gt_iff_lt, ge_iff_le, List.cons.injEq, and_true] at hg); first | (exact absurd trivial hg) | (exfalso; omega) | (have hT : True := hg; clear hT hg) | skip)))
        | (refine aw_drawq ?_ ?_; (kernel_rfl))
        | ((with_reducible apply ds_nil))
        )
      refine ⟨(j + 1, t + l.gain[p[j].1.toNat][p[j].2.toNat]), ?_, ?_, by refine weak_mk rfl ?_ ?_ <;> repeat (first | exact envW_nil | exact heapW_nil | refine envW_cons rfl rfl ?_ | refine heapW_cons rfl rfl rfl ?_)⟩
      · show _ - (j + 1) < _ - j; omega
      · exact ⟨by show j + 1 ≤ _; omega, by show _ = _ + gsum l (p.take (j + 1)); rw [hgs, ht, h4]; omega⟩
    · skip
      repeat' (first
        | ((with_reducible apply aw_seq))
        | ((with_reducible apply aw_region))
        | ((with_reducible apply thn_normal))
        | ((with_reducible apply thn_exit))
        | ((with_reducible apply inb_exit))
        | ((with_reducible apply aw_exit))
        | ((with_reducible apply aw_ret))
        | ((with_reducible apply ao_nil))
        | ((with_reducible apply r_move); exact rfl; exact rfl)
        | ((with_reducible apply r_assign); exact rfl; exact rfl)
        | ((with_reducible apply r_lss); exact rfl; exact rfl; exact rfl)
        | ((with_reducible apply r_len_f); exact rfl; exact inferInstance; exact rfl)
        | (((with_reducible apply aw_cond); exact rfl) <;> intro hg <;> (first | (exact absurd hg (by decide)) | ((try simp only [decide_eq_true_eq, decide_eq_false_iff_not, Bool.not_eq_true', Bool.not_eq_false', Bool.not_true, Bool.not_false, Bool.not_not, Int.not_lt, Int.not_le, Nat.not_lt, Nat.not_le, gt_iff_lt, ge_iff_le, List.cons.injEq, and_true] at hg); first | (exact absurd trivial hg) | (exfalso; omega) | (have hT : True := hg; clear hT hg) | skip)))
        )
      exact ret2 (.cons (.tmp rfl (by rw [ht, List.take_of_length_le (by omega)]; exact cl_c)) (.cons (.tmp rfl cl_c) .nil))
  · rw [valS_err hcs he]
    repeat' (first
      | ((with_reducible apply r_call); exact rfl; exact rfl; exact hcc'; exact rfl; exact rfl)
      | ((with_reducible apply aw_seq))
      | ((with_reducible apply aw_region))
      | ((with_reducible apply thn_normal))
      | ((with_reducible apply thn_ret))
      | ((with_reducible apply aw_ret))
      | ((with_reducible apply ao_nil))
      | ((with_reducible apply r_move); exact rfl; exact rfl)
      | ((with_reducible apply r_assign); exact rfl; exact rfl)
      | ((with_reducible apply r_load_pa); exact rfl; exact rfl; exact rfl; exact rfl; exact rfl)
      | ((with_reducible apply r_neq); exact rfl; exact rfl; exact rfl)
      | ((with_reducible apply r_box_a); exact rfl; exact rfl)
      | ((with_reducible apply r_extract); exact rfl; exact rfl; exact rfl)
      | (((with_reducible apply aw_cond); exact rfl) <;> intro hg <;> (first | (exact absurd hg (by decide)) | ((try simp only [decide_eq_true_eq, decide_eq_false_iff_not, Bool.not_eq_true', Bool.not_eq_false', Bool.not_true, Bool.not_false, Bool.not_not, Int.not_lt, Int.not_le, Nat.not_lt, Nat.not_le, gt_iff_lt, ge_iff_le, List.cons.injEq, and_true] at hg); first | (exact absurd trivial hg) | (exfalso; omega) | (have hT : True := hg; clear hT hg) | skip)))
      )
    exact ret2 (.cons (.tmp rfl cl_c) (.cons (.tmp rfl cl_c) .nil))
end Go.Proofs.YtjofnmklkndhoaaDoor.Cu
