/- Walks of cutting: the best pieces. -/
import Derived.Test.YtjofnmklkndhoaaDoorCutK
namespace Go.Proofs.YtjofnmklkndhoaaDoor.Cu
set_option linter.unusedVariables false
set_option linter.unusedSimpArgs false
open Go.RowKit Go.Proofs.YtjofnmklkndhoaaDoor.Ev

/-- The pieces from an edge on. -/
def chainS (l : Line) : Nat → Int → List Piece
  | 0, _ => []
  | n + 1, e => if e < 0 ∨ (TT l e).1 < 0 then [] else ((TT l e).1, (TT l e).2.1) :: chainS l n (behindS l ((TT l e).2.1 + szOf l (TT l e).1))
/-- Pieces, value, error. -/
noncomputable def bestS (l : Line) : List Piece × Int × Int := if chk l ≠ 0 then ([], 0, chk l) else (chainS l (l.len.toNat + 2) 0, TV l 0, 0)
def bestC (r : List Piece × Int × Int) : CV := .tup [LP r.1, I r.2.1, I r.2.2]
theorem chain_stop {l : Line} {n : Nat} {e : Int} (h : e < 0 ∨ (TT l e).1 < 0) : chainS l n e = [] := by
  cases n with
  | zero => rfl
  | succ n => show (if _ then _ else _) = _; rw [if_pos h]
theorem chain_go {l : Line} {n : Nat} {e : Int} (h0 : 0 ≤ e) (h : 0 ≤ (TT l e).1) : chainS l (n + 1) e = ((TT l e).1, (TT l e).2.1) :: chainS l n (behindS l ((TT l e).2.1 + szOf l (TT l e).1)) := by
  show (if _ then _ else _) = _; rw [if_neg (by omega)]
/-- What a choice is. -/
theorem TT_sgn {l : Line} (v : Valid l) {e : Int} (h0 : 0 ≤ e) (h1 : e ≤ l.len) : ((TT l e).1 = -1 ∧ (TT l e).2.1 = -1) ∨ (0 ≤ (TT l e).1 ∧ (TT l e).1 < l.sizes.length ∧ e ≤ (TT l e).2.1 ∧ OkP l (TT l e).1.toNat (TT l e).2.1) := by
  rw [TT_eq v h0 h1]
  unfold chooseS
  rcases posS_sgn l (TV l) e l.len.toNat with h | ⟨q, hq, h2, h3, h4, h5⟩
  · exact .inl h
  · refine .inr ⟨h2, h3, ?_, by rw [h4]; exact h5⟩
    rw [h4]
    rcases hq with rfl | ⟨j, hj, rfl, _⟩
    · exact Int.le_refl _
    · have := atP_ge v e j
      have := v.kerf
      omega
theorem best_ok {l : Line} (h : chk l = 0) : bestS l = (chainS l (l.len.toNat + 2) 0, TV l 0, 0) := by unfold bestS; rw [if_neg (fun hh => hh h)]
theorem best_err {l : Line} (h : ¬ chk l = 0) : bestS l = ([], 0, chk l) := by unfold bestS; rw [if_pos h]
theorem OkP_sz {l : Line} {k : Int} {p : Int} (h0 : 0 ≤ k) (h : OkP l k.toNat p) : p + szOf l k ≤ l.len := by
  have := h.1; rw [Int.toNat_of_nonneg h0] at this; exact this
set_option maxRecDepth 100000 in
set_option maxHeartbeats 8000000 in
theorem best_con (l : Line) : Con Tryd.prog G 21 [lineC l] (bestC (bestS l)) := by
  refine con_of Tryd.func21 rfl (by kernel_rfl) rfl ?_
  simp only [Tryd.ntmps21, Tryd.results21, argEnv, ofC, of1, List.map, lineC, lineL]
  repeat' (first
    | ((with_reducible apply r_call); exact rfl; exact rfl; exact check_con l; exact rfl; exact rfl)
    | ((with_reducible apply aw_seq))
    | ((with_reducible apply aw_region))
    | ((with_reducible apply thn_normal))
    | ((with_reducible apply thn_ret))
    | ((with_reducible apply aw_skip))
    | ((with_reducible apply aw_ret))
    | ((with_reducible apply ao_nil))
    | ((with_reducible apply r_move); exact rfl; exact rfl)
    | ((with_reducible apply r_assign); exact rfl; exact rfl)
    | ((with_reducible apply r_load_pa); exact rfl; exact rfl; exact rfl; exact rfl; exact rfl)
    | ((with_reducible apply r_neq); exact rfl; exact rfl; exact rfl)
    | ((with_reducible apply r_box_a); exact rfl; exact rfl)
    | (((with_reducible apply aw_cond); exact rfl) <;> intro hg <;> (first | (exact absurd hg (by decide)) | ((try simp only [decide_eq_true_eq, decide_eq_false_iff_not, Bool.not_eq_true', Bool.not_eq_false', Bool.not_true, Bool.not_false, Bool.not_not, Int.not_lt, Int.not_le, Nat.not_lt, Nat.not_le, gt_iff_lt, ge_iff_le, List.cons.injEq, and_true] at hg); first | (exact absurd trivial hg) | (exfalso; omega) | (have hT : True := hg; clear hT hg) | skip)))
    )
  · rw [best_err hg]
    exact ret2 (.cons (.tmp rfl cl_none) (.cons (.tmp rfl cl_c) (.cons (.tmp rfl cl_c) .nil)))
  have v := valid_of hg
  have hl := v.len
  have hlk := v.kerf
  have hlt := tabS_len l
  have h0 : TV l 0 = ((tabS l)[(0 : Int).toNat]'(by rw [hlt]; omega)).2.2 := by rw [tabS_get]; rfl
  rw [best_ok hg, h0]
  repeat' (first
    | ((with_reducible apply r_call); exact rfl; exact rfl; exact choices_con l v; exact rfl; exact rfl)
    | ((with_reducible apply aw_seq))
    | ((with_reducible apply aw_region))
    | ((with_reducible apply aw_block))
    | ((with_reducible apply thn_normal))
    | ((with_reducible apply ao_nil))
    | ((with_reducible apply r_assign); exact rfl; exact rfl)
    )
  refine aw_nilvec 7 52 2 rfl rfl ?_
  refine aw_loopG (G := Nat × Int × Nat × List Piece) (fun ((n, ed, k, out) : Nat × Int × Nat × List Piece) => out.length = k ∧ -1 ≤ ed ∧ ed ≤ l.len ∧ (0 ≤ ed → l.len - ed + 1 ≤ n) ∧ out.length + n ≤ l.len.toNat + 2 ∧ chainS l (l.len.toNat + 2) 0 = out ++ chainS l n ed) (fun ((n, ed, k, out) : Nat × Int × Nat × List Piece) => n) (fun ((n, ed, k, out) : Nat × Int × Nat × List Piece) => [(1, .ptr 0 0), (6, .c (LC (tabS l))), (7, .vec 1 k), (8, A ed)]) (fun ((n, ed, k, out) : Nat × Int × Nat × List Piece) => [(0, some (lineB l)), (1, some (.vec 52 2 (out.flatMap pcC)))]) 2 (l.len.toNat + 2, 0, 0, []) ?_ (by refine weak_mk rfl ?_ ?_ <;> repeat (first | exact envW_nil | exact heapW_nil | refine envW_cons rfl rfl ?_ | refine heapW_cons rfl rfl rfl ?_)) rfl ?_
  · exact ⟨rfl, by decide, hl.1, fun _ => by omega, by simp, by simp⟩
  rintro ⟨n, ed, k, out⟩ hI
  try dsimp only at hI
  try dsimp only
  obtain ⟨hk, he1, he2, hn, ho, hch⟩ := hI
  by_cases he0 : 0 ≤ ed
  · have htg := tabS_get l ed.toNat (by omega)
    rw [Int.toNat_of_nonneg he0] at htg
    have hs := TT_sgn v he0 he2
    rw [← htg] at hs
    rcases hs with hs | ⟨s1, s2, s3, s4⟩
    · skip
      repeat' (first
        | ((with_reducible apply (r_load_ea (zs := [I (-1), I (-1)]) (ys := []))); exact rfl; exact rfl; exact rfl; exact rfl)
        | ((with_reducible apply aw_seq))
        | ((with_reducible apply aw_region))
        | ((with_reducible apply aw_block))
        | ((with_reducible apply thn_normal))
        | ((with_reducible apply thn_exit))
        | ((with_reducible apply inb_exit))
        | ((with_reducible apply inb_other); exact rfl)
        | ((with_reducible apply aw_skip))
        | ((with_reducible apply aw_exit))
        | ((with_reducible apply aw_ret))
        | ((with_reducible apply ao_nil))
        | ((with_reducible apply r_move); exact rfl; exact rfl)
        | ((with_reducible apply r_assign); exact rfl; exact rfl)
        | ((with_reducible apply r_load_pa); exact rfl; exact rfl; exact rfl; exact rfl; exact rfl)
        | ((with_reducible apply r_geq); exact rfl; exact rfl; exact rfl)
        | ((with_reducible apply r_index_f); exact rfl; exact inferInstance; exact rfl; exact (Int.toNat_of_nonneg (by omega)).symm; (first | assumption | omega); exact rfl)
        | ((with_reducible apply r_load_f); exact rfl; exact inferInstance; exact List.getElem?_eq_getElem (by first | assumption | omega); exact rfl; exact rfl; exact rfl)
        | ((with_reducible apply r_load_fa); exact rfl; exact inferInstance; exact List.getElem?_eq_getElem (by first | assumption | omega); exact rfl; exact rfl; exact rfl)
        | ((with_reducible apply r_field_e); exact rfl; exact rfl)
        | ((with_reducible apply r_store_pa); exact rfl; exact rfl; exact rfl; exact rfl; exact rfl; exact rfl)
        | ((with_reducible apply r_alloc); exact rfl)
        | (((with_reducible apply aw_cond); exact rfl) <;> intro hg <;> (first | (exact absurd hg (by decide)) | ((try simp only [decide_eq_true_eq, decide_eq_false_iff_not, Bool.not_eq_true', Bool.not_eq_false', Bool.not_true, Bool.not_false, Bool.not_not, Int.not_lt, Int.not_le, Nat.not_lt, Nat.not_le, gt_iff_lt, ge_iff_le, List.cons.injEq, and_true] at hg); first | (exact absurd trivial hg) | (exfalso; omega) | (have hT : True := hg; clear hT hg) | skip)))
        | (refine aw_drawq ?_ ?_; (kernel_rfl))
        | ((with_reducible apply ds_nil))
        | ((with_reducible apply r_eqs); exact rfl; exact rfl; exact rfl; exact rfl; exact rfl; exact rfl; exact rfl)
        )
      rw [hch, chain_stop (Or.inr (by rw [← htg]; omega)), List.append_nil]
      exact ret2 (.cons (.tmp rfl (cl_vec rfl (by rw [flat_len EncL.len, hk]))) (.cons (.tmp rfl cl_c) (.cons (.tmp rfl cl_c) .nil)))
    · have s5 := OkP_sz s1 s4
      obtain ⟨m, rfl⟩ : ∃ m, n = m + 1 := ⟨n - 1, by omega⟩
      have hgo := chain_go (l := l) (n := m) he0 (by rw [← htg]; exact s1)
      rw [← htg] at hgo
      have hk2 : (tabS l)[ed.toNat].1.toNat < l.sizes.length := by omega
      have hsz : szOf l (tabS l)[ed.toNat].1 = l.sizes[(tabS l)[ed.toNat].1.toNat] := by
        conv => lhs; rw [show (tabS l)[ed.toNat].1 = (((tabS l)[ed.toNat].1.toNat : Nat) : Int) by omega]
        exact szOf_nat hk2
      rw [hsz] at s5 hgo
      have hz := v.size _ hk2
      have hb := beh_cases v (q := (tabS l)[ed.toNat].2.1 + l.sizes[(tabS l)[ed.toNat].1.toNat]) (by omega) s5
      repeat' (first
        | ((with_reducible apply (r_load_ea (zs := [I (-1), I (-1)]) (ys := []))); exact rfl; exact rfl; exact rfl; exact rfl)
        | ((with_reducible apply (r_push (enc := pcC) (x0 := ((tabS l)[ed.toNat].1, (tabS l)[ed.toNat].2.1)))); exact rfl; exact rfl; exact inferInstance; exact hk; exact rfl; exact rfl; exact rfl; exact (by omega); exact (by omega); exact rfl)
        | ((with_reducible apply r_call); exact rfl; exact rfl; exact behind_con l _ (by unfold fits; omega); exact rfl; exact rfl)
        | (refine aw_drawt 10 ?_ ?_; (kernel_rfl); (simp only [List.take_succ_cons, List.take_zero, List.drop_succ_cons, List.drop_zero]))
        | ((with_reducible apply aw_seq))
        | ((with_reducible apply aw_region))
        | ((with_reducible apply aw_block))
        | ((with_reducible apply thn_normal))
        | ((with_reducible apply inb_normal))
        | ((with_reducible apply aw_skip))
        | ((with_reducible apply ao_nil))
        | ((with_reducible apply r_move); exact rfl; exact rfl)
        | ((with_reducible apply r_assign); exact rfl; exact rfl)
        | ((with_reducible apply r_field_p); exact rfl; exact rfl)
        | ((with_reducible apply r_load_p); exact rfl; exact rfl; exact rfl; exact rfl)
        | ((with_reducible apply r_load_pa); exact rfl; exact rfl; exact rfl; exact rfl; exact rfl)
        | ((with_reducible apply r_geq); exact rfl; exact rfl; exact rfl)
        | ((with_reducible apply r_add); exact rfl; exact rfl; exact (by first | assumption | (unfold fits; omega)); exact rfl)
        | ((with_reducible apply r_index_f); exact rfl; exact inferInstance; exact rfl; exact (Int.toNat_of_nonneg (by omega)).symm; (first | assumption | omega); exact rfl)
        | ((with_reducible apply r_load_f0); exact rfl; exact inferInstance; exact List.getElem?_eq_getElem (by first | assumption | omega); exact rfl; exact rfl)
        | ((with_reducible apply r_load_fa); exact rfl; exact inferInstance; exact List.getElem?_eq_getElem (by first | assumption | omega); exact rfl; exact rfl; exact rfl)
        | ((with_reducible apply r_field_e); exact rfl; exact rfl)
        | ((with_reducible apply r_store_pa); exact rfl; exact rfl; exact rfl; exact rfl; exact rfl; exact rfl)
        | ((with_reducible apply r_alloc); exact rfl)
        | (((with_reducible apply aw_cond); exact rfl) <;> intro hg <;> (first | (exact absurd hg (by decide)) | ((try simp only [decide_eq_true_eq, decide_eq_false_iff_not, Bool.not_eq_true', Bool.not_eq_false', Bool.not_true, Bool.not_false, Bool.not_not, Int.not_lt, Int.not_le, Nat.not_lt, Nat.not_le, gt_iff_lt, ge_iff_le, List.cons.injEq, and_true] at hg); first | (exact absurd trivial hg) | (exfalso; omega) | (have hT : True := hg; clear hT hg) | skip)))
        | ((with_reducible apply ds_nil))
        | ((with_reducible apply r_eqs); exact rfl; exact rfl; exact rfl; exact rfl; exact rfl; exact rfl; exact rfl)
        | ((with_reducible apply r_lit); exact rfl; exact rfl; exact rfl; exact rfl; exact rfl; exact rfl; exact rfl)
        )
      refine ⟨(m, behindS l ((tabS l)[ed.toNat].2.1 + l.sizes[(tabS l)[ed.toNat].1.toNat]), k + 1, out ++ [((tabS l)[ed.toNat].1, (tabS l)[ed.toNat].2.1)]), ?_, ?_, by refine weak_mk rfl ?_ ?_ <;> repeat (first | exact envW_nil | exact heapW_nil | refine envW_cons rfl rfl ?_ | refine heapW_cons rfl rfl rfl ?_)⟩
      · show m < m + 1; omega
      · dsimp only
        refine ⟨by simp [hk], by omega, by omega, fun h => by omega, by simp; omega, ?_⟩
        rw [hch, hgo, List.append_assoc]; rfl
  · skip
    repeat' (first
      | ((with_reducible apply aw_seq))
      | ((with_reducible apply aw_region))
      | ((with_reducible apply thn_normal))
      | ((with_reducible apply thn_exit))
      | ((with_reducible apply inb_exit))
      | ((with_reducible apply aw_exit))
      | ((with_reducible apply aw_ret))
      | ((with_reducible apply ao_nil))
      | ((with_reducible apply r_move); exact rfl; exact rfl)
      | ((with_reducible apply r_assign); exact rfl; exact rfl)
      | ((with_reducible apply r_geq); exact rfl; exact rfl; exact rfl)
      | ((with_reducible apply r_index_f); exact rfl; exact inferInstance; exact rfl; exact (Int.toNat_of_nonneg (by omega)).symm; (first | assumption | omega); exact rfl)
      | ((with_reducible apply r_load_f); exact rfl; exact inferInstance; exact List.getElem?_eq_getElem (by first | assumption | omega); exact rfl; exact rfl; exact rfl)
      | ((with_reducible apply r_field_e); exact rfl; exact rfl)
      | (((with_reducible apply aw_cond); exact rfl) <;> intro hg <;> (first | (exact absurd hg (by decide)) | ((try simp only [decide_eq_true_eq, decide_eq_false_iff_not, Bool.not_eq_true', Bool.not_eq_false', Bool.not_true, Bool.not_false, Bool.not_not, Int.not_lt, Int.not_le, Nat.not_lt, Nat.not_le, gt_iff_lt, ge_iff_le, List.cons.injEq, and_true] at hg); first | (exact absurd trivial hg) | (exfalso; omega) | (have hT : True := hg; clear hT hg) | skip)))
      | (refine aw_drawq ?_ ?_; (kernel_rfl))
      | ((with_reducible apply ds_nil))
      )
    rw [hch, chain_stop (Or.inl (by omega)), List.append_nil]
    exact ret2 (.cons (.tmp rfl (cl_vec rfl (by rw [flat_len EncL.len, hk]))) (.cons (.tmp rfl cl_c) (.cons (.tmp rfl cl_c) .nil)))
end Go.Proofs.YtjofnmklkndhoaaDoor.Cu
