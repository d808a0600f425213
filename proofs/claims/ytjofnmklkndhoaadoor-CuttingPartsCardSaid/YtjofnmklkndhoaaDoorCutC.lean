/- Walks of cutting: Cuts in both. -/
import Derived.Test.YtjofnmklkndhoaaDoorCutB
namespace Go.Proofs.YtjofnmklkndhoaaDoor.Cu
set_option linter.unusedVariables false
set_option linter.unusedSimpArgs false
open Go.RowKit Go.Proofs.YtjofnmklkndhoaaDoor.Ev
variable {gl : List (Nat × List CV)}

def pcC (x : Piece) : List CV := [I x.1, I x.2]
instance : EncL pcC 2 := ⟨fun _ => rfl, by decide, fun _ => rfl⟩
abbrev LP (l : List Piece) : CV := .lst 2 (l.flatMap pcC)
theorem addS_len (l : List Span) (a b : Int) : (addS l a b).length ≤ l.length + 1 := by unfold addS; split <;> simp
/-- Error, dust, chips. -/
abbrev CutR := Int × List Span × List Span
def cutsGo (l : Line) : List Piece → Int → List Span → List Span → CutR
  | [], e, d, c => (0, d, if 0 ≤ e then addS c e l.len else c)
  | x :: xs, e, d, c =>
    if perm l e x ≠ 0 then (perm l e x, [], [])
    else cutsGo l xs (behindS l (x.2 + szOf l x.1)) (addS (if e < x.2 then addS d (x.2 - l.kerf) x.2 else d) (x.2 + szOf l x.1) (behindS l (x.2 + szOf l x.1))) (if e < x.2 then addS c e (x.2 - l.kerf) else c)
noncomputable def cutsS (l : Line) (p : List Piece) : CutR := if chk l ≠ 0 then (chk l, [], []) else cutsGo l p 0 [] []
def cutC (r : CutR) : CV := .tup [LS r.2.1, LS r.2.2, I r.1]
theorem perm0 {l : Line} {e s p : Int} (h : perm l e (s, p) = 0) : 0 ≤ s ∧ s < l.sizes.length ∧ 0 ≤ p ∧ p ≤ l.len - szOf l s ∧ 0 ≤ e ∧ (p = e ∨ (l.pitch ≤ p - l.kerf - e ∧ (p - l.kerf - e).tmod l.pitch = 0)) ∧ 0 ≤ gOf l s p := by
  unfold perm at h
  dsimp only at h
  split at h
  · simp at h
  split at h
  · simp at h
  split at h
  · simp at h
  split at h
  · simp at h
  rename_i h1 h2 h3 h4
  generalize (p - l.kerf - e).tmod l.pitch = tm at *
  refine ⟨by omega, by omega, by omega, by omega, by omega, by omega, by omega⟩
theorem behind_le {l : Line} {e : Int} (v : Valid l) (h0 : 0 ≤ e) : -1 ≤ behindS l e ∧ behindS l e ≤ l.len := by
  have := v.len; have := v.kerf
  unfold behindS; split <;> omega
theorem drop_cons {α : Type} (l : List α) (j : Nat) (h : j < l.length) : l.drop j = l[j] :: l.drop (j + 1) := List.drop_eq_getElem_cons h
theorem go_err {l : Line} {p : List Piece} {j : Nat} {e : Int} {d c : List Span} (hj : j < p.length) (h : ¬ perm l e (p[j].1, p[j].2) = 0) : cutsGo l (p.drop j) e d c = (perm l e (p[j].1, p[j].2), [], []) := by
  rw [drop_cons p j hj]; unfold cutsGo; rw [if_pos h]
theorem go_ok {l : Line} {p : List Piece} {j : Nat} {e : Int} {d c d' c' : List Span} (hj : j < p.length) (h : perm l e (p[j].1, p[j].2) = 0) (hd : d' = addS (if e < p[j].2 then addS d (p[j].2 - l.kerf) p[j].2 else d) (p[j].2 + szOf l p[j].1) (behindS l (p[j].2 + szOf l p[j].1))) (hc : c' = if e < p[j].2 then addS c e (p[j].2 - l.kerf) else c) : cutsGo l (p.drop j) e d c = cutsGo l (p.drop (j + 1)) (behindS l (p[j].2 + szOf l p[j].1)) d' c' := by
  rw [drop_cons p j hj, hd, hc]
  conv => lhs; unfold cutsGo
  rw [if_neg (show ¬ perm l e p[j] ≠ 0 from fun hh => hh h)]
theorem szOf_nat {l : Line} {k : Nat} (hk : k < l.sizes.length) : szOf l (k : Int) = l.sizes[k] := by
  unfold szOf; rw [Int.toNat_natCast, List.getD_eq_getElem?_getD, List.getElem?_eq_getElem hk]; rfl
set_option maxRecDepth 100000 in
set_option maxHeartbeats 8000000 in
theorem cuts_con (l : Line) (p : List Piece) (hp : p.length ≤ 100000) : Con Tryd.prog gl 15 [lineC l, LP p] (cutC (cutsS l p)) := by
  refine con_of Tryd.func15 rfl (by kernel_rfl) rfl ?_
  simp only [Tryd.ntmps15, Tryd.results15, argEnv, ofC, of1, List.map, lineC, lineL]
  repeat' (first
    | ((with_reducible apply r_call); exact rfl; exact rfl; exact check_con l; exact rfl; exact rfl)
    | ((with_reducible apply aw_seq))
    | ((with_reducible apply aw_region))
    | ((with_reducible apply aw_block))
    | ((with_reducible apply thn_normal))
    | ((with_reducible apply thn_ret))
    | ((with_reducible apply aw_skip))
    | ((with_reducible apply aw_ret))
    | ((with_reducible apply ao_nil))
    | ((with_reducible apply r_move); exact rfl; exact rfl)
    | ((with_reducible apply r_assign); exact rfl; exact rfl)
    | ((with_reducible apply r_load_pa); exact rfl; exact rfl; exact rfl; exact rfl; exact rfl)
    | ((with_reducible apply r_neq); exact rfl; exact rfl; exact rfl)
    | ((with_reducible apply r_box_a); exact rfl; exact rfl)
    | ((with_reducible apply r_len_f); exact rfl; exact inferInstance; exact rfl)
    | (((with_reducible apply aw_cond); exact rfl) <;> intro hg <;> (first | (exact absurd hg (by decide)) | ((try simp only [decide_eq_true_eq, decide_eq_false_iff_not, Bool.not_eq_true', Bool.not_eq_false', Bool.not_true, Bool.not_false, Bool.not_not, Int.not_lt, Int.not_le, Nat.not_lt, Nat.not_le, gt_iff_lt, ge_iff_le, List.cons.injEq, and_true] at hg); first | (exact absurd trivial hg) | (exfalso; omega) | (have hT : True := hg; clear hT hg) | skip)))
    )
  · have e : cutsS l p = (chk l, [], []) := by unfold cutsS; rw [if_pos hg]
    rw [e]
    exact ret2 (.cons (.tmp rfl cl_none) (.cons (.tmp rfl cl_none) (.cons (.tmp rfl cl_c) .nil)))
  have v := valid_of hg
  have e : cutsS l p = cutsGo l p 0 [] [] := by unfold cutsS; rw [if_neg (fun hh => hh hg)]
  rw [e]
  obtain ⟨l1, l2⟩ := v.len
  obtain ⟨k1, k2⟩ := v.kerf
  obtain ⟨p1, p2⟩ := v.pitch
  refine aw_nilvec 4 50 2 rfl rfl ?_
  refine aw_nilvec 5 50 2 rfl rfl ?_
  refine aw_loopG (G := Nat × Int × List Span × List Span) (fun ((j, ed, d, c) : Nat × Int × List Span × List Span) => j ≤ p.length ∧ -1 ≤ ed ∧ ed ≤ l.len ∧ d.length ≤ 2 * j ∧ c.length ≤ j ∧ cutsGo l p 0 [] [] = cutsGo l (p.drop j) ed d c) (fun ((j, ed, d, c) : Nat × Int × List Span × List Span) => p.length - j) (fun ((j, ed, d, c) : Nat × Int × List Span × List Span) => [(2, .ptr 0 0), (4, .vec 1 d.length), (5, .vec 2 c.length), (8, A ed), (18, .c (LP p)), (19, A p.length), (20, A j)]) (fun ((j, ed, d, c) : Nat × Int × List Span × List Span) => [(0, some (lineB l)), (1, some (.vec 50 2 (d.flatMap spC))), (2, some (.vec 50 2 (c.flatMap spC)))]) 3 (0, 0, [], []) ?_ (by refine weak_mk rfl ?_ ?_ <;> repeat (first | exact envW_nil | exact heapW_nil | refine envW_cons rfl rfl ?_ | refine heapW_cons rfl rfl rfl ?_)) rfl ?_
  · exact ⟨Nat.zero_le _, by decide, l1, by simp, by simp, by simp⟩
  rintro ⟨j, ed, d, c⟩ hI
  try dsimp only at hI
  try dsimp only
  obtain ⟨hj, he1, he2, hd, hc, hgo⟩ := hI
  by_cases hjl : j < p.length
  · by_cases hpm : perm l ed (p[j].1, p[j].2) = 0
    · obtain ⟨q1, q2, q3, q4, q5, q6, q7⟩ := perm0 hpm
      have hk : p[j].1 = ((p[j].1.toNat : Nat) : Int) := by omega
      have hk2 : p[j].1.toNat < l.sizes.length := by omega
      have hsz : szOf l p[j].1 = l.sizes[p[j].1.toNat] := by
        conv => lhs; rw [hk]
        exact szOf_nat hk2
      have hs12 := v.size _ hk2
      have hbl := behind_le (l := l) (e := p[j].2 + szOf l p[j].1) v (by omega)
      repeat' (first
        | ((with_reducible apply r_call); exact rfl; exact rfl; exact permitted_con l v ed ⟨by omega, by omega⟩ p[j].1 p[j].2; exact rfl; exact rfl)
        | ((with_reducible apply r_call); exact rfl; exact rfl; exact behind_con l _ (by unfold fits; omega); exact rfl; exact rfl)
        | ((with_reducible apply add_in); exact rfl; exact rfl; exact rfl; (first | omega | exact Nat.lt_of_le_of_lt (addS_len _ _ _) (by omega)); exact rfl; exact rfl)
        | ((with_reducible apply aw_seq))
        | ((with_reducible apply aw_region))
        | ((with_reducible apply aw_block))
        | ((with_reducible apply thn_normal))
        | ((with_reducible apply inb_normal))
        | ((with_reducible apply aw_skip))
        | ((with_reducible apply ao_nil))
        | ((with_reducible apply r_move); exact rfl; exact rfl)
        | ((with_reducible apply r_assign); exact rfl; exact rfl)
        | ((with_reducible apply r_field_p); exact rfl; exact rfl)
        | ((with_reducible apply r_load_p); exact rfl; exact rfl; exact rfl; exact rfl)
        | ((with_reducible apply r_load_pa); exact rfl; exact rfl; exact rfl; exact rfl; exact rfl)
        | ((with_reducible apply r_lss); exact rfl; exact rfl; exact rfl)
        | ((with_reducible apply r_gtr); exact rfl; exact rfl; exact rfl)
        | ((with_reducible apply r_neq); exact rfl; exact rfl; exact rfl)
        | ((with_reducible apply r_add); exact rfl; exact rfl; exact (by first | assumption | (unfold fits; omega)); exact rfl)
        | ((with_reducible apply r_sub); exact rfl; exact rfl; exact (by first | assumption | (unfold fits; omega)); exact rfl)
        | ((with_reducible apply r_index_f); exact rfl; exact inferInstance; exact rfl; exact rfl; (first | assumption | omega); exact rfl)
        | ((with_reducible apply r_index_f); exact rfl; exact inferInstance; exact rfl; exact (Int.toNat_of_nonneg (by omega)).symm; (first | assumption | omega); exact rfl)
        | ((with_reducible apply r_load_f0); exact rfl; exact inferInstance; exact List.getElem?_eq_getElem (by first | assumption | omega); exact rfl; exact rfl)
        | ((with_reducible apply r_load_fa0); exact rfl; exact inferInstance; exact List.getElem?_eq_getElem (by first | assumption | omega); exact rfl; exact rfl; exact rfl)
        | ((with_reducible apply r_store_pa); exact rfl; exact rfl; exact rfl; exact rfl; exact rfl; exact rfl)
        | ((with_reducible apply r_alloc); exact rfl)
        | (((with_reducible apply aw_cond); exact rfl) <;> intro hg <;> (first | (exact absurd hg (by decide)) | ((try simp only [decide_eq_true_eq, decide_eq_false_iff_not, Bool.not_eq_true', Bool.not_eq_false', Bool.not_true, Bool.not_false, Bool.not_not, Int.not_lt, Int.not_le, Nat.not_lt, Nat.not_le, gt_iff_lt, ge_iff_le, List.cons.injEq, and_true] at hg); first | (exact absurd trivial hg) | (exfalso; omega) | (have hT : True := hg; clear hT hg) | skip)))
        | (refine aw_drawq ?_ ?_; (kernel_rfl))
        | ((with_reducible apply ds_nil))
        )
      · skip
        refine ⟨(j + 1, behindS l (p[j].2 + l.sizes[p[j].1.toNat]), addS (addS d (p[j].2 - l.kerf) p[j].2) (p[j].2 + l.sizes[p[j].1.toNat]) (behindS l (p[j].2 + l.sizes[p[j].1.toNat])), addS c ed (p[j].2 - l.kerf)), ?_, ?_, by refine weak_mk rfl ?_ ?_ <;> repeat (first | exact envW_nil | exact heapW_nil | refine envW_cons rfl rfl ?_ | refine heapW_cons rfl rfl rfl ?_)⟩
        · show p.length - (j + 1) < p.length - j; omega
        · have key := go_ok (c := c) (d := d) hjl hpm rfl rfl
          rw [if_pos hg, if_pos hg, hsz] at key
          rw [hsz] at hbl
          have a1 := addS_len (addS d (p[j].2 - l.kerf) p[j].2) (p[j].2 + l.sizes[p[j].1.toNat]) (behindS l (p[j].2 + l.sizes[p[j].1.toNat]))
          have a2 := addS_len d (p[j].2 - l.kerf) p[j].2
          have a3 := addS_len c ed (p[j].2 - l.kerf)
          refine ⟨?_, ?_, ?_, ?_, ?_, ?_⟩
          · show j + 1 ≤ _; omega
          · exact hbl.1
          · exact hbl.2
          · show (addS _ _ _).length ≤ 2 * (j + 1); omega
          · show (addS c ed (p[j].2 - l.kerf)).length ≤ j + 1; omega
          · rw [hgo]; exact key
      · skip
        refine ⟨(j + 1, behindS l (p[j].2 + l.sizes[p[j].1.toNat]), addS (d) (p[j].2 + l.sizes[p[j].1.toNat]) (behindS l (p[j].2 + l.sizes[p[j].1.toNat])), c), ?_, ?_, by refine weak_mk rfl ?_ ?_ <;> repeat (first | exact envW_nil | exact heapW_nil | refine envW_cons rfl rfl ?_ | refine heapW_cons rfl rfl rfl ?_)⟩
        · show p.length - (j + 1) < p.length - j; omega
        · have key := go_ok (c := c) (d := d) hjl hpm rfl rfl
          rw [if_neg (by omega), if_neg (by omega), hsz] at key
          rw [hsz] at hbl
          have a1 := addS_len (d) (p[j].2 + l.sizes[p[j].1.toNat]) (behindS l (p[j].2 + l.sizes[p[j].1.toNat]))
          have a2 := addS_len d (p[j].2 - l.kerf) p[j].2
          have a3 := addS_len c ed (p[j].2 - l.kerf)
          refine ⟨?_, ?_, ?_, ?_, ?_, ?_⟩
          · show j + 1 ≤ _; omega
          · exact hbl.1
          · exact hbl.2
          · show (addS _ _ _).length ≤ 2 * (j + 1); omega
          · show c.length ≤ j + 1; omega
          · rw [hgo]; exact key
    · skip
      repeat' (first
        | ((with_reducible apply r_call); exact rfl; exact rfl; exact permitted_con l v ed ⟨by omega, by omega⟩ p[j].1 p[j].2; exact rfl; exact rfl)
        | ((with_reducible apply aw_seq))
        | ((with_reducible apply aw_region))
        | ((with_reducible apply aw_block))
        | ((with_reducible apply thn_normal))
        | ((with_reducible apply thn_ret))
        | ((with_reducible apply inb_ret))
        | ((with_reducible apply aw_skip))
        | ((with_reducible apply aw_ret))
        | ((with_reducible apply ao_nil))
        | ((with_reducible apply r_move); exact rfl; exact rfl)
        | ((with_reducible apply r_assign); exact rfl; exact rfl)
        | ((with_reducible apply r_load_pa); exact rfl; exact rfl; exact rfl; exact rfl; exact rfl)
        | ((with_reducible apply r_lss); exact rfl; exact rfl; exact rfl)
        | ((with_reducible apply r_neq); exact rfl; exact rfl; exact rfl)
        | ((with_reducible apply r_index_f); exact rfl; exact inferInstance; exact rfl; exact rfl; (first | assumption | omega); exact rfl)
        | ((with_reducible apply r_load_fa0); exact rfl; exact inferInstance; exact List.getElem?_eq_getElem (by first | assumption | omega); exact rfl; exact rfl; exact rfl)
        | ((with_reducible apply r_store_pa); exact rfl; exact rfl; exact rfl; exact rfl; exact rfl; exact rfl)
        | ((with_reducible apply r_alloc); exact rfl)
        | (((with_reducible apply aw_cond); exact rfl) <;> intro hg <;> (first | (exact absurd hg (by decide)) | ((try simp only [decide_eq_true_eq, decide_eq_false_iff_not, Bool.not_eq_true', Bool.not_eq_false', Bool.not_true, Bool.not_false, Bool.not_not, Int.not_lt, Int.not_le, Nat.not_lt, Nat.not_le, gt_iff_lt, ge_iff_le, List.cons.injEq, and_true] at hg); first | (exact absurd trivial hg) | (exfalso; omega) | (have hT : True := hg; clear hT hg) | skip)))
        )
      rw [hgo, go_err hjl hpm]
      exact ret2 (.cons (.tmp rfl cl_none) (.cons (.tmp rfl cl_none) (.cons (.tmp rfl cl_c) .nil)))
  · have hnil : p.drop j = [] := List.drop_eq_nil_of_le (by omega)
    rw [hnil] at hgo
    repeat' (first
      | ((with_reducible apply add_in); exact rfl; exact rfl; exact rfl; (first | omega | exact Nat.lt_of_le_of_lt (addS_len _ _ _) (by omega)); exact rfl; exact rfl)
      | ((with_reducible apply aw_seq))
      | ((with_reducible apply aw_region))
      | ((with_reducible apply thn_normal))
      | ((with_reducible apply thn_exit))
      | ((with_reducible apply inb_exit))
      | ((with_reducible apply aw_skip))
      | ((with_reducible apply aw_exit))
      | ((with_reducible apply aw_ret))
      | ((with_reducible apply ao_nil))
      | ((with_reducible apply r_move); exact rfl; exact rfl)
      | ((with_reducible apply r_assign); exact rfl; exact rfl)
      | ((with_reducible apply r_field_p); exact rfl; exact rfl)
      | ((with_reducible apply r_load_p); exact rfl; exact rfl; exact rfl; exact rfl)
      | ((with_reducible apply r_lss); exact rfl; exact rfl; exact rfl)
      | ((with_reducible apply r_geq); exact rfl; exact rfl; exact rfl)
      | (((with_reducible apply aw_cond); exact rfl) <;> intro hg <;> (first | (exact absurd hg (by decide)) | ((try simp only [decide_eq_true_eq, decide_eq_false_iff_not, Bool.not_eq_true', Bool.not_eq_false', Bool.not_true, Bool.not_false, Bool.not_not, Int.not_lt, Int.not_le, Nat.not_lt, Nat.not_le, gt_iff_lt, ge_iff_le, List.cons.injEq, and_true] at hg); first | (exact absurd trivial hg) | (exfalso; omega) | (have hT : True := hg; clear hT hg) | skip)))
      )
    · have hr : cutsGo l p 0 [] [] = (0, d, addS c ed l.len) := by rw [hgo]; unfold cutsGo; rw [if_pos hg]
      rw [hr]
      exact ret2 (.cons (.tmp rfl (cl_vec rfl (flat_len EncL.len _))) (.cons (.tmp rfl (cl_vec rfl (flat_len EncL.len _))) (.cons (.tmp rfl cl_c) .nil)))
    · have hr : cutsGo l p 0 [] [] = (0, d, c) := by rw [hgo]; unfold cutsGo; rw [if_neg (by omega)]
      rw [hr]
      exact ret2 (.cons (.tmp rfl (cl_vec rfl (flat_len EncL.len _))) (.cons (.tmp rfl (cl_vec rfl (flat_len EncL.len _))) (.cons (.tmp rfl cl_c) .nil)))
theorem tmod_small (w q : Int) : w < 0 ∨ q ≤ w ∨ w.tmod q = w := by
  by_cases h1 : w < 0
  · exact Or.inl h1
  · by_cases h2 : q ≤ w
    · exact Or.inr (Or.inl h2)
    · exact Or.inr (Or.inr (Int.tmod_eq_of_lt (by omega) (by omega)))
theorem addS_neg (l : List Span) (a : Int) (h : 0 ≤ a) : addS l a (-1) = l := by unfold addS; rw [if_pos (by omega)]
set_option maxRecDepth 100000 in
set_option maxHeartbeats 8000000 in
theorem rcuts_con (l : Line) (p : List Piece) (hp : p.length ≤ 100000) : Con Tryd.prog gl 16 [lineC l, LP p] (cutC (cutsS l p)) := by
  refine con_of Tryd.func16 rfl (by kernel_rfl) rfl ?_
  simp only [Tryd.ntmps16, Tryd.results16, argEnv, ofC, of1, List.map, lineC, lineL]
  repeat' (first
    | ((with_reducible apply r_call); exact rfl; exact rfl; exact rcheck_con l; exact rfl; exact rfl)
    | ((with_reducible apply aw_seq))
    | ((with_reducible apply aw_region))
    | ((with_reducible apply aw_block))
    | ((with_reducible apply thn_normal))
    | ((with_reducible apply thn_ret))
    | ((with_reducible apply aw_skip))
    | ((with_reducible apply aw_ret))
    | ((with_reducible apply ao_nil))
    | ((with_reducible apply r_move); exact rfl; exact rfl)
    | ((with_reducible apply r_assign); exact rfl; exact rfl)
    | ((with_reducible apply r_load_pa); exact rfl; exact rfl; exact rfl; exact rfl; exact rfl)
    | ((with_reducible apply r_neq); exact rfl; exact rfl; exact rfl)
    | ((with_reducible apply r_box_a); exact rfl; exact rfl)
    | (((with_reducible apply aw_cond); exact rfl) <;> intro hg <;> (first | (exact absurd hg (by decide)) | ((try simp only [decide_eq_true_eq, decide_eq_false_iff_not, Bool.not_eq_true', Bool.not_eq_false', Bool.not_true, Bool.not_false, Bool.not_not, Int.not_lt, Int.not_le, Nat.not_lt, Nat.not_le, gt_iff_lt, ge_iff_le, List.cons.injEq, and_true] at hg); first | (exact absurd trivial hg) | (exfalso; omega) | (have hT : True := hg; clear hT hg) | skip)))
    )
  · have e : cutsS l p = (chk l, [], []) := by unfold cutsS; rw [if_pos hg]
    rw [e]
    exact ret2 (.cons (.tmp rfl cl_none) (.cons (.tmp rfl cl_none) (.cons (.tmp rfl cl_c) .nil)))
  have v := valid_of hg
  have e : cutsS l p = cutsGo l p 0 [] [] := by unfold cutsS; rw [if_neg (fun hh => hh hg)]
  rw [e]
  obtain ⟨l1, l2⟩ := v.len
  obtain ⟨k1, k2⟩ := v.kerf
  obtain ⟨p1, p2⟩ := v.pitch
  refine aw_nilvec 4 50 2 rfl rfl ?_
  refine aw_nilvec 5 50 2 rfl rfl ?_
  refine aw_loopG (G := Nat × Int × List Span × List Span) (fun ((j, ed, d, c) : Nat × Int × List Span × List Span) => j ≤ p.length ∧ -1 ≤ ed ∧ ed ≤ l.len ∧ d.length ≤ 2 * j ∧ c.length ≤ j ∧ cutsGo l p 0 [] [] = cutsGo l (p.drop j) ed d c) (fun ((j, ed, d, c) : Nat × Int × List Span × List Span) => p.length - j) (fun ((j, ed, d, c) : Nat × Int × List Span × List Span) => [(1, .c (LP p)), (2, .ptr 0 0), (4, .vec 1 d.length), (5, .vec 2 c.length), (8, A ed), (9, A j)]) (fun ((j, ed, d, c) : Nat × Int × List Span × List Span) => [(0, some (lineB l)), (1, some (.vec 50 2 (d.flatMap spC))), (2, some (.vec 50 2 (c.flatMap spC)))]) 3 (0, 0, [], []) ?_ (by refine weak_mk rfl ?_ ?_ <;> repeat (first | exact envW_nil | exact heapW_nil | refine envW_cons rfl rfl ?_ | refine heapW_cons rfl rfl rfl ?_)) rfl ?_
  · exact ⟨Nat.zero_le _, by decide, l1, by simp, by simp, by simp⟩
  rintro ⟨j, ed, d, c⟩ hI
  try dsimp only at hI
  try dsimp only
  obtain ⟨hj, he1, he2, hd, hc, hgo⟩ := hI
  by_cases hjl : j < p.length
  · by_cases h : p[j].1 < 0 ∨ (l.sizes.length : Int) ≤ p[j].1
    · have hpm : perm l ed (p[j].1, p[j].2) = 9 := (perm9 h).symm
      have hge := go_err (c := c) (d := d) hjl (by rw [hpm]; decide)
      rw [hpm] at hge
      repeat' (first
        | ((with_reducible apply aw_seq))
        | ((with_reducible apply aw_region))
        | ((with_reducible apply aw_block))
        | ((with_reducible apply thn_normal))
        | ((with_reducible apply thn_ret))
        | ((with_reducible apply inb_ret))
        | ((with_reducible apply aw_skip))
        | ((with_reducible apply aw_ret))
        | ((with_reducible apply ao_nil))
        | ((with_reducible apply r_move); exact rfl; exact rfl)
        | ((with_reducible apply r_assign); exact rfl; exact rfl)
        | ((with_reducible apply r_field_p); exact rfl; exact rfl)
        | ((with_reducible apply r_load_p); exact rfl; exact rfl; exact rfl; exact rfl)
        | ((with_reducible apply r_lss); exact rfl; exact rfl; exact rfl)
        | ((with_reducible apply r_geq); exact rfl; exact rfl; exact rfl)
        | ((with_reducible apply r_pick_t); exact rfl; exact rfl; exact rfl)
        | ((with_reducible apply r_pick_f); exact rfl; exact rfl; exact rfl)
        | ((with_reducible apply r_len_f); exact rfl; exact inferInstance; exact rfl)
        | ((with_reducible apply r_index_f); exact rfl; exact inferInstance; exact rfl; exact rfl; (first | assumption | omega); exact rfl)
        | ((with_reducible apply r_load_fa0); exact rfl; exact inferInstance; exact List.getElem?_eq_getElem (by first | assumption | omega); exact rfl; exact rfl; exact rfl)
        | ((with_reducible apply r_store_pa); exact rfl; exact rfl; exact rfl; exact rfl; exact rfl; exact rfl)
        | ((with_reducible apply r_alloc); exact rfl)
        | (((with_reducible apply r_guard); exact rfl; exact rfl; exact rfl; exact rfl) <;> intro hg <;> (first | (exact absurd hg (by decide)) | ((try simp only [decide_eq_true_eq, decide_eq_false_iff_not, Bool.not_eq_true', Bool.not_eq_false', Bool.not_true, Bool.not_false, Bool.not_not, Int.not_lt, Int.not_le, Nat.not_lt, Nat.not_le, gt_iff_lt, ge_iff_le, List.cons.injEq, and_true] at hg); first | (exact absurd trivial hg) | (exfalso; omega) | (have hT : True := hg; clear hT hg) | skip)))
        | (((with_reducible apply aw_cond); exact rfl) <;> intro hg <;> (first | (exact absurd hg (by decide)) | ((try simp only [decide_eq_true_eq, decide_eq_false_iff_not, Bool.not_eq_true', Bool.not_eq_false', Bool.not_true, Bool.not_false, Bool.not_not, Int.not_lt, Int.not_le, Nat.not_lt, Nat.not_le, gt_iff_lt, ge_iff_le, List.cons.injEq, and_true] at hg); first | (exact absurd trivial hg) | (exfalso; omega) | (have hT : True := hg; clear hT hg) | skip)))
        )
      all_goals (rw [hgo, hge]; exact ret2 (.cons (.tmp rfl cl_none) (.cons (.tmp rfl cl_none) (.cons (.tmp rfl cl_c) .nil))))
    have hk : p[j].1 = ((p[j].1.toNat : Nat) : Int) := by omega
    have hk2 : p[j].1.toNat < l.sizes.length := by omega
    have hsz : szOf l p[j].1 = l.sizes[p[j].1.toNat] := by
      conv => lhs; rw [hk]
      exact szOf_nat hk2
    have hs12 := v.size _ hk2
    by_cases h2 : p[j].2 < 0 ∨ l.len - l.sizes[p[j].1.toNat] < p[j].2
    · have hpm : perm l ed (p[j].1, p[j].2) = 20 := (perm20 h (by rw [hsz]; exact h2)).symm
      have hge := go_err (c := c) (d := d) hjl (by rw [hpm]; decide)
      rw [hpm] at hge
      repeat' (first
        | ((with_reducible apply aw_seq))
        | ((with_reducible apply aw_region))
        | ((with_reducible apply aw_block))
        | ((with_reducible apply thn_normal))
        | ((with_reducible apply thn_ret))
        | ((with_reducible apply inb_ret))
        | ((with_reducible apply aw_skip))
        | ((with_reducible apply aw_ret))
        | ((with_reducible apply ao_nil))
        | ((with_reducible apply r_move); exact rfl; exact rfl)
        | ((with_reducible apply r_assign); exact rfl; exact rfl)
        | ((with_reducible apply r_field_p); exact rfl; exact rfl)
        | ((with_reducible apply r_load_p); exact rfl; exact rfl; exact rfl; exact rfl)
        | ((with_reducible apply r_lss); exact rfl; exact rfl; exact rfl)
        | ((with_reducible apply r_gtr); exact rfl; exact rfl; exact rfl)
        | ((with_reducible apply r_geq); exact rfl; exact rfl; exact rfl)
        | ((with_reducible apply r_sub); exact rfl; exact rfl; exact (by first | assumption | (unfold fits; omega)); exact rfl)
        | ((with_reducible apply r_pick_t); exact rfl; exact rfl; exact rfl)
        | ((with_reducible apply r_pick_f); exact rfl; exact rfl; exact rfl)
        | ((with_reducible apply r_len_f); exact rfl; exact inferInstance; exact rfl)
        | ((with_reducible apply r_index_f); exact rfl; exact inferInstance; exact rfl; exact rfl; (first | assumption | omega); exact rfl)
        | ((with_reducible apply r_index_f); exact rfl; exact inferInstance; exact rfl; exact (Int.toNat_of_nonneg (by omega)).symm; (first | assumption | omega); exact rfl)
        | ((with_reducible apply r_load_f0); exact rfl; exact inferInstance; exact List.getElem?_eq_getElem (by first | assumption | omega); exact rfl; exact rfl)
        | ((with_reducible apply r_load_fa0); exact rfl; exact inferInstance; exact List.getElem?_eq_getElem (by first | assumption | omega); exact rfl; exact rfl; exact rfl)
        | ((with_reducible apply r_store_pa); exact rfl; exact rfl; exact rfl; exact rfl; exact rfl; exact rfl)
        | ((with_reducible apply r_alloc); exact rfl)
        | (((with_reducible apply r_guard); exact rfl; exact rfl; exact rfl; exact rfl) <;> intro hg <;> (first | (exact absurd hg (by decide)) | ((try simp only [decide_eq_true_eq, decide_eq_false_iff_not, Bool.not_eq_true', Bool.not_eq_false', Bool.not_true, Bool.not_false, Bool.not_not, Int.not_lt, Int.not_le, Nat.not_lt, Nat.not_le, gt_iff_lt, ge_iff_le, List.cons.injEq, and_true] at hg); first | (exact absurd trivial hg) | (exfalso; omega) | (have hT : True := hg; clear hT hg) | skip)))
        | (((with_reducible apply aw_cond); exact rfl) <;> intro hg <;> (first | (exact absurd hg (by decide)) | ((try simp only [decide_eq_true_eq, decide_eq_false_iff_not, Bool.not_eq_true', Bool.not_eq_false', Bool.not_true, Bool.not_false, Bool.not_not, Int.not_lt, Int.not_le, Nat.not_lt, Nat.not_le, gt_iff_lt, ge_iff_le, List.cons.injEq, and_true] at hg); first | (exact absurd trivial hg) | (exfalso; omega) | (have hT : True := hg; clear hT hg) | skip)))
        )
      all_goals (rw [hgo, hge]; exact ret2 (.cons (.tmp rfl cl_none) (.cons (.tmp rfl cl_none) (.cons (.tmp rfl cl_c) .nil))))
    have h2' : ¬ (p[j].2 < 0 ∨ l.len - szOf l p[j].1 < p[j].2) := by rw [hsz]; exact h2
    have hgl : p[j].1.toNat < l.gain.length := by have := v.gain; omega
    have hrow := v.row _ hgl hk2
    have hgl2 : p[j].2.toNat < l.gain[p[j].1.toNat].length := by omega
    have hgo' : gOf l p[j].1 p[j].2 = l.gain[p[j].1.toNat][p[j].2.toNat] := by
      unfold gOf
      rw [List.getD_eq_getElem?_getD, List.getD_eq_getElem?_getD, List.getElem?_eq_getElem hgl]
      simp only [Option.getD_some]
      rw [List.getElem?_eq_getElem hgl2]; rfl
    have htm := tmod_small (p[j].2 - l.kerf - ed) l.pitch
    have hbl := behind_le (l := l) (e := p[j].2 + l.sizes[p[j].1.toNat]) v (by omega)
    repeat' (first
      | ((with_reducible apply r_rem); exact rfl; exact rfl; exact (by omega); exact rfl)
      | ((with_reducible apply radd_in); exact rfl; exact rfl; exact rfl; (first | omega | exact Nat.lt_of_le_of_lt (addS_len _ _ _) (by omega)); exact rfl; exact rfl)
      | ((with_reducible apply aw_seq))
      | ((with_reducible apply aw_region))
      | ((with_reducible apply aw_block))
      | ((with_reducible apply thn_normal))
      | ((with_reducible apply thn_ret))
      | ((with_reducible apply inb_normal))
      | ((with_reducible apply inb_ret))
      | ((with_reducible apply aw_skip))
      | ((with_reducible apply aw_ret))
      | ((with_reducible apply ao_nil))
      | ((with_reducible apply r_move); exact rfl; exact rfl)
      | ((with_reducible apply r_assign); exact rfl; exact rfl)
      | ((with_reducible apply r_field_p); exact rfl; exact rfl)
      | ((with_reducible apply r_load_p); exact rfl; exact rfl; exact rfl; exact rfl)
      | ((with_reducible apply r_lss); exact rfl; exact rfl; exact rfl)
      | ((with_reducible apply r_gtr); exact rfl; exact rfl; exact rfl)
      | ((with_reducible apply r_geq); exact rfl; exact rfl; exact rfl)
      | ((with_reducible apply r_eql); exact rfl; exact rfl; exact rfl)
      | ((with_reducible apply r_neq); exact rfl; exact rfl; exact rfl)
      | ((with_reducible apply r_add); exact rfl; exact rfl; exact (by first | assumption | (unfold fits; omega)); exact rfl)
      | ((with_reducible apply r_sub); exact rfl; exact rfl; exact (by first | assumption | (unfold fits; omega)); exact rfl)
      | ((with_reducible apply r_min); exact rfl; exact rfl; exact rfl)
      | ((with_reducible apply r_pick_t); exact rfl; exact rfl; exact rfl)
      | ((with_reducible apply r_pick_f); exact rfl; exact rfl; exact rfl)
      | ((with_reducible apply r_len_f); exact rfl; exact inferInstance; exact rfl)
      | ((with_reducible apply r_index_f); exact rfl; exact inferInstance; exact rfl; exact rfl; (first | assumption | omega); exact rfl)
      | ((with_reducible apply r_index_f); exact rfl; exact inferInstance; exact rfl; exact (Int.toNat_of_nonneg (by omega)).symm; (first | assumption | omega); exact rfl)
      | ((with_reducible apply r_load_f0); exact rfl; exact inferInstance; exact List.getElem?_eq_getElem (by first | assumption | omega); exact rfl; exact rfl)
      | ((with_reducible apply r_load_fa0); exact rfl; exact inferInstance; exact List.getElem?_eq_getElem (by first | assumption | omega); exact rfl; exact rfl; exact rfl)
      | ((with_reducible apply r_store_pa); exact rfl; exact rfl; exact rfl; exact rfl; exact rfl; exact rfl)
      | ((with_reducible apply r_alloc); exact rfl)
      | (((with_reducible apply r_guard); exact rfl; exact rfl; exact rfl; exact rfl) <;> intro hg <;> (first | (exact absurd hg (by decide)) | ((try simp only [decide_eq_true_eq, decide_eq_false_iff_not, Bool.not_eq_true', Bool.not_eq_false', Bool.not_true, Bool.not_false, Bool.not_not, Int.not_lt, Int.not_le, Nat.not_lt, Nat.not_le, gt_iff_lt, ge_iff_le, List.cons.injEq, and_true] at hg); first | (exact absurd trivial hg) | (exfalso; omega) | (have hT : True := hg; clear hT hg) | skip)))
      | ((with_reducible apply r_guard_none); exact rfl; exact rfl; exact rfl; exact rfl)
      | (((with_reducible apply aw_cond); exact rfl) <;> intro hg <;> (first | (exact absurd hg (by decide)) | ((try simp only [decide_eq_true_eq, decide_eq_false_iff_not, Bool.not_eq_true', Bool.not_eq_false', Bool.not_true, Bool.not_false, Bool.not_not, Int.not_lt, Int.not_le, Nat.not_lt, Nat.not_le, gt_iff_lt, ge_iff_le, List.cons.injEq, and_true] at hg); first | (exact absurd trivial hg) | (exfalso; omega) | (have hT : True := hg; clear hT hg) | skip)))
      | (refine aw_drawq ?_ ?_; (kernel_rfl))
      | ((with_reducible apply ds_nil))
      )
    all_goals first
      | (have hpm : perm l ed (p[j].1, p[j].2) = 11 := (perm11 h h2' (by generalize (p[j].2 - l.kerf - ed).tmod l.pitch = tm at *; omega)).symm
         have hge := go_err (c := c) (d := d) hjl (by rw [hpm]; decide)
         rw [hpm] at hge
         rw [hgo, hge]
         exact ret2 (.cons (.tmp rfl cl_none) (.cons (.tmp rfl cl_none) (.cons (.tmp rfl cl_c) .nil))))
      | (have hpm : perm l ed (p[j].1, p[j].2) = 14 := by rw [← perm_g h h2' (by generalize (p[j].2 - l.kerf - ed).tmod l.pitch = tm at *; omega), hgo', if_pos (by omega)]
         have hge := go_err (c := c) (d := d) hjl (by rw [hpm]; decide)
         rw [hpm] at hge
         rw [hgo, hge]
         exact ret2 (.cons (.tmp rfl cl_none) (.cons (.tmp rfl cl_none) (.cons (.tmp rfl cl_c) .nil))))
      | (have hpm : perm l ed (p[j].1, p[j].2) = 0 := by rw [← perm_g h h2' (by generalize (p[j].2 - l.kerf - ed).tmod l.pitch = tm at *; omega), hgo', if_neg (by omega)]
         have hbe : behindS l (p[j].2 + l.sizes[p[j].1.toNat]) = -1 := by unfold behindS; rw [if_pos (by omega)]
         have hw : ed + (p[j].2 - l.kerf - ed) = p[j].2 - l.kerf := by omega
         have key := go_ok (c := c) (d := d) hjl hpm rfl rfl
         rw [if_pos (show ed < p[j].2 by omega), if_pos (show ed < p[j].2 by omega), hsz, hbe, addS_neg _ _ (by omega)] at key
         rw [hbe] at hbl
         have a1 := addS_len (addS d (p[j].2 - l.kerf) p[j].2) (p[j].2 + l.sizes[p[j].1.toNat]) (-1)
         have a4 := addS_len d (p[j].2 + l.sizes[p[j].1.toNat]) (-1)
         have a2 := addS_len d (p[j].2 - l.kerf) p[j].2
         have a3 := addS_len c ed (p[j].2 - l.kerf)
         refine ⟨(j + 1, -1, addS d (ed + (p[j].2 - l.kerf - ed)) p[j].2, addS c ed (ed + (p[j].2 - l.kerf - ed))), ?_, ?_, by refine weak_mk rfl ?_ ?_ <;> repeat (first | exact envW_nil | exact heapW_nil | refine envW_cons rfl rfl ?_ | refine heapW_cons rfl rfl rfl ?_)⟩
         · show p.length - (j + 1) < p.length - j; omega
         · dsimp only
           rw [hw]
           exact ⟨by omega, hbl.1, hbl.2, by omega, by omega, hgo.trans key⟩)
      | (have hpm : perm l ed (p[j].1, p[j].2) = 0 := by rw [← perm_g h h2' (by generalize (p[j].2 - l.kerf - ed).tmod l.pitch = tm at *; omega), hgo', if_neg (by omega)]
         have hbe : behindS l (p[j].2 + l.sizes[p[j].1.toNat]) = min (p[j].2 + l.sizes[p[j].1.toNat] + l.kerf) l.len := by unfold behindS; rw [if_neg (by omega)]
         have hw : ed + (p[j].2 - l.kerf - ed) = p[j].2 - l.kerf := by omega
         have key := go_ok (c := c) (d := d) hjl hpm rfl rfl
         rw [if_pos (show ed < p[j].2 by omega), if_pos (show ed < p[j].2 by omega), hsz, hbe] at key
         rw [hbe] at hbl
         have a1 := addS_len (addS d (p[j].2 - l.kerf) p[j].2) (p[j].2 + l.sizes[p[j].1.toNat]) (min (p[j].2 + l.sizes[p[j].1.toNat] + l.kerf) l.len)
         have a4 := addS_len d (p[j].2 + l.sizes[p[j].1.toNat]) (min (p[j].2 + l.sizes[p[j].1.toNat] + l.kerf) l.len)
         have a2 := addS_len d (p[j].2 - l.kerf) p[j].2
         have a3 := addS_len c ed (p[j].2 - l.kerf)
         refine ⟨(j + 1, min (p[j].2 + l.sizes[p[j].1.toNat] + l.kerf) l.len, addS (addS d (ed + (p[j].2 - l.kerf - ed)) p[j].2) (p[j].2 + l.sizes[p[j].1.toNat]) (min (p[j].2 + l.sizes[p[j].1.toNat] + l.kerf) l.len), addS c ed (ed + (p[j].2 - l.kerf - ed))), ?_, ?_, by refine weak_mk rfl ?_ ?_ <;> repeat (first | exact envW_nil | exact heapW_nil | refine envW_cons rfl rfl ?_ | refine heapW_cons rfl rfl rfl ?_)⟩
         · show p.length - (j + 1) < p.length - j; omega
         · dsimp only
           rw [hw]
           exact ⟨by omega, hbl.1, hbl.2, by omega, by omega, hgo.trans key⟩)
      | (have hpm : perm l ed (p[j].1, p[j].2) = 0 := by rw [← perm_g h h2' (by generalize (p[j].2 - l.kerf - ed).tmod l.pitch = tm at *; omega), hgo', if_neg (by omega)]
         have hbe : behindS l (p[j].2 + l.sizes[p[j].1.toNat]) = -1 := by unfold behindS; rw [if_pos (by omega)]
         have hw : ed + (p[j].2 - l.kerf - ed) = p[j].2 - l.kerf := by omega
         have key := go_ok (c := c) (d := d) hjl hpm rfl rfl
         rw [if_neg (show ¬ ed < p[j].2 by omega), if_neg (show ¬ ed < p[j].2 by omega), hsz, hbe, addS_neg _ _ (by omega)] at key
         rw [hbe] at hbl
         have a1 := addS_len (addS d (p[j].2 - l.kerf) p[j].2) (p[j].2 + l.sizes[p[j].1.toNat]) (-1)
         have a4 := addS_len d (p[j].2 + l.sizes[p[j].1.toNat]) (-1)
         have a2 := addS_len d (p[j].2 - l.kerf) p[j].2
         have a3 := addS_len c ed (p[j].2 - l.kerf)
         refine ⟨(j + 1, -1, d, c), ?_, ?_, by refine weak_mk rfl ?_ ?_ <;> repeat (first | exact envW_nil | exact heapW_nil | refine envW_cons rfl rfl ?_ | refine heapW_cons rfl rfl rfl ?_)⟩
         · show p.length - (j + 1) < p.length - j; omega
         · dsimp only
           skip
           exact ⟨by omega, hbl.1, hbl.2, by omega, by omega, hgo.trans key⟩)
      | (have hpm : perm l ed (p[j].1, p[j].2) = 0 := by rw [← perm_g h h2' (by generalize (p[j].2 - l.kerf - ed).tmod l.pitch = tm at *; omega), hgo', if_neg (by omega)]
         have hbe : behindS l (p[j].2 + l.sizes[p[j].1.toNat]) = min (p[j].2 + l.sizes[p[j].1.toNat] + l.kerf) l.len := by unfold behindS; rw [if_neg (by omega)]
         have hw : ed + (p[j].2 - l.kerf - ed) = p[j].2 - l.kerf := by omega
         have key := go_ok (c := c) (d := d) hjl hpm rfl rfl
         rw [if_neg (show ¬ ed < p[j].2 by omega), if_neg (show ¬ ed < p[j].2 by omega), hsz, hbe] at key
         rw [hbe] at hbl
         have a1 := addS_len (addS d (p[j].2 - l.kerf) p[j].2) (p[j].2 + l.sizes[p[j].1.toNat]) (min (p[j].2 + l.sizes[p[j].1.toNat] + l.kerf) l.len)
         have a4 := addS_len d (p[j].2 + l.sizes[p[j].1.toNat]) (min (p[j].2 + l.sizes[p[j].1.toNat] + l.kerf) l.len)
         have a2 := addS_len d (p[j].2 - l.kerf) p[j].2
         have a3 := addS_len c ed (p[j].2 - l.kerf)
         refine ⟨(j + 1, min (p[j].2 + l.sizes[p[j].1.toNat] + l.kerf) l.len, addS (d) (p[j].2 + l.sizes[p[j].1.toNat]) (min (p[j].2 + l.sizes[p[j].1.toNat] + l.kerf) l.len), c), ?_, ?_, by refine weak_mk rfl ?_ ?_ <;> repeat (first | exact envW_nil | exact heapW_nil | refine envW_cons rfl rfl ?_ | refine heapW_cons rfl rfl rfl ?_)⟩
         · show p.length - (j + 1) < p.length - j; omega
         · dsimp only
           skip
           exact ⟨by omega, hbl.1, hbl.2, by omega, by omega, hgo.trans key⟩)
  · have hnil : p.drop j = [] := List.drop_eq_nil_of_le (by omega)
    rw [hnil] at hgo
    repeat' (first
      | ((with_reducible apply radd_in); exact rfl; exact rfl; exact rfl; (first | omega | exact Nat.lt_of_le_of_lt (addS_len _ _ _) (by omega)); exact rfl; exact rfl)
      | ((with_reducible apply aw_seq))
      | ((with_reducible apply aw_region))
      | ((with_reducible apply thn_normal))
      | ((with_reducible apply thn_exit))
      | ((with_reducible apply inb_exit))
      | ((with_reducible apply aw_skip))
      | ((with_reducible apply aw_exit))
      | ((with_reducible apply aw_ret))
      | ((with_reducible apply ao_nil))
      | ((with_reducible apply r_move); exact rfl; exact rfl)
      | ((with_reducible apply r_assign); exact rfl; exact rfl)
      | ((with_reducible apply r_field_p); exact rfl; exact rfl)
      | ((with_reducible apply r_load_p); exact rfl; exact rfl; exact rfl; exact rfl)
      | ((with_reducible apply r_lss); exact rfl; exact rfl; exact rfl)
      | ((with_reducible apply r_geq); exact rfl; exact rfl; exact rfl)
      | ((with_reducible apply r_len_f); exact rfl; exact inferInstance; exact rfl)
      | (((with_reducible apply aw_cond); exact rfl) <;> intro hg <;> (first | (exact absurd hg (by decide)) | ((try simp only [decide_eq_true_eq, decide_eq_false_iff_not, Bool.not_eq_true', Bool.not_eq_false', Bool.not_true, Bool.not_false, Bool.not_not, Int.not_lt, Int.not_le, Nat.not_lt, Nat.not_le, gt_iff_lt, ge_iff_le, List.cons.injEq, and_true] at hg); first | (exact absurd trivial hg) | (exfalso; omega) | (have hT : True := hg; clear hT hg) | skip)))
      )
    · have hr : cutsGo l p 0 [] [] = (0, d, addS c ed l.len) := by rw [hgo]; unfold cutsGo; rw [if_pos hg]
      rw [hr]
      exact ret2 (.cons (.tmp rfl (cl_vec rfl (flat_len EncL.len _))) (.cons (.tmp rfl (cl_vec rfl (flat_len EncL.len _))) (.cons (.tmp rfl cl_c) .nil)))
    · have hr : cutsGo l p 0 [] [] = (0, d, c) := by rw [hgo]; unfold cutsGo; rw [if_neg (by omega)]
      rw [hr]
      exact ret2 (.cons (.tmp rfl (cl_vec rfl (flat_len EncL.len _))) (.cons (.tmp rfl (cl_vec rfl (flat_len EncL.len _))) (.cons (.tmp rfl cl_c) .nil)))
end Go.Proofs.YtjofnmklkndhoaaDoor.Cu
