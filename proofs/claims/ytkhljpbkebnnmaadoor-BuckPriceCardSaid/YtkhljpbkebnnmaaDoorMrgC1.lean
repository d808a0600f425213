/- CutC CutD CutE CutF CutG CutO CutH CutI: texts laid together. -/
import Derived.Test.YtkhljpbkebnnmaaDoorMrgC0
import Derived.Test.YtkhljpbkebnnmaaDoorMrgE5
/- Walks of cutting: Cuts in both. -/
namespace Go.Proofs.YtkhljpbkebnnmaaDoor.Cu
set_option linter.unusedVariables false
set_option linter.unusedSimpArgs false
open Go.RowKit Go.Proofs.YtkhljpbkebnnmaaDoor.Ev
variable {gl : List (Nat × List CV)}

def pcC (x : Piece) : List CV := [I x.1, I x.2]
instance : EncL pcC 2 := ⟨fun _ => rfl, by decide, fun _ => rfl⟩
abbrev LP (l : List Piece) : CV := .lst 2 (l.flatMap pcC)
theorem addS_len (l : List Span) (a b : Int) : (addS l a b).length ≤ l.length + 1 := by unfold addS; split <;> simp
/-- Error, dust, chips. -/
abbrev CutR := Int × List Span × List Span
def cutsGo (l : Line) : List Piece → Int → List Span → List Span → CutR
  | [], e, d, c => (0, d, if 0 ≤ e then addS c e l.len else c)
  | x :: xs, e, d, c =>
    if perm l e x ≠ 0 then (perm l e x, [], [])
    else cutsGo l xs (behindS l (x.2 + szOf l x.1)) (addS (if e < x.2 then addS d (x.2 - l.kerf) x.2 else d) (x.2 + szOf l x.1) (behindS l (x.2 + szOf l x.1))) (if e < x.2 then addS c e (x.2 - l.kerf) else c)
noncomputable def cutsS (l : Line) (p : List Piece) : CutR := if chk l ≠ 0 then (chk l, [], []) else cutsGo l p 0 [] []
def cutC (r : CutR) : CV := .tup [LS r.2.1, LS r.2.2, I r.1]
theorem perm0 {l : Line} {e s p : Int} (h : perm l e (s, p) = 0) : 0 ≤ s ∧ s < l.sizes.length ∧ 0 ≤ p ∧ p ≤ l.len - szOf l s ∧ 0 ≤ e ∧ (p = e ∨ (l.pitch ≤ p - l.kerf - e ∧ (p - l.kerf - e).tmod l.pitch = 0)) ∧ 0 ≤ gOf l s p := by
  unfold perm at h
  dsimp only at h
  split at h
  · simp at h
  split at h
  · simp at h
  split at h
  · simp at h
  split at h
  · simp at h
  rename_i h1 h2 h3 h4
  generalize (p - l.kerf - e).tmod l.pitch = tm at *
  refine ⟨by omega, by omega, by omega, by omega, by omega, by omega, by omega⟩
theorem behind_le {l : Line} {e : Int} (v : Valid l) (h0 : 0 ≤ e) : -1 ≤ behindS l e ∧ behindS l e ≤ l.len := by
  have := v.len; have := v.kerf
  unfold behindS; split <;> omega
theorem drop_cons {α : Type} (l : List α) (j : Nat) (h : j < l.length) : l.drop j = l[j] :: l.drop (j + 1) := List.drop_eq_getElem_cons h
theorem go_err {l : Line} {p : List Piece} {j : Nat} {e : Int} {d c : List Span} (hj : j < p.length) (h : ¬ perm l e (p[j].1, p[j].2) = 0) : cutsGo l (p.drop j) e d c = (perm l e (p[j].1, p[j].2), [], []) := by
  rw [drop_cons p j hj]; unfold cutsGo; rw [if_pos h]
theorem go_ok {l : Line} {p : List Piece} {j : Nat} {e : Int} {d c d' c' : List Span} (hj : j < p.length) (h : perm l e (p[j].1, p[j].2) = 0) (hd : d' = addS (if e < p[j].2 then addS d (p[j].2 - l.kerf) p[j].2 else d) (p[j].2 + szOf l p[j].1) (behindS l (p[j].2 + szOf l p[j].1))) (hc : c' = if e < p[j].2 then addS c e (p[j].2 - l.kerf) else c) : cutsGo l (p.drop j) e d c = cutsGo l (p.drop (j + 1)) (behindS l (p[j].2 + szOf l p[j].1)) d' c' := by
  rw [drop_cons p j hj, hd, hc]
  conv => lhs; unfold cutsGo
  rw [if_neg (show ¬ perm l e p[j] ≠ 0 from fun hh => hh h)]
theorem szOf_nat {l : Line} {k : Nat} (hk : k < l.sizes.length) : szOf l (k : Int) = l.sizes[k] := by
  unfold szOf; rw [Int.toNat_natCast, List.getD_eq_getElem?_getD, List.getElem?_eq_getElem hk]; rfl
set_option maxRecDepth 100000 in
set_option maxHeartbeats 8000000 in
theorem cuts_con (l : Line) (p : List Piece) (hp : p.length ≤ 100000) : Con Tryd.prog gl 11 [lineC l, LP p] (cutC (cutsS l p)) := by
  refine con_of Tryd.func11 rfl (by kernel_rfl) rfl ?_
  simp only [Tryd.ntmps11, Tryd.results11, argEnv, ofC, of1, List.map, lineC, lineL]
  repeat' (first
 | ((with_reducible apply r_call); exact rfl; exact rfl; exact check_con l; exact rfl; exact rfl)
 | ((with_reducible apply aw_seq))
 | ((with_reducible apply aw_region))
 | ((with_reducible apply aw_block))
 | ((with_reducible apply thn_normal))
 | ((with_reducible apply thn_ret))
 | ((with_reducible apply aw_skip))
 | ((with_reducible apply aw_ret))
 | ((with_reducible apply ao_nil))
 | ((with_reducible apply r_move); exact rfl; exact rfl)
 | ((with_reducible apply r_assign); exact rfl; exact rfl)
 | ((with_reducible apply r_load_pa); exact rfl; exact rfl; exact rfl; exact rfl; exact rfl)
 | ((with_reducible apply r_neq); exact rfl; exact rfl; exact rfl)
 | ((with_reducible apply r_box_a); exact rfl; exact rfl)
 | ((with_reducible apply r_len_f); exact rfl; exact inferInstance; exact rfl)
 | (((with_reducible apply aw_cond); exact rfl) <;> intro hg <;> (first | (exact absurd hg (by decide)) | ((try simp only [decide_eq_true_eq, decide_eq_false_iff_not, Bool.not_eq_true', Bool.not_eq_false', Bool.not_true, Bool.not_false, Bool.not_not, Int.not_lt, Int.not_le, Nat.not_lt, Nat.not_le, gt_iff_lt, ge_iff_le, List.cons.injEq, and_true] at hg); first | (exact absurd trivial hg) | (exfalso; omega) | (have hT : True := hg; clear hT hg) | skip)))
    )
  · have e : cutsS l p = (chk l, [], []) := by unfold cutsS; rw [if_pos hg]
    rw [e]
    exact ret2 (.cons (.tmp rfl cl_none) (.cons (.tmp rfl cl_none) (.cons (.tmp rfl cl_c) .nil)))
  have v := valid_of hg
  have e : cutsS l p = cutsGo l p 0 [] [] := by unfold cutsS; rw [if_neg (fun hh => hh hg)]
  rw [e]
  obtain ⟨l1, l2⟩ := v.len
  obtain ⟨k1, k2⟩ := v.kerf
  obtain ⟨p1, p2⟩ := v.pitch
  refine aw_nilvec 4 54 2 rfl rfl ?_
  refine aw_nilvec 5 54 2 rfl rfl ?_
  refine aw_loopG (G := Nat × Int × List Span × List Span) (fun ((j, ed, d, c) : Nat × Int × List Span × List Span) => j ≤ p.length ∧ -1 ≤ ed ∧ ed ≤ l.len ∧ d.length ≤ 2 * j ∧ c.length ≤ j ∧ cutsGo l p 0 [] [] = cutsGo l (p.drop j) ed d c) (fun ((j, ed, d, c) : Nat × Int × List Span × List Span) => p.length - j) (fun ((j, ed, d, c) : Nat × Int × List Span × List Span) => [(2, .ptr 0 0), (4, .vec 1 d.length), (5, .vec 2 c.length), (8, A ed), (18, .c (LP p)), (19, A p.length), (20, A j)]) (fun ((j, ed, d, c) : Nat × Int × List Span × List Span) => [(0, some (lineB l)), (1, some (.vec 54 2 (d.flatMap spC))), (2, some (.vec 54 2 (c.flatMap spC)))]) 3 (0, 0, [], []) ?_ (by refine weak_mk rfl ?_ ?_ <;> repeat (first | exact envW_nil | exact heapW_nil | refine envW_cons rfl rfl ?_ | refine heapW_cons rfl rfl rfl ?_)) rfl ?_
  · exact ⟨Nat.zero_le _, by decide, l1, by simp, by simp, by simp⟩
  rintro ⟨j, ed, d, c⟩ hI
  try dsimp only at hI
  try dsimp only
  obtain ⟨hj, he1, he2, hd, hc, hgo⟩ := hI
  by_cases hjl : j < p.length
  · by_cases hpm : perm l ed (p[j].1, p[j].2) = 0
    · obtain ⟨q1, q2, q3, q4, q5, q6, q7⟩ := perm0 hpm
      have hk : p[j].1 = ((p[j].1.toNat : Nat) : Int) := by omega
      have hk2 : p[j].1.toNat < l.sizes.length := by omega
      have hsz : szOf l p[j].1 = l.sizes[p[j].1.toNat] := by
        conv => lhs; rw [hk]
        exact szOf_nat hk2
      have hs12 := v.size _ hk2
      have hbl := behind_le (l := l) (e := p[j].2 + szOf l p[j].1) v (by omega)
      repeat' (first
 | ((with_reducible apply r_call); exact rfl; exact rfl; exact permitted_con l v ed ⟨by omega, by omega⟩ p[j].1 p[j].2; exact rfl; exact rfl)
 | ((with_reducible apply r_call); exact rfl; exact rfl; exact behind_con l _ (by unfold fits; omega); exact rfl; exact rfl)
 | ((with_reducible apply add_in); exact rfl; exact rfl; exact rfl; (first | omega | exact Nat.lt_of_le_of_lt (addS_len _ _ _) (by omega)); exact rfl; exact rfl)
 | ((with_reducible apply aw_seq))
 | ((with_reducible apply aw_region))
 | ((with_reducible apply aw_block))
 | ((with_reducible apply thn_normal))
 | ((with_reducible apply inb_normal))
 | ((with_reducible apply aw_skip))
 | ((with_reducible apply ao_nil))
 | ((with_reducible apply r_move); exact rfl; exact rfl)
 | ((with_reducible apply r_assign); exact rfl; exact rfl)
 | ((with_reducible apply r_field_p); exact rfl; exact rfl)
 | ((with_reducible apply r_load_p); exact rfl; exact rfl; exact rfl; exact rfl)
 | ((with_reducible apply r_load_pa); exact rfl; exact rfl; exact rfl; exact rfl; exact rfl)
 | ((with_reducible apply r_lss); exact rfl; exact rfl; exact rfl)
 | ((with_reducible apply r_gtr); exact rfl; exact rfl; exact rfl)
 | ((with_reducible apply r_neq); exact rfl; exact rfl; exact rfl)
 | ((with_reducible apply r_add); exact rfl; exact rfl; exact (by first | assumption | (unfold fits; omega)); exact rfl)
 | ((with_reducible apply r_sub); exact rfl; exact rfl; exact (by first | assumption | (unfold fits; omega)); exact rfl)
 | ((with_reducible apply r_index_f); exact rfl; exact inferInstance; exact rfl; exact rfl; (first | assumption | omega); exact rfl)
 | ((with_reducible apply r_index_f); exact rfl; exact inferInstance; exact rfl; exact (Int.toNat_of_nonneg (by omega)).symm; (first | assumption | omega); exact rfl)
 | ((with_reducible apply r_load_f0); exact rfl; exact inferInstance; exact List.getElem?_eq_getElem (by first | assumption | omega); exact rfl; exact rfl)
 | ((with_reducible apply r_load_fa0); exact rfl; exact inferInstance; exact List.getElem?_eq_getElem (by first | assumption | omega); exact rfl; exact rfl; exact rfl)
 | ((with_reducible apply r_store_pa); exact rfl; exact rfl; exact rfl; exact rfl; exact rfl; exact rfl)
 | ((with_reducible apply r_alloc); exact rfl)
 | (((with_reducible apply aw_cond); exact rfl) <;> intro hg <;> (first | (exact absurd hg (by decide)) | ((try simp only [decide_eq_true_eq, decide_eq_false_iff_not, Bool.not_eq_true', Bool.not_eq_false', Bool.not_true, Bool.not_false, Bool.not_not, Int.not_lt, Int.not_le, Nat.not_lt, Nat.not_le, gt_iff_lt, ge_iff_le, List.cons.injEq, and_true] at hg); first | (exact absurd trivial hg) | (exfalso; omega) | (have hT : True := hg; clear hT hg) | skip)))
 | (refine aw_drawq ?_ ?_; (kernel_rfl))
 | ((with_reducible apply ds_nil))
        )
      · skip
        refine ⟨(j + 1, behindS l (p[j].2 + l.sizes[p[j].1.toNat]), addS (addS d (p[j].2 - l.kerf) p[j].2) (p[j].2 + l.sizes[p[j].1.toNat]) (behindS l (p[j].2 + l.sizes[p[j].1.toNat])), addS c ed (p[j].2 - l.kerf)), ?_, ?_, by refine weak_mk rfl ?_ ?_ <;> repeat (first | exact envW_nil | exact heapW_nil | refine envW_cons rfl rfl ?_ | refine heapW_cons rfl rfl rfl ?_)⟩
        · show p.length - (j + 1) < p.length - j; omega
        · have key := go_ok (c := c) (d := d) hjl hpm rfl rfl
          rw [if_pos hg, if_pos hg, hsz] at key
          rw [hsz] at hbl
          have a1 := addS_len (addS d (p[j].2 - l.kerf) p[j].2) (p[j].2 + l.sizes[p[j].1.toNat]) (behindS l (p[j].2 + l.sizes[p[j].1.toNat]))
          have a2 := addS_len d (p[j].2 - l.kerf) p[j].2
          have a3 := addS_len c ed (p[j].2 - l.kerf)
          refine ⟨?_, ?_, ?_, ?_, ?_, ?_⟩
          · show j + 1 ≤ _; omega
          · exact hbl.1
          · exact hbl.2
          · show (addS _ _ _).length ≤ 2 * (j + 1); omega
          · show (addS c ed (p[j].2 - l.kerf)).length ≤ j + 1; omega
          · rw [hgo]; exact key
      · skip
        refine ⟨(j + 1, behindS l (p[j].2 + l.sizes[p[j].1.toNat]), addS (d) (p[j].2 + l.sizes[p[j].1.toNat]) (behindS l (p[j].2 + l.sizes[p[j].1.toNat])), c), ?_, ?_, by refine weak_mk rfl ?_ ?_ <;> repeat (first | exact envW_nil | exact heapW_nil | refine envW_cons rfl rfl ?_ | refine heapW_cons rfl rfl rfl ?_)⟩
        · show p.length - (j + 1) < p.length - j; omega
        · have key := go_ok (c := c) (d := d) hjl hpm rfl rfl
          rw [if_neg (by omega), if_neg (by omega), hsz] at key
          rw [hsz] at hbl
          have a1 := addS_len (d) (p[j].2 + l.sizes[p[j].1.toNat]) (behindS l (p[j].2 + l.sizes[p[j].1.toNat]))
          have a2 := addS_len d (p[j].2 - l.kerf) p[j].2
          have a3 := addS_len c ed (p[j].2 - l.kerf)
          refine ⟨?_, ?_, ?_, ?_, ?_, ?_⟩
          · show j + 1 ≤ _; omega
          · exact hbl.1
          · exact hbl.2
          · show (addS _ _ _).length ≤ 2 * (j + 1); omega
          · show c.length ≤ j + 1; omega
          · rw [hgo]; exact key
    · skip
      repeat' (first
 | ((with_reducible apply r_call); exact rfl; exact rfl; exact permitted_con l v ed ⟨by omega, by omega⟩ p[j].1 p[j].2; exact rfl; exact rfl)
 | ((with_reducible apply aw_seq))
 | ((with_reducible apply aw_region))
 | ((with_reducible apply aw_block))
 | ((with_reducible apply thn_normal))
 | ((with_reducible apply thn_ret))
 | ((with_reducible apply inb_ret))
 | ((with_reducible apply aw_skip))
 | ((with_reducible apply aw_ret))
 | ((with_reducible apply ao_nil))
 | ((with_reducible apply r_move); exact rfl; exact rfl)
 | ((with_reducible apply r_assign); exact rfl; exact rfl)
 | ((with_reducible apply r_load_pa); exact rfl; exact rfl; exact rfl; exact rfl; exact rfl)
 | ((with_reducible apply r_lss); exact rfl; exact rfl; exact rfl)
 | ((with_reducible apply r_neq); exact rfl; exact rfl; exact rfl)
 | ((with_reducible apply r_index_f); exact rfl; exact inferInstance; exact rfl; exact rfl; (first | assumption | omega); exact rfl)
 | ((with_reducible apply r_load_fa0); exact rfl; exact inferInstance; exact List.getElem?_eq_getElem (by first | assumption | omega); exact rfl; exact rfl; exact rfl)
 | ((with_reducible apply r_store_pa); exact rfl; exact rfl; exact rfl; exact rfl; exact rfl; exact rfl)
 | ((with_reducible apply r_alloc); exact rfl)
 | (((with_reducible apply aw_cond); exact rfl) <;> intro hg <;> (first | (exact absurd hg (by decide)) | ((try simp only [decide_eq_true_eq, decide_eq_false_iff_not, Bool.not_eq_true', Bool.not_eq_false', Bool.not_true, Bool.not_false, Bool.not_not, Int.not_lt, Int.not_le, Nat.not_lt, Nat.not_le, gt_iff_lt, ge_iff_le, List.cons.injEq, and_true] at hg); first | (exact absurd trivial hg) | (exfalso; omega) | (have hT : True := hg; clear hT hg) | skip)))
        )
      rw [hgo, go_err hjl hpm]
      exact ret2 (.cons (.tmp rfl cl_none) (.cons (.tmp rfl cl_none) (.cons (.tmp rfl cl_c) .nil)))
  · have hnil : p.drop j = [] := List.drop_eq_nil_of_le (by omega)
    rw [hnil] at hgo
    repeat' (first
 | ((with_reducible apply add_in); exact rfl; exact rfl; exact rfl; (first | omega | exact Nat.lt_of_le_of_lt (addS_len _ _ _) (by omega)); exact rfl; exact rfl)
 | ((with_reducible apply aw_seq))
 | ((with_reducible apply aw_region))
 | ((with_reducible apply thn_normal))
 | ((with_reducible apply thn_exit))
 | ((with_reducible apply inb_exit))
 | ((with_reducible apply aw_skip))
 | ((with_reducible apply aw_exit))
 | ((with_reducible apply aw_ret))
 | ((with_reducible apply ao_nil))
 | ((with_reducible apply r_move); exact rfl; exact rfl)
 | ((with_reducible apply r_assign); exact rfl; exact rfl)
 | ((with_reducible apply r_field_p); exact rfl; exact rfl)
 | ((with_reducible apply r_load_p); exact rfl; exact rfl; exact rfl; exact rfl)
 | ((with_reducible apply r_lss); exact rfl; exact rfl; exact rfl)
 | ((with_reducible apply r_geq); exact rfl; exact rfl; exact rfl)
 | (((with_reducible apply aw_cond); exact rfl) <;> intro hg <;> (first | (exact absurd hg (by decide)) | ((try simp only [decide_eq_true_eq, decide_eq_false_iff_not, Bool.not_eq_true', Bool.not_eq_false', Bool.not_true, Bool.not_false, Bool.not_not, Int.not_lt, Int.not_le, Nat.not_lt, Nat.not_le, gt_iff_lt, ge_iff_le, List.cons.injEq, and_true] at hg); first | (exact absurd trivial hg) | (exfalso; omega) | (have hT : True := hg; clear hT hg) | skip)))
      )
    · have hr : cutsGo l p 0 [] [] = (0, d, addS c ed l.len) := by rw [hgo]; unfold cutsGo; rw [if_pos hg]
      rw [hr]
      exact ret2 (.cons (.tmp rfl (cl_vec rfl (flat_len EncL.len _))) (.cons (.tmp rfl (cl_vec rfl (flat_len EncL.len _))) (.cons (.tmp rfl cl_c) .nil)))
    · have hr : cutsGo l p 0 [] [] = (0, d, c) := by rw [hgo]; unfold cutsGo; rw [if_neg (by omega)]
      rw [hr]
      exact ret2 (.cons (.tmp rfl (cl_vec rfl (flat_len EncL.len _))) (.cons (.tmp rfl (cl_vec rfl (flat_len EncL.len _))) (.cons (.tmp rfl cl_c) .nil)))
end Go.Proofs.YtkhljpbkebnnmaaDoor.Cu
/- Walks of cutting: total, sum, Value in both. -/
namespace Go.Proofs.YtkhljpbkebnnmaaDoor.Cu
set_option linter.unusedVariables false
set_option linter.unusedSimpArgs false
open Go.RowKit Go.Proofs.YtkhljpbkebnnmaaDoor.Ev
variable {gl : List (Nat × List CV)}

/-- The sum of the first k elements. -/
def pre (l : List Int) (k : Nat) : Int := (l.take k).sum
theorem pre_succ (l : List Int) (k : Nat) (h : k < l.length) : pre l (k + 1) = pre l k + l[k] := by
  unfold pre; rw [List.take_succ_eq_append_getElem h, List.sum_append]; simp
def Bd (l : List Int) : Prop := ∀ i (h : i < l.length), -1125899906842624 ≤ l[i] ∧ l[i] ≤ 1125899906842624
theorem pre_bd {l : List Int} (h : Bd l) (a : Nat) : ∀ n, a + n ≤ l.length → -1125899906842624 * (n : Int) ≤ pre l (a + n) - pre l a ∧ pre l (a + n) - pre l a ≤ 1125899906842624 * (n : Int)
  | 0, _ => by simp
  | n + 1, hn => by
    have ih := pre_bd h a n (by omega)
    have h1 := h (a + n) (by omega)
    rw [show a + (n + 1) = (a + n) + 1 by omega, pre_succ l (a + n) (by omega)]
    omega
theorem pre_bd' {l : List Int} (h : Bd l) (a b : Nat) (hab : a ≤ b) (hb : b ≤ l.length) : -1125899906842624 * ((b : Int) - a) ≤ pre l b - pre l a ∧ pre l b - pre l a ≤ 1125899906842624 * ((b : Int) - a) := by
  have := pre_bd h a (b - a) (by omega)
  rw [show a + (b - a) = b by omega] at this
  have e : ((b - a : Nat) : Int) = (b : Int) - a := by omega
  rw [e] at this; exact this
def spV (l : List Int) (s : Span) : Int := pre l s.2.toNat - pre l s.1.toNat
def sumSp (l : List Int) (ss : List Span) : Int := (ss.map (spV l)).sum
def tot (ss : List Span) : Int := (ss.map fun s => s.2 - s.1).sum
structure SpsOk (n : Nat) (ss : List Span) : Prop where
  sp : ∀ i (h : i < ss.length), 0 ≤ ss[i].1 ∧ ss[i].1 ≤ ss[i].2 ∧ ss[i].2 ≤ n
  tot : tot ss ≤ 4000
end Go.Proofs.YtkhljpbkebnnmaaDoor.Cu
/- Walks of cutting: Value in both. -/
namespace Go.Proofs.YtkhljpbkebnnmaaDoor.Cu
set_option linter.unusedVariables false
set_option linter.unusedSimpArgs false
open Go.RowKit Go.Proofs.YtkhljpbkebnnmaaDoor.Ev
variable {gl : List (Nat × List CV)}

def AllSp (n : Int) (l : List Span) : Prop := ∀ s ∈ l, 0 ≤ s.1 ∧ s.1 < s.2 ∧ s.2 ≤ n
theorem tot_add (l : List Span) (a b : Int) : tot (addS l a b) = tot l + max 0 (b - a) := by
  unfold addS
  split
  · omega
  · unfold tot; rw [List.map_append, List.sum_append]; simp; omega
theorem allSp_add {n : Int} {l : List Span} (h : AllSp n l) {a b : Int} (h0 : 0 ≤ a) (h1 : b ≤ n) : AllSp n (addS l a b) := by
  unfold addS
  split
  · exact h
  · intro s hs
    rcases List.mem_append.1 hs with hs | hs
    · exact h s hs
    · simp only [List.mem_singleton] at hs; subst hs; exact ⟨h0, by show a < b; omega, h1⟩
/-- What the cuts so far are. -/
structure GoInv (l : Line) (e : Int) (d c : List Span) (n : Int) : Prop where
  hd : AllSp l.len d
  hc : AllSp l.len c
  he : -1 ≤ e ∧ e ≤ l.len
  ht : tot d + tot c + n ≤ if e < 0 then l.len else e
theorem go_inv {l : Line} (v : Valid l) : ∀ (p : List Piece) (e : Int) (d c : List Span) (n : Int) (D C : List Span), GoInv l e d c n → cutsGo l p e d c = (0, D, C) → AllSp l.len D ∧ AllSp l.len C ∧ tot D + tot C + (n + p.length) ≤ l.len ∧ ∀ x ∈ p, ∃ e', perm l e' x = 0
  | [], e, d, c, n, D, C, h, hg => by
    obtain ⟨h1, h2, h3, h4⟩ := h
    unfold cutsGo at hg
    simp only [Prod.mk.injEq, true_and] at hg
    obtain ⟨rfl, rfl⟩ := hg
    have hl := v.len
    refine ⟨h1, ?_, ?_, fun x hx => by simp at hx⟩
    · split
      · exact allSp_add h2 (by omega) (Int.le_refl _)
      · exact h2
    · split
      · rename_i he
        rw [if_neg (by omega)] at h4
        rw [tot_add]; simp; omega
      · rw [if_pos (by omega)] at h4
        simp; omega
  | x :: p, e, d, c, n, D, C, h, hg => by
    obtain ⟨h1, h2, h3, h4⟩ := h
    unfold cutsGo at hg
    by_cases hp : perm l e x = 0
    · rw [if_neg (fun hh => hh hp)] at hg
      obtain ⟨q1, q2, q3, q4, q5, q6, q7⟩ := perm0 (l := l) (e := e) (s := x.1) (p := x.2) hp
      rw [if_neg (by omega)] at h4
      have hl := v.len
      have hk := v.kerf
      have hpi := v.pitch
      obtain ⟨k, hk1, hk2, hk3⟩ := szOf_eq (l := l) (s := x.1) q1 q2
      have hsz := v.size k hk2
      rw [← hk3] at hsz
      generalize szOf l x.1 = sz at *
      have hbe : (x.2 + sz = l.len ∧ behindS l (x.2 + sz) = -1) ∨ (x.2 + sz ≠ l.len ∧ behindS l (x.2 + sz) = min (x.2 + sz + l.kerf) l.len) := by
        unfold behindS
        by_cases hc : x.2 + sz = l.len
        · exact .inl ⟨hc, if_pos hc⟩
        · exact .inr ⟨hc, if_neg hc⟩
      generalize behindS l (x.2 + sz) = be at *
      generalize (x.2 - l.kerf - e).tmod l.pitch = tm at *
      have ih := go_inv v p be (addS (if e < x.2 then addS d (x.2 - l.kerf) x.2 else d) (x.2 + sz) be) (if e < x.2 then addS c e (x.2 - l.kerf) else c) (n + 1) D C ⟨?_, ?_, by omega, ?_⟩ hg
      · obtain ⟨i1, i2, i3, i4⟩ := ih
        refine ⟨i1, i2, by simp only [List.length_cons]; omega, fun y hy => ?_⟩
        rcases List.mem_cons.1 hy with rfl | hy
        · exact ⟨e, hp⟩
        · exact i4 y hy
      · refine allSp_add ?_ (by omega) (by omega)
        split
        · exact allSp_add h1 (by omega) (by omega)
        · exact h1
      · split
        · exact allSp_add h2 (by omega) (by omega)
        · exact h2
      · rw [tot_add]
        split
        · rw [tot_add, tot_add]
          split <;> omega
        · split <;> omega
    · rw [if_pos hp] at hg
      simp only [Prod.mk.injEq] at hg
      exact absurd hg.1 hp
theorem cuts_ok {l : Line} (v : Valid l) {p : List Piece} {D C : List Span} (h : cutsGo l p 0 [] [] = (0, D, C)) : AllSp l.len D ∧ AllSp l.len C ∧ tot D + tot C + p.length ≤ l.len ∧ ∀ x ∈ p, ∃ e', perm l e' x = 0 := by
  have := go_inv v p 0 [] [] 0 D C ⟨fun s hs => by simp at hs, fun s hs => by simp at hs, by have := v.len; omega, by simp [tot]⟩ h
  simpa using this
theorem tot_nn {n : Int} {ss : List Span} (h : AllSp n ss) : (ss.length : Int) ≤ tot ss := by
  induction ss with
  | nil => simp [tot]
  | cons s ss ih =>
    have h1 := h s (by simp)
    have h2 := ih (fun t ht => h t (by simp [ht]))
    unfold tot at h2 ⊢
    simp only [List.map_cons, List.sum_cons, List.length_cons]
    omega
def gsum (l : Line) (p : List Piece) : Int := (p.map fun x => gOf l x.1 x.2).sum
/-- Value and error. -/
noncomputable def valS (l : Line) (p : List Piece) : Int × Int :=
  if (cutsS l p).1 ≠ 0 then (0, (cutsS l p).1) else (sumSp l.dust (cutsS l p).2.1 + sumSp l.chip (cutsS l p).2.2 + gsum l p, 0)
end Go.Proofs.YtkhljpbkebnnmaaDoor.Cu
/- Walks of cutting: Value in both. -/
namespace Go.Proofs.YtkhljpbkebnnmaaDoor.Cu
set_option linter.unusedVariables false
set_option linter.unusedSimpArgs false
open Go.RowKit Go.Proofs.YtkhljpbkebnnmaaDoor.Ev
variable {gl : List (Nat × List CV)}

theorem valS_ok {l : Line} {p : List Piece} {D C : List Span} (h : cutsS l p = (0, D, C)) : valS l p = (sumSp l.dust D + sumSp l.chip C + gsum l p, 0) := by
  unfold valS; rw [h]; rw [if_neg (by simp)]
theorem cutsS_ok {l : Line} {p : List Piece} {D C : List Span} (h : cutsS l p = (0, D, C)) : chk l = 0 ∧ cutsGo l p 0 [] [] = (0, D, C) := by
  unfold cutsS at h
  split at h
  · rename_i hc
    simp only [Prod.mk.injEq] at h
    exact absurd h.1 hc
  · rename_i hc
    exact ⟨by simpa using hc, h⟩
/-- What Value needs of good cuts. -/
structure Good (l : Line) (p : List Piece) (D C : List Span) : Prop where
  v : Valid l
  d : SpsOk l.dust.length D
  c : SpsOk l.chip.length C
  bd : Bd l.dust
  bc : Bd l.chip
  ld : l.dust.length ≤ 2000
  lc : l.chip.length ≤ 2000
  nd : D.length ≤ 2000
  nc : C.length ≤ 2000
  sd : -1125899906842624 * 2000 ≤ sumSp l.dust D ∧ sumSp l.dust D ≤ 1125899906842624 * 2000
  sc : -1125899906842624 * 2000 ≤ sumSp l.chip C ∧ sumSp l.chip C ≤ 1125899906842624 * 2000
  np : p.length ≤ 2000
  pm : ∀ x ∈ p, ∃ e, perm l e x = 0
end Go.Proofs.YtkhljpbkebnnmaaDoor.Cu
/- Walks of cutting: the functions that compare, on equal things. -/
namespace Go.Proofs.YtkhljpbkebnnmaaDoor.Cu
set_option linter.unusedVariables false
set_option linter.unusedSimpArgs false
open Go.RowKit Go.Proofs.YtkhljpbkebnnmaaDoor.Ev
variable {gl : List (Nat × List CV)}
abbrev T : CV := .v (.bool true)

set_option maxRecDepth 100000 in
set_option maxHeartbeats 8000000 in
theorem samePieces_con (l : List Piece) (hn : l.length ≤ 1000000) : Con Tryd.prog gl 20 [LP l, LP l] T := by
  refine con_of Tryd.func20 rfl (by kernel_rfl) rfl ?_
  simp only [Tryd.ntmps20, Tryd.results20, argEnv, ofC, of1, List.map]
  repeat' (first
 | ((with_reducible apply aw_seq))
 | ((with_reducible apply aw_region))
 | ((with_reducible apply aw_block))
 | ((with_reducible apply thn_normal))
 | ((with_reducible apply aw_skip))
 | ((with_reducible apply ao_nil))
 | ((with_reducible apply r_move); exact rfl; exact rfl)
 | ((with_reducible apply r_assign); exact rfl; exact rfl)
 | ((with_reducible apply r_neq); exact rfl; exact rfl; exact rfl)
 | ((with_reducible apply r_len_f); exact rfl; exact inferInstance; exact rfl)
 | (((with_reducible apply aw_cond); exact rfl) <;> intro hg <;> (first | (exact absurd hg (by decide)) | ((try simp only [decide_eq_true_eq, decide_eq_false_iff_not, Bool.not_eq_true', Bool.not_eq_false', Bool.not_true, Bool.not_false, Bool.not_not, Int.not_lt, Int.not_le, Nat.not_lt, Nat.not_le, gt_iff_lt, ge_iff_le, List.cons.injEq, and_true] at hg); first | (exact absurd trivial hg) | (exfalso; omega) | (have hT : True := hg; clear hT hg) | skip)))
    )
  refine aw_loopG (G := Nat) (fun (j : Nat) => j ≤ l.length) (fun (j : Nat) => l.length - j) (fun (j : Nat) => [(0, .c (LP l)), (1, .c (LP l)), (5, A j)]) (fun (j : Nat) => []) 0 0 ?_ (by refine weak_mk rfl ?_ ?_ <;> repeat (first | exact envW_nil | exact heapW_nil | refine envW_cons rfl rfl ?_ | refine heapW_cons rfl rfl rfl ?_)) rfl ?_
  · exact Nat.zero_le _
  rintro j hI
  try dsimp only at hI
  try dsimp only
  by_cases hjl : j < l.length
  · skip
    repeat' (first
 | ((with_reducible apply aw_seq))
 | ((with_reducible apply aw_region))
 | ((with_reducible apply aw_block))
 | ((with_reducible apply thn_normal))
 | ((with_reducible apply inb_normal))
 | ((with_reducible apply aw_skip))
 | ((with_reducible apply ao_nil))
 | ((with_reducible apply r_move); exact rfl; exact rfl)
 | ((with_reducible apply r_assign); exact rfl; exact rfl)
 | ((with_reducible apply r_lss); exact rfl; exact rfl; exact rfl)
 | ((with_reducible apply r_add); exact rfl; exact rfl; exact (by first | assumption | (unfold fits; omega)); exact rfl)
 | ((with_reducible apply r_len_f); exact rfl; exact inferInstance; exact rfl)
 | ((with_reducible apply r_index_f); exact rfl; exact inferInstance; exact rfl; exact rfl; (first | assumption | omega); exact rfl)
 | ((with_reducible apply r_load_fa0); exact rfl; exact inferInstance; exact List.getElem?_eq_getElem (by first | assumption | omega); exact rfl; exact rfl; exact rfl)
 | (((with_reducible apply aw_cond); exact rfl) <;> intro hg <;> (first | (exact absurd hg (by decide)) | ((try simp only [decide_eq_true_eq, decide_eq_false_iff_not, Bool.not_eq_true', Bool.not_eq_false', Bool.not_true, Bool.not_false, Bool.not_not, Int.not_lt, Int.not_le, Nat.not_lt, Nat.not_le, gt_iff_lt, ge_iff_le, List.cons.injEq, and_true] at hg); first | (exact absurd trivial hg) | (exfalso; omega) | (have hT : True := hg; clear hT hg) | skip)))
 | (refine aw_drawq ?_ ?_; (kernel_rfl))
 | ((with_reducible apply ds_nil))
 | ((with_reducible apply r_neqs); exact rfl; exact rfl; exact rfl; exact rfl; exact rfl; exact rfl; exact rfl)
      )
    refine ⟨j + 1, ?_, ?_, by refine weak_mk rfl ?_ ?_ <;> repeat (first | exact envW_nil | exact heapW_nil | refine envW_cons rfl rfl ?_ | refine heapW_cons rfl rfl rfl ?_)⟩
    · show _ - (j + 1) < _ - j; omega
    · show j + 1 ≤ _; omega
  · skip
    repeat' (first
 | ((with_reducible apply aw_seq))
 | ((with_reducible apply aw_region))
 | ((with_reducible apply thn_normal))
 | ((with_reducible apply thn_exit))
 | ((with_reducible apply inb_exit))
 | ((with_reducible apply aw_exit))
 | ((with_reducible apply aw_ret))
 | ((with_reducible apply ao_nil))
 | ((with_reducible apply r_move); exact rfl; exact rfl)
 | ((with_reducible apply r_assign); exact rfl; exact rfl)
 | ((with_reducible apply r_lss); exact rfl; exact rfl; exact rfl)
 | ((with_reducible apply r_len_f); exact rfl; exact inferInstance; exact rfl)
 | (((with_reducible apply aw_cond); exact rfl) <;> intro hg <;> (first | (exact absurd hg (by decide)) | ((try simp only [decide_eq_true_eq, decide_eq_false_iff_not, Bool.not_eq_true', Bool.not_eq_false', Bool.not_true, Bool.not_false, Bool.not_not, Int.not_lt, Int.not_le, Nat.not_lt, Nat.not_le, gt_iff_lt, ge_iff_le, List.cons.injEq, and_true] at hg); first | (exact absurd trivial hg) | (exfalso; omega) | (have hT : True := hg; clear hT hg) | skip)))
      )
    exact ret_b rfl rfl
end Go.Proofs.YtkhljpbkebnnmaaDoor.Cu
/- Walks of cutting: Clone, repeat, Uniform. -/
namespace Go.Proofs.YtkhljpbkebnnmaaDoor.Cu
set_option linter.unusedVariables false
set_option linter.unusedSimpArgs false
open Go.RowKit Go.Proofs.YtkhljpbkebnnmaaDoor.Ev
variable {gl : List (Nat × List CV)}

set_option maxRecDepth 100000 in
set_option maxHeartbeats 4000000 in
theorem clone_con (l : List Int) (hn : l.length ≤ 100000) : Con Tryd.prog gl 24 [LI l] (LI l) := by
  refine con_of Tryd.func24 rfl (by kernel_rfl) rfl ?_
  simp only [Tryd.ntmps24, Tryd.results24, argEnv, ofC, of1, List.map]
  repeat' (first
 | ((with_reducible apply r_eqnil); exact rfl; exact rfl; exact rfl; intro nb hnb)
 | ((with_reducible apply (r_appendl (enc := inC) (l := []) (l2 := l))); exact rfl; exact rfl; exact inferInstance; exact rfl; exact rfl; exact (by omega); exact (by omega); exact rfl)
 | ((with_reducible apply aw_seq))
 | ((with_reducible apply aw_region))
 | ((with_reducible apply thn_normal))
 | ((with_reducible apply thn_ret))
 | ((with_reducible apply aw_skip))
 | ((with_reducible apply aw_ret))
 | ((with_reducible apply ao_nil))
 | ((with_reducible apply r_move); exact rfl; exact rfl)
 | ((with_reducible apply r_assign); exact rfl; exact rfl)
 | (((with_reducible apply aw_cond); exact rfl) <;> intro hg <;> (first | (exact absurd hg (by decide)) | ((try simp only [decide_eq_true_eq, decide_eq_false_iff_not, Bool.not_eq_true', Bool.not_eq_false', Bool.not_true, Bool.not_false, Bool.not_not, Int.not_lt, Int.not_le, Nat.not_lt, Nat.not_le, gt_iff_lt, ge_iff_le, List.cons.injEq, and_true] at hg); first | (exact absurd trivial hg) | (exfalso; omega) | (have hT : True := hg; clear hT hg) | skip)))
 | ((with_reducible apply r_lit0); exact rfl)
    )
  · have : l = [] := by
      cases l with
      | nil => rfl
      | cons a l => have := hnb (by simp [inC]); subst this; cases hg
    subst this
    exact ret1 (.tmp rfl cl_none)
  · exact ret1 (.tmp rfl (cl_vec rfl (by rw [flat_len EncL.len]; simp)))
def zeroL : Line := ⟨0, 0, 0, [], [], [], []⟩
end Go.Proofs.YtkhljpbkebnnmaaDoor.Cu
/- Walks of cutting: the sums from the left, in both. -/
namespace Go.Proofs.YtkhljpbkebnnmaaDoor.Cu
set_option linter.unusedVariables false
set_option linter.unusedSimpArgs false
open Go.RowKit Go.Proofs.YtkhljpbkebnnmaaDoor.Ev
variable {gl : List (Nat × List CV)}

/-- The sums of the first 0, 1, .. elements. -/
def sumsS (l : List Int) : List Int := (List.range (l.length + 1)).map (pre l)
@[simp] theorem sumsS_len (l : List Int) : (sumsS l).length = l.length + 1 := by simp [sumsS]
theorem sumsS_get (l : List Int) (k : Nat) (h : k < (sumsS l).length) : (sumsS l)[k] = pre l k := by simp [sumsS]
theorem sumsS_of {l s : List Int} (hn : s.length = l.length + 1) (h : ∀ i (hi : i < s.length), s[i] = pre l i) : s = sumsS l := by
  refine List.ext_getElem (by simp [hn]) (fun i h1 h2 => ?_)
  rw [h i h1, sumsS_get]
theorem pre_le {l : List Int} (hb : Bd l) (hn : l.length ≤ 2000) {k : Nat} (hk : k ≤ l.length) : -1125899906842624 * 2000 ≤ pre l k ∧ pre l k ≤ 1125899906842624 * 2000 := by
  have := pre_bd hb 0 k (by omega)
  rw [Nat.zero_add, show pre l 0 = 0 from rfl] at this
  omega
set_option maxRecDepth 100000 in
set_option maxHeartbeats 8000000 in
theorem sums_con (l : List Int) (hb : Bd l) (hn : l.length ≤ 2000) : Con Tryd.prog gl 67 [LI l] (LI (sumsS l)) := by
  refine con_of Tryd.func67 rfl (by kernel_rfl) rfl ?_
  simp only [Tryd.ntmps67, Tryd.results67, argEnv, ofC, of1, List.map]
  repeat' (first
 | ((with_reducible apply r_make (enc := inC) (0 : Int) (l.length + 1)); exact inferInstance; exact rfl; exact rfl; exact rfl; exact rfl; exact rfl; omega; omega; exact rfl)
 | ((with_reducible apply aw_seq))
 | ((with_reducible apply aw_region))
 | ((with_reducible apply aw_block))
 | ((with_reducible apply thn_normal))
 | ((with_reducible apply ao_nil))
 | ((with_reducible apply r_move); exact rfl; exact rfl)
 | ((with_reducible apply r_assign); exact rfl; exact rfl)
 | ((with_reducible apply r_add); exact rfl; exact rfl; exact (by first | assumption | (unfold fits; omega)); exact rfl)
 | ((with_reducible apply r_len_f); exact rfl; exact inferInstance; exact rfl)
    )
  refine aw_loopG (G := Nat × List Int) (fun ((j, s) : Nat × List Int) => j ≤ l.length ∧ s.length = l.length + 1 ∧ ∀ i (h : i < s.length), i ≤ j → s[i] = pre l i) (fun ((j, s) : Nat × List Int) => l.length - j) (fun ((j, s) : Nat × List Int) => [(3, .vec 0 (l.length + 1)), (10, .c (LI l)), (11, A l.length), (12, A j)]) (fun ((j, s) : Nat × List Int) => [(0, some (.vec 3 1 (s.flatMap inC)))]) 1 (0, List.replicate (l.length + 1) 0) ?_ (by refine weak_mk rfl ?_ ?_ <;> repeat (first | exact envW_nil | exact heapW_nil | refine envW_cons rfl rfl ?_ | refine heapW_cons rfl rfl rfl ?_)) rfl ?_
  · refine ⟨Nat.zero_le _, by simp, fun i h hi => ?_⟩
    obtain rfl : i = 0 := Nat.le_zero.1 hi
    simp [pre]
  rintro ⟨j, s⟩ hI
  try dsimp only at hI
  try dsimp only
  obtain ⟨hj, hs, hall⟩ := hI
  by_cases hjl : j < l.length
  · have h1 := hall j (by omega) (Nat.le_refl _)
    have h2 := pre_le hb hn hj
    have h3 := hb j hjl
    have h4 := pre_succ l j hjl
    repeat' (first
 | ((with_reducible apply r_store_v (enc := inC) (s[j] + l[j])); exact rfl; exact rfl; exact inferInstance; (first | exact rfl | assumption); (first | assumption | omega); exact rfl; exact rfl; exact rfl; exact rfl)
 | ((with_reducible apply aw_seq))
 | ((with_reducible apply aw_region))
 | ((with_reducible apply aw_block))
 | ((with_reducible apply thn_normal))
 | ((with_reducible apply inb_normal))
 | ((with_reducible apply aw_skip))
 | ((with_reducible apply ao_nil))
 | ((with_reducible apply r_move); exact rfl; exact rfl)
 | ((with_reducible apply r_assign); exact rfl; exact rfl)
 | ((with_reducible apply r_lss); exact rfl; exact rfl; exact rfl)
 | ((with_reducible apply r_add); exact rfl; exact rfl; exact (by first | assumption | (unfold fits; omega)); exact rfl)
 | ((with_reducible apply r_index_f); exact rfl; exact inferInstance; exact rfl; exact rfl; (first | assumption | omega); exact rfl)
 | ((with_reducible apply r_load_f0); exact rfl; exact inferInstance; exact List.getElem?_eq_getElem (by first | assumption | omega); exact rfl; exact rfl)
 | ((with_reducible apply r_index_vf); exact rfl; exact rfl; exact inferInstance; (first | exact rfl | assumption | omega); exact rfl; exact rfl; (first | assumption | omega); exact rfl)
 | ((with_reducible apply r_index_vf); exact rfl; exact rfl; exact inferInstance; (first | exact rfl | assumption | omega); exact rfl; exact (Int.toNat_of_nonneg (by omega)).symm; (first | assumption | omega); exact rfl)
 | ((with_reducible apply r_load_vf0); exact rfl; exact rfl; exact inferInstance; (first | exact rfl | assumption | omega); exact List.getElem?_eq_getElem (by first | assumption | omega); exact rfl; exact rfl)
 | (((with_reducible apply aw_cond); exact rfl) <;> intro hg <;> (first | (exact absurd hg (by decide)) | ((try simp only [decide_eq_true_eq, decide_eq_false_iff_not, Bool.not_eq_true', Bool.not_eq_false', Bool.not_true, Bool.not_false, Bool.not_not, Int.not_lt, Int.not_le, Nat.not_lt, Nat.not_le, gt_iff_lt, ge_iff_le, List.cons.injEq, and_true] at hg); first | (exact absurd trivial hg) | (exfalso; omega) | (have hT : True := hg; clear hT hg) | skip)))
      )
    refine ⟨(j + 1, s.set (j + 1) (s[j] + l[j])), ?_, ?_, by refine weak_mk rfl ?_ ?_ <;> repeat (first | exact envW_nil | exact heapW_nil | refine envW_cons rfl rfl ?_ | refine heapW_cons rfl rfl rfl ?_)⟩
    · show _ - (j + 1) < _ - j; omega
    · refine ⟨by show j + 1 ≤ _; omega, by simp [hs], fun i h hi => ?_⟩
      by_cases e : i = j + 1
      · subst e; rw [List.getElem_set_self, h1, h4]
      · rw [List.getElem_set_ne (by omega)]
        exact hall i (by simpa using h) (by have : i ≤ j + 1 := hi; omega)
  · skip
    repeat' (first
 | ((with_reducible apply aw_seq))
 | ((with_reducible apply aw_region))
 | ((with_reducible apply thn_normal))
 | ((with_reducible apply thn_exit))
 | ((with_reducible apply inb_exit))
 | ((with_reducible apply aw_exit))
 | ((with_reducible apply aw_ret))
 | ((with_reducible apply ao_nil))
 | ((with_reducible apply r_move); exact rfl; exact rfl)
 | ((with_reducible apply r_assign); exact rfl; exact rfl)
 | ((with_reducible apply r_lss); exact rfl; exact rfl; exact rfl)
 | (((with_reducible apply aw_cond); exact rfl) <;> intro hg <;> (first | (exact absurd hg (by decide)) | ((try simp only [decide_eq_true_eq, decide_eq_false_iff_not, Bool.not_eq_true', Bool.not_eq_false', Bool.not_true, Bool.not_false, Bool.not_not, Int.not_lt, Int.not_le, Nat.not_lt, Nat.not_le, gt_iff_lt, ge_iff_le, List.cons.injEq, and_true] at hg); first | (exact absurd trivial hg) | (exfalso; omega) | (have hT : True := hg; clear hT hg) | skip)))
      )
    have : s = sumsS l := sumsS_of hs (fun i hi => hall i hi (by omega))
    rw [← this]
    exact ret1 (.tmp rfl (cl_vec rfl (by rw [flat_len EncL.len, hs])))
end Go.Proofs.YtkhljpbkebnnmaaDoor.Cu
/- The best pieces, in plain Lean: no program here. -/
namespace Go.Proofs.YtkhljpbkebnnmaaDoor.Cu
set_option linter.unusedVariables false
set_option linter.unusedSimpArgs false
open Go.RowKit Go.Proofs.YtkhljpbkebnnmaaDoor.Ev

/-- Size (negative: none), position, value. -/
abbrev Ch := Int × Int × Int
def dp (l : Line) (k : Int) : Int := pre l.dust k.toNat
def cp (l : Line) (k : Int) : Int := pre l.chip k.toNat
def OkP (l : Line) (i : Nat) (p : Int) : Prop := p + szOf l i ≤ l.len ∧ 0 ≤ gOf l i p
instance (l : Line) (i : Nat) (p : Int) : Decidable (OkP l i p) := by unfold OkP; infer_instance
/-- The value of a piece, of its cut and of what follows. -/
def candV (l : Line) (V : Int → Int) (i : Nat) (p : Int) : Int :=
  gOf l i p + (if 0 ≤ behindS l (p + szOf l i) then dp l (behindS l (p + szOf l i)) - dp l (p + szOf l i) + V (behindS l (p + szOf l i)) else 0)
def stS (l : Line) (V : Int → Int) (p : Int) : Nat → Ch
  | 0 => (-1, -1, 0)
  | k + 1 => if OkP l k p ∧ ((stS l V p k).1 < 0 ∨ (stS l V p k).2.2 < candV l V k p) then ((k : Int), p, candV l V k p) else stS l V p k
def grp (l : Line) (V : Int → Int) (paid p : Int) : Nat → Ch → Ch
  | 0, b => b
  | k + 1, b => if OkP l k p ∧ (grp l V paid p k b).2.2 < paid + candV l V k p then ((k : Int), p, paid + candV l V k p) else grp l V paid p k b
def atP (l : Line) (e : Int) (m : Nat) : Int := e + m * l.pitch + l.kerf
def paidP (l : Line) (e q : Int) : Int := cp l (q - l.kerf) - cp l e + dp l q - dp l (q - l.kerf)
def posS (l : Line) (V : Int → Int) (e : Int) : Nat → Ch
  | 0 => grp l V 0 e l.sizes.length (-1, -1, cp l l.len - cp l e)
  | m + 1 => if atP l e (m + 1) ≤ l.len then grp l V (paidP l e (atP l e (m + 1))) (atP l e (m + 1)) l.sizes.length (posS l V e m) else posS l V e m
def chooseS (l : Line) (V : Int → Int) (e : Int) : Ch := posS l V e l.len.toNat
def Tb (l : Line) : Nat → Int → Ch
  | 0, _ => (-1, -1, 0)
  | n + 1, e => chooseS l (fun e' => (Tb l n e').2.2) e
/-- The best continuation from an edge. -/
def TT (l : Line) (e : Int) : Ch := Tb l (l.len.toNat + 1) e
def TV (l : Line) (e : Int) : Int := (TT l e).2.2

theorem atP_succ (l : Line) (e : Int) (m : Nat) : atP l e (m + 1) = atP l e m + l.pitch := by
  unfold atP
  rw [show ((m + 1 : Nat) : Int) = (m : Int) + 1 by omega, Int.add_mul]; omega
theorem atP_ge {l : Line} (v : Valid l) (e : Int) : ∀ m : Nat, e + l.kerf + m ≤ atP l e m
  | 0 => by unfold atP; omega
  | m + 1 => by
    have := atP_ge v e m
    have := v.pitch
    rw [atP_succ]; omega
theorem stS_sgn (l : Line) (V : Int → Int) (p : Int) : ∀ k, stS l V p k = (-1, -1, 0) ∨ (0 ≤ (stS l V p k).1 ∧ (stS l V p k).1 < k ∧ (stS l V p k).2.1 = p ∧ OkP l (stS l V p k).1.toNat p ∧ (stS l V p k).2.2 = candV l V (stS l V p k).1.toNat p)
  | 0 => .inl rfl
  | k + 1 => by
    unfold stS
    split
    · rename_i h
      exact .inr ⟨by simp, by simp; omega, rfl, by simpa using h.1, by simp⟩
    · rcases stS_sgn l V p k with h | ⟨h1, h2, h3⟩
      · exact .inl h
      · exact .inr ⟨h1, by omega, h3⟩
theorem grp_st (l : Line) (V : Int → Int) (paid p : Int) (b : Ch) : ∀ k, grp l V paid p k b = if 0 ≤ (stS l V p k).1 ∧ b.2.2 < (stS l V p k).2.2 + paid then ((stS l V p k).1, p, (stS l V p k).2.2 + paid) else b
  | 0 => by simp [grp, stS]
  | k + 1 => by
    unfold grp stS
    rw [grp_st l V paid p b k]
    have hs := stS_sgn l V p k
    generalize stS l V p k = s at *
    generalize candV l V k p = c at *
    by_cases ho : OkP l k p
    · simp only [ho, true_and]
      by_cases h2 : s.1 < 0 ∨ s.2.2 < c
      · rw [if_pos h2]
        dsimp only
        by_cases h1 : 0 ≤ s.1 ∧ b.2.2 < s.2.2 + paid
        · rw [if_pos h1, if_pos (by show s.2.2 + paid < paid + c; omega), if_pos (by omega), Int.add_comm]
        · rw [if_neg h1]
          by_cases h3 : b.2.2 < paid + c
          · rw [if_pos h3, if_pos (by omega), Int.add_comm]
          · rw [if_neg h3, if_neg (by omega)]
      · rw [if_neg h2]
        by_cases h1 : 0 ≤ s.1 ∧ b.2.2 < s.2.2 + paid
        · rw [if_pos h1, if_neg (by show ¬ s.2.2 + paid < paid + c; omega)]
        · rw [if_neg h1, if_neg (by omega)]
    · simp only [ho, false_and, if_false]
theorem posS_succ (l : Line) (V : Int → Int) (e : Int) (m : Nat) : posS l V e (m + 1) = if atP l e (m + 1) ≤ l.len then grp l V (paidP l e (atP l e (m + 1))) (atP l e (m + 1)) l.sizes.length (posS l V e m) else posS l V e m := rfl
theorem posS_stop {l : Line} (v : Valid l) (V : Int → Int) (e : Int) {m : Nat} (h : l.len < atP l e (m + 1)) : ∀ k, posS l V e (m + k) = posS l V e m
  | 0 => rfl
  | k + 1 => by
    have hm : ∀ j : Nat, atP l e (m + 1) ≤ atP l e (m + 1 + j) := by
      intro j
      induction j with
      | zero => exact Int.le_refl _
      | succ j ih => have := v.pitch; rw [show m + 1 + (j + 1) = (m + 1 + j) + 1 by omega, atP_succ l e (m + 1 + j)]; omega
    have := hm k
    rw [show m + (k + 1) = (m + k) + 1 by omega, posS_succ, if_neg (by rw [show m + k + 1 = m + 1 + k by omega]; omega)]
    exact posS_stop v V e h k
theorem posS_end {l : Line} (v : Valid l) (V : Int → Int) {e : Int} (he : 0 ≤ e) {m : Nat} (h : l.len < atP l e (m + 1)) : posS l V e m = chooseS l V e := by
  have h2 : l.len < atP l e (l.len.toNat + 1) := by
    have := atP_ge v e (l.len.toNat + 1)
    have := v.kerf; have := v.len
    omega
  unfold chooseS
  rw [← posS_stop v V e h l.len.toNat, ← posS_stop v V e h2 m, Nat.add_comm]
theorem beh_cases {l : Line} (v : Valid l) {q : Int} (h0 : 0 ≤ q) (h1 : q ≤ l.len) : (q = l.len ∧ behindS l q = -1) ∨ (q < l.len ∧ q ≤ behindS l q ∧ behindS l q ≤ l.len ∧ behindS l q = min (q + l.kerf) l.len) := by
  unfold behindS
  have := v.kerf
  by_cases hc : q = l.len
  · exact .inl ⟨hc, if_pos hc⟩
  · rw [if_neg hc]; exact .inr ⟨by omega, by omega, by omega, rfl⟩
theorem sz_pos {l : Line} (v : Valid l) {i : Nat} (h : i < l.sizes.length) : 1 ≤ szOf l i := by
  rw [szOf_nat h]; exact (v.size i h).1
theorem candV_congr {l : Line} (v : Valid l) {V V' : Int → Int} {e p : Int} (he : 0 ≤ e) (hp : e ≤ p) (h : ∀ x, e < x → x ≤ l.len → V x = V' x) {i : Nat} (hi : i < l.sizes.length) (ho : OkP l i p) : candV l V i p = candV l V' i p := by
  have hs := sz_pos v hi
  unfold candV
  rcases beh_cases v (q := p + szOf l i) (by omega) ho.1 with ⟨_, hb⟩ | ⟨_, h1, h2, _⟩
  · rw [hb]; simp
  · rw [h _ (by omega) h2]
theorem stS_congr {l : Line} (v : Valid l) {V V' : Int → Int} {e p : Int} (he : 0 ≤ e) (hp : e ≤ p) (h : ∀ x, e < x → x ≤ l.len → V x = V' x) : ∀ k, k ≤ l.sizes.length → stS l V p k = stS l V' p k
  | 0, _ => rfl
  | k + 1, hk => by
    unfold stS
    rw [stS_congr v he hp h k (by omega)]
    by_cases ho : OkP l k p
    · rw [candV_congr v he hp h (by omega) ho]
    · rw [if_neg (fun hh => ho hh.1), if_neg (fun hh => ho hh.1)]
theorem grp_congr {l : Line} (v : Valid l) {V V' : Int → Int} {e p : Int} (he : 0 ≤ e) (hp : e ≤ p) (h : ∀ x, e < x → x ≤ l.len → V x = V' x) (paid : Int) (b : Ch) : grp l V paid p l.sizes.length b = grp l V' paid p l.sizes.length b := by
  rw [grp_st, grp_st, stS_congr v he hp h _ (Nat.le_refl _)]
theorem posS_congr {l : Line} (v : Valid l) {V V' : Int → Int} {e : Int} (he : 0 ≤ e) (h : ∀ x, e < x → x ≤ l.len → V x = V' x) : ∀ m, posS l V e m = posS l V' e m
  | 0 => by unfold posS; exact grp_congr v he (Int.le_refl _) h _ _
  | m + 1 => by
    have := atP_ge v e (m + 1)
    have := v.kerf
    unfold posS
    rw [posS_congr v he h m, grp_congr v he (by omega) h]
theorem T_fuel {l : Line} (v : Valid l) : ∀ (n m : Nat) (e : Int), 0 ≤ e → e ≤ l.len → l.len - e < n → l.len - e < m → Tb l n e = Tb l m e
  | 0, _, e, _, _, _, _ => by omega
  | n + 1, 0, e, _, _, _, _ => by omega
  | n + 1, m + 1, e, h0, h1, h2, h3 => by
    unfold Tb chooseS
    exact posS_congr v h0 (fun x hx hx2 => by
      show (Tb l n x).2.2 = (Tb l m x).2.2
      rw [T_fuel v n m x (by omega) hx2 (by omega) (by omega)]) _
theorem TT_eq {l : Line} (v : Valid l) {e : Int} (h0 : 0 ≤ e) (h1 : e ≤ l.len) : TT l e = chooseS l (TV l) e := by
  unfold TT
  rw [T_fuel v (l.len.toNat + 1) (l.len.toNat + 1 + 1) e h0 h1 (by omega) (by omega)]
  rfl
/-- The bound of the values. -/
def VB (l : Line) (V : Int → Int) (e : Int) : Prop := ∀ x, e < x → x ≤ l.len → -1125899906842624 * (l.len - x) ≤ V x ∧ V x ≤ 1125899906842624 * (l.len - x)
theorem gOf_bd {l : Line} (v : Valid l) {i : Nat} (hi : i < l.sizes.length) {p : Int} (h0 : 0 ≤ p) (h1 : p + szOf l i ≤ l.len) : -1125899906842624 ≤ gOf l i p ∧ gOf l i p ≤ 1125899906842624 := by
  rw [szOf_nat hi] at h1
  obtain ⟨j, rfl, h2, h3, h4⟩ := gOf_eq v hi h0 (by omega)
  rw [h4]; exact v.gains _ h2 _ h3
theorem dp_bd {l : Line} (v : Valid l) {a b : Int} (h0 : 0 ≤ a) (h1 : a ≤ b) (h2 : b ≤ l.len) : -1125899906842624 * (b - a) ≤ dp l b - dp l a ∧ dp l b - dp l a ≤ 1125899906842624 * (b - a) := by
  have hd := v.dust
  have := pre_bd' v.dusts a.toNat b.toNat (by omega) (by omega)
  unfold dp
  rw [show (a.toNat : Int) = a by omega, show (b.toNat : Int) = b by omega] at this
  exact this
theorem cp_bd {l : Line} (v : Valid l) {a b : Int} (h0 : 0 ≤ a) (h1 : a ≤ b) (h2 : b ≤ l.len) : -1125899906842624 * (b - a) ≤ cp l b - cp l a ∧ cp l b - cp l a ≤ 1125899906842624 * (b - a) := by
  have hd := v.chip
  have := pre_bd' v.chips a.toNat b.toNat (by omega) (by omega)
  unfold cp
  rw [show (a.toNat : Int) = a by omega, show (b.toNat : Int) = b by omega] at this
  exact this
theorem candV_bd {l : Line} (v : Valid l) {V : Int → Int} {e p : Int} (he : 0 ≤ e) (hp : e ≤ p) (h : VB l V e) {i : Nat} (hi : i < l.sizes.length) (ho : OkP l i p) : -1125899906842624 * (l.len - p) ≤ candV l V i p ∧ candV l V i p ≤ 1125899906842624 * (l.len - p) := by
  have hs := sz_pos v hi
  have hg := gOf_bd v hi (by omega) ho.1
  have ho1 := ho.1
  unfold candV
  rcases beh_cases v (q := p + szOf l i) (by omega) ho.1 with ⟨_, hb⟩ | ⟨_, h1, h2, _⟩
  · rw [hb, if_neg (by omega)]; omega
  · rw [if_pos (by omega)]
    have h3 := dp_bd v (by omega) h1 h2
    have h4 := h _ (by omega) h2
    omega
theorem stS_bd {l : Line} (v : Valid l) {V : Int → Int} {e p : Int} (he : 0 ≤ e) (hp : e ≤ p) (hpl : p ≤ l.len) (h : VB l V e) {k : Nat} (hk : k ≤ l.sizes.length) : -1125899906842624 * (l.len - p) ≤ (stS l V p k).2.2 ∧ (stS l V p k).2.2 ≤ 1125899906842624 * (l.len - p) := by
  rcases stS_sgn l V p k with h1 | ⟨h1, h2, h3, h4, h5⟩
  · rw [h1]; dsimp only; omega
  · rw [h5]; exact candV_bd v he hp h (by omega) h4
theorem paidP_bd {l : Line} (v : Valid l) {e q : Int} (he : 0 ≤ e) (h1 : e ≤ q - l.kerf) (h2 : q ≤ l.len) : -1125899906842624 * (q - e) ≤ paidP l e q ∧ paidP l e q ≤ 1125899906842624 * (q - e) := by
  have := v.kerf
  have a1 := cp_bd v he h1 (by omega)
  have a2 := dp_bd v (a := q - l.kerf) (b := q) (by omega) (by omega) h2
  unfold paidP
  omega
theorem posS_bd {l : Line} (v : Valid l) {V : Int → Int} {e : Int} (he : 0 ≤ e) (hel : e ≤ l.len) (h : VB l V e) : ∀ m, -1125899906842624 * (l.len - e) ≤ (posS l V e m).2.2 ∧ (posS l V e m).2.2 ≤ 1125899906842624 * (l.len - e)
  | 0 => by
    have := stS_bd v he (Int.le_refl _) hel h (Nat.le_refl _)
    have := cp_bd v he hel (Int.le_refl _)
    unfold posS
    rw [grp_st]
    split <;> dsimp only <;> omega
  | m + 1 => by
    have ih := posS_bd v he hel h m
    unfold posS
    split
    · rename_i hq
      have h1 := atP_ge v e (m + 1)
      have := v.kerf
      generalize atP l e (m + 1) = q at *
      have h2 := stS_bd v he (p := q) (by omega) hq h (Nat.le_refl _)
      have h3 := paidP_bd v he (q := q) (by omega) hq
      rw [grp_st]
      split
      · dsimp only; omega
      · exact ih
    · exact ih
theorem T_bd {l : Line} (v : Valid l) : ∀ (n : Nat) (e : Int), 0 ≤ e → e ≤ l.len → -1125899906842624 * (l.len - e) ≤ (Tb l n e).2.2 ∧ (Tb l n e).2.2 ≤ 1125899906842624 * (l.len - e)
  | 0, e, h0, h1 => by unfold Tb; dsimp only; omega
  | n + 1, e, h0, h1 => posS_bd v h0 h1 (fun x hx hx2 => T_bd v n x (by omega) hx2) _
theorem TV_bd {l : Line} (v : Valid l) {e : Int} (he : 0 ≤ e) : VB l (TV l) e := fun x hx hx2 => T_bd v _ x (by omega) hx2
theorem posS_sgn (l : Line) (V : Int → Int) (e : Int) : ∀ m, ((posS l V e m).1 = -1 ∧ (posS l V e m).2.1 = -1) ∨ ∃ q, (q = e ∨ ∃ j : Nat, 1 ≤ j ∧ q = atP l e j ∧ q ≤ l.len) ∧ 0 ≤ (posS l V e m).1 ∧ (posS l V e m).1 < l.sizes.length ∧ (posS l V e m).2.1 = q ∧ OkP l (posS l V e m).1.toNat q
  | 0 => by
    unfold posS
    rw [grp_st]
    split
    · rename_i h
      rcases stS_sgn l V e l.sizes.length with h1 | ⟨h1, h2, h3, h4, h5⟩
      · rw [h1] at h; simp at h
      · exact .inr ⟨e, .inl rfl, h1, h2, rfl, h4⟩
    · exact .inl ⟨rfl, rfl⟩
  | m + 1 => by
    unfold posS
    split
    · rename_i hq
      rw [grp_st]
      split
      · rename_i h
        rcases stS_sgn l V (atP l e (m + 1)) l.sizes.length with h1 | ⟨h1, h2, h3, h4, h5⟩
        · rw [h1] at h; simp at h
        · exact .inr ⟨_, .inr ⟨m + 1, by omega, rfl, hq⟩, h1, h2, rfl, h4⟩
      · exact posS_sgn l V e m
    · exact posS_sgn l V e m
end Go.Proofs.YtkhljpbkebnnmaaDoor.Cu
