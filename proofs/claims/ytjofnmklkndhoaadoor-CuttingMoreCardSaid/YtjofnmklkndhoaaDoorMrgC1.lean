/- CutF CutG CutH CutI CutJ: texts laid together. -/
import Derived.Test.YtjofnmklkndhoaaDoorMrgC0
set_option maxRecDepth 100000
set_option maxHeartbeats 64000000
/- Walks of cutting: Value in both. -/
namespace Go.Proofs.YtjofnmklkndhoaaDoor.Cu
set_option linter.unusedVariables false
set_option linter.unusedSimpArgs false
open Go.RowKit Go.Proofs.YtjofnmklkndhoaaDoor.Ev
variable {gl : List (Nat × List CV)}
theorem valS_err {l : Line} {p : List Piece} {e : Int} {D C : List Span} (h : cutsS l p = (e, D, C)) (he : ¬ e = 0) : valS l p = (0, e) := by
  unfold valS; rw [h]; rw [if_pos he]
theorem valS_ok {l : Line} {p : List Piece} {D C : List Span} (h : cutsS l p = (0, D, C)) : valS l p = (sumSp l.dust D + sumSp l.chip C + gsum l p, 0) := by
  unfold valS; rw [h]; rw [if_neg (by simp)]
theorem cutsS_ok {l : Line} {p : List Piece} {D C : List Span} (h : cutsS l p = (0, D, C)) : chk l = 0 ∧ cutsGo l p 0 [] [] = (0, D, C) := by
  unfold cutsS at h
  split at h
  · rename_i hc
    simp only [Prod.mk.injEq] at h
    exact absurd h.1 hc
  · rename_i hc
    exact ⟨by simpa using hc, h⟩
structure Good (l : Line) (p : List Piece) (D C : List Span) : Prop where
  v : Valid l
  d : SpsOk l.dust.length D
  c : SpsOk l.chip.length C
  bd : Bd l.dust
  bc : Bd l.chip
  ld : l.dust.length ≤ 2000
  lc : l.chip.length ≤ 2000
  nd : D.length ≤ 2000
  nc : C.length ≤ 2000
  sd : -1125899906842624 * 2000 ≤ sumSp l.dust D ∧ sumSp l.dust D ≤ 1125899906842624 * 2000
  sc : -1125899906842624 * 2000 ≤ sumSp l.chip C ∧ sumSp l.chip C ≤ 1125899906842624 * 2000
  np : p.length ≤ 2000
  pm : ∀ x ∈ p, ∃ e, perm l e x = 0
theorem sumSp_le {l : List Int} (hb : Bd l) {ss : List Span} (h : SpsOk l.length ss) (ht : 0 ≤ tot ss) (h2 : tot ss ≤ 2000) : -1125899906842624 * 2000 ≤ sumSp l ss ∧ sumSp l ss ≤ 1125899906842624 * 2000 := by
  have := sumSp_bd hb h ss.length (Nat.le_refl _)
  rw [List.take_length] at this
  omega
theorem good_of {l : Line} {p : List Piece} {D C : List Span} (h : cutsS l p = (0, D, C)) : Good l p D C := by
  obtain ⟨hc, hg⟩ := cutsS_ok h
  have v := valid_of hc
  obtain ⟨h1, h2, h3, h4⟩ := cuts_ok v hg
  have t1 := tot_nn h1
  have t2 := tot_nn h2
  have hl := v.len
  have hd := v.dust
  have hch := v.chip
  have e1 : SpsOk l.dust.length D := sps_of (by rw [hd]; exact h1) (by omega)
  have e2 : SpsOk l.chip.length C := sps_of (by rw [hch]; exact h2) (by omega)
  exact ⟨v, e1, e2, v.dusts, v.chips, by omega, by omega, by omega, by omega, sumSp_le v.dusts e1 (by omega) (by omega), sumSp_le v.chips e2 (by omega) (by omega), by omega, h4⟩
theorem value_con (l : Line) (p : List Piece) (hp : p.length ≤ 100000) : Con Tryd.prog gl 17 [lineC l, LP p] (valC (valS l p)) := by
  have hcc := cuts_con (gl := gl) l p hp
  generalize hcs : cutsS l p = cs at hcc
  obtain ⟨e, D, C⟩ := cs
  have hcc' : Con Tryd.prog gl 15 [lineC l, LP p] (.tup [LS D, LS C, I e]) := hcc
  refine con_of Tryd.func17 rfl (by kernel_rfl) rfl ?_
  simp only [Tryd.ntmps17, Tryd.results17, argEnv, ofC, of1, List.map, lineC, lineL]
  by_cases he : e = 0
  · subst he
    have g := good_of hcs
    have gd := g.sd
    have gc := g.sc
    rw [valS_ok hcs]
    repeat' (first
 | ((with_reducible apply r_call); exact rfl; exact rfl; exact hcc'; exact rfl; exact rfl)
 | ((with_reducible apply r_call); exact rfl; exact rfl; (first | exact total_con l.dust g.bd D g.d (by have := g.ld; omega) (by have := g.nd; omega) | exact total_con l.chip g.bc C g.c (by have := g.lc; omega) (by have := g.nc; omega)); exact rfl; exact rfl)
 | ((with_reducible apply aw_seq))
 | ((with_reducible apply aw_region))
 | ((with_reducible apply aw_block))
 | ((with_reducible apply thn_normal))
 | ((with_reducible apply aw_skip))
 | ((with_reducible apply ao_nil))
 | ((with_reducible apply r_move); exact rfl; exact rfl)
 | ((with_reducible apply r_assign); exact rfl; exact rfl)
 | ((with_reducible apply r_field_p); exact rfl; exact rfl)
 | ((with_reducible apply r_load_p); exact rfl; exact rfl; exact rfl; exact rfl)
 | ((with_reducible apply r_load_pa); exact rfl; exact rfl; exact rfl; exact rfl; exact rfl)
 | ((with_reducible apply r_neq); exact rfl; exact rfl; exact rfl)
 | ((with_reducible apply r_add); exact rfl; exact rfl; exact (by first | assumption | (unfold fits; omega)); exact rfl)
 | ((with_reducible apply r_box_a); exact rfl; exact rfl)
 | ((with_reducible apply r_len_f); exact rfl; exact inferInstance; exact rfl)
 | ((with_reducible apply r_extract); exact rfl; exact rfl; exact rfl)
 | (((with_reducible apply aw_cond); exact rfl) <;> intro hg <;> (first | (exact absurd hg (by decide)) | ((try simp only [decide_eq_true_eq, decide_eq_false_iff_not, Bool.not_eq_true', Bool.not_eq_false', Bool.not_true, Bool.not_false, Bool.not_not, Int.not_lt, Int.not_le, Nat.not_lt, Nat.not_le, gt_iff_lt, ge_iff_le, List.cons.injEq, and_true] at hg); first | (exact absurd trivial hg) | (exfalso; omega) | (have hT : True := hg; clear hT hg) | skip)))
 | (refine aw_drawq ?_ ?_; (kernel_rfl))
 | ((with_reducible apply ds_nil))
 )
    refine aw_loopG (G := Nat × Int) (fun ((j, t) : Nat × Int) => j ≤ p.length ∧ t = sumSp l.dust D + sumSp l.chip C + gsum l (p.take j)) (fun ((j, t) : Nat × Int) => p.length - j) (fun ((j, t) : Nat × Int) => [(2, .ptr 0 0), (9, A t), (31, .c (LP p)), (32, A p.length), (33, A j)]) (fun ((j, t) : Nat × Int) => [(0, some (lineB l))]) 1 (0, sumSp l.dust D + sumSp l.chip C) ?_ (by refine weak_mk rfl ?_ ?_ <;> repeat (first | exact envW_nil | exact heapW_nil | refine envW_cons rfl rfl ?_ | refine heapW_cons rfl rfl rfl ?_)) rfl ?_
    · exact ⟨Nat.zero_le _, by simp [gsum]⟩
    rintro ⟨j, t⟩ hI
    try dsimp only at hI
    try dsimp only
    obtain ⟨hj, ht⟩ := hI
    by_cases hjl : j < p.length
    · obtain ⟨e', hpm⟩ := g.pm p[j] (List.getElem_mem hjl)
      obtain ⟨q1, q2, h1, h2, h3, h4, h5, h6, h7, h8, h9⟩ := piece_ok g.v (s := p[j].1) (p := p[j].2) hpm
      have hgs := gsum_succ l p j hjl
      have hgb := gsum_bd g.v g.pm j hj
      have hnp := g.np
      repeat' (first
 | ((with_reducible apply aw_seq))
 | ((with_reducible apply aw_region))
 | ((with_reducible apply aw_block))
 | ((with_reducible apply thn_normal))
 | ((with_reducible apply inb_normal))
 | ((with_reducible apply aw_skip))
 | ((with_reducible apply ao_nil))
 | ((with_reducible apply r_move); exact rfl; exact rfl)
 | ((with_reducible apply r_assign); exact rfl; exact rfl)
 | ((with_reducible apply r_field_p); exact rfl; exact rfl)
 | ((with_reducible apply r_load_p); exact rfl; exact rfl; exact rfl; exact rfl)
 | ((with_reducible apply r_lss); exact rfl; exact rfl; exact rfl)
 | ((with_reducible apply r_add); exact rfl; exact rfl; exact (by first | assumption | (unfold fits; omega)); exact rfl)
 | ((with_reducible apply r_index_f); exact rfl; exact inferInstance; exact rfl; exact rfl; (first | assumption | omega); exact rfl)
 | ((with_reducible apply r_index_f); exact rfl; exact inferInstance; exact rfl; exact (Int.toNat_of_nonneg (by omega)).symm; (first | assumption | omega); exact rfl)
 | ((with_reducible apply r_load_f0); exact rfl; exact inferInstance; exact List.getElem?_eq_getElem (by first | assumption | omega); exact rfl; exact rfl)
 | ((with_reducible apply r_load_fa0); exact rfl; exact inferInstance; exact List.getElem?_eq_getElem (by first | assumption | omega); exact rfl; exact rfl; exact rfl)
 | ((with_reducible apply r_store_pa); exact rfl; exact rfl; exact rfl; exact rfl; exact rfl; exact rfl)
 | ((with_reducible apply r_alloc); exact rfl)
 | (((with_reducible apply aw_cond); exact rfl) <;> intro hg <;> (first | (exact absurd hg (by decide)) | ((try simp only [decide_eq_true_eq, decide_eq_false_iff_not, Bool.not_eq_true', Bool.not_eq_false', Bool.not_true, Bool.not_false, Bool.not_not, Int.not_lt, Int.not_le, Nat.not_lt, Nat.not_le, gt_iff_lt, ge_iff_le, List.cons.injEq, and_true] at hg); first | (exact absurd trivial hg) | (exfalso; omega) | (have hT : True := hg; clear hT hg) | skip)))
 | (refine aw_drawq ?_ ?_; (kernel_rfl))
 | ((with_reducible apply ds_nil))
 )
      refine ⟨(j + 1, t + l.gain[p[j].1.toNat][p[j].2.toNat]), ?_, ?_, by refine weak_mk rfl ?_ ?_ <;> repeat (first | exact envW_nil | exact heapW_nil | refine envW_cons rfl rfl ?_ | refine heapW_cons rfl rfl rfl ?_)⟩
      · show _ - (j + 1) < _ - j; omega
      · exact ⟨by show j + 1 ≤ _; omega, by show _ = _ + gsum l (p.take (j + 1)); rw [hgs, ht, h4]; omega⟩
    · skip
      repeat' (first
 | ((with_reducible apply aw_seq))
 | ((with_reducible apply aw_region))
 | ((with_reducible apply thn_normal))
 | ((with_reducible apply thn_exit))
 | ((with_reducible apply inb_exit))
 | ((with_reducible apply aw_exit))
 | ((with_reducible apply aw_ret))
 | ((with_reducible apply ao_nil))
 | ((with_reducible apply r_move); exact rfl; exact rfl)
 | ((with_reducible apply r_assign); exact rfl; exact rfl)
 | ((with_reducible apply r_lss); exact rfl; exact rfl; exact rfl)
 | (((with_reducible apply aw_cond); exact rfl) <;> intro hg <;> (first | (exact absurd hg (by decide)) | ((try simp only [decide_eq_true_eq, decide_eq_false_iff_not, Bool.not_eq_true', Bool.not_eq_false', Bool.not_true, Bool.not_false, Bool.not_not, Int.not_lt, Int.not_le, Nat.not_lt, Nat.not_le, gt_iff_lt, ge_iff_le, List.cons.injEq, and_true] at hg); first | (exact absurd trivial hg) | (exfalso; omega) | (have hT : True := hg; clear hT hg) | skip)))
 )
      exact ret2 (.cons (.tmp rfl (by rw [ht, List.take_of_length_le (by omega)]; exact cl_c)) (.cons (.tmp rfl cl_c) .nil))
  · rw [valS_err hcs he]
    repeat' (first
 | ((with_reducible apply r_call); exact rfl; exact rfl; exact hcc'; exact rfl; exact rfl)
 | ((with_reducible apply aw_seq))
 | ((with_reducible apply aw_region))
 | ((with_reducible apply thn_normal))
 | ((with_reducible apply thn_ret))
 | ((with_reducible apply aw_ret))
 | ((with_reducible apply ao_nil))
 | ((with_reducible apply r_move); exact rfl; exact rfl)
 | ((with_reducible apply r_assign); exact rfl; exact rfl)
 | ((with_reducible apply r_load_pa); exact rfl; exact rfl; exact rfl; exact rfl; exact rfl)
 | ((with_reducible apply r_neq); exact rfl; exact rfl; exact rfl)
 | ((with_reducible apply r_box_a); exact rfl; exact rfl)
 | ((with_reducible apply r_extract); exact rfl; exact rfl; exact rfl)
 | (((with_reducible apply aw_cond); exact rfl) <;> intro hg <;> (first | (exact absurd hg (by decide)) | ((try simp only [decide_eq_true_eq, decide_eq_false_iff_not, Bool.not_eq_true', Bool.not_eq_false', Bool.not_true, Bool.not_false, Bool.not_not, Int.not_lt, Int.not_le, Nat.not_lt, Nat.not_le, gt_iff_lt, ge_iff_le, List.cons.injEq, and_true] at hg); first | (exact absurd trivial hg) | (exfalso; omega) | (have hT : True := hg; clear hT hg) | skip)))
 )
    exact ret2 (.cons (.tmp rfl cl_c) (.cons (.tmp rfl cl_c) .nil))
end Go.Proofs.YtjofnmklkndhoaaDoor.Cu
/- Walks of cutting: the functions that compare, on equal things. -/
namespace Go.Proofs.YtjofnmklkndhoaaDoor.Cu
set_option linter.unusedVariables false
set_option linter.unusedSimpArgs false
open Go.RowKit Go.Proofs.YtjofnmklkndhoaaDoor.Ev
variable {gl : List (Nat × List CV)}
abbrev T : CV := .v (.bool true)
end Go.Proofs.YtjofnmklkndhoaaDoor.Cu
/- Walks of cutting: the sums from the left, in both. -/
namespace Go.Proofs.YtjofnmklkndhoaaDoor.Cu
set_option linter.unusedVariables false
set_option linter.unusedSimpArgs false
open Go.RowKit Go.Proofs.YtjofnmklkndhoaaDoor.Ev
variable {gl : List (Nat × List CV)}
def sumsS (l : List Int) : List Int := (List.range (l.length + 1)).map (pre l)
@[simp] theorem sumsS_len (l : List Int) : (sumsS l).length = l.length + 1 := by simp [sumsS]
theorem sumsS_get (l : List Int) (k : Nat) (h : k < (sumsS l).length) : (sumsS l)[k] = pre l k := by simp [sumsS]
theorem sumsS_of {l s : List Int} (hn : s.length = l.length + 1) (h : ∀ i (hi : i < s.length), s[i] = pre l i) : s = sumsS l := by
  refine List.ext_getElem (by simp [hn]) (fun i h1 h2 => ?_)
  rw [h i h1, sumsS_get]
theorem pre_le {l : List Int} (hb : Bd l) (hn : l.length ≤ 2000) {k : Nat} (hk : k ≤ l.length) : -1125899906842624 * 2000 ≤ pre l k ∧ pre l k ≤ 1125899906842624 * 2000 := by
  have := pre_bd hb 0 k (by omega)
  rw [Nat.zero_add, show pre l 0 = 0 from rfl] at this
  omega
theorem sums_con (l : List Int) (hb : Bd l) (hn : l.length ≤ 2000) : Con Tryd.prog gl 47 [LI l] (LI (sumsS l)) := by
  refine con_of Tryd.func47 rfl (by kernel_rfl) rfl ?_
  simp only [Tryd.ntmps47, Tryd.results47, argEnv, ofC, of1, List.map]
  repeat' (first
 | ((with_reducible apply r_make (enc := inC) (0 : Int) (l.length + 1)); exact inferInstance; exact rfl; exact rfl; exact rfl; exact rfl; exact rfl; omega; omega; exact rfl)
 | ((with_reducible apply aw_seq))
 | ((with_reducible apply aw_region))
 | ((with_reducible apply aw_block))
 | ((with_reducible apply thn_normal))
 | ((with_reducible apply ao_nil))
 | ((with_reducible apply r_move); exact rfl; exact rfl)
 | ((with_reducible apply r_assign); exact rfl; exact rfl)
 | ((with_reducible apply r_add); exact rfl; exact rfl; exact (by first | assumption | (unfold fits; omega)); exact rfl)
 | ((with_reducible apply r_len_f); exact rfl; exact inferInstance; exact rfl)
 )
  refine aw_loopG (G := Nat × List Int) (fun ((j, s) : Nat × List Int) => j ≤ l.length ∧ s.length = l.length + 1 ∧ ∀ i (h : i < s.length), i ≤ j → s[i] = pre l i) (fun ((j, s) : Nat × List Int) => l.length - j) (fun ((j, s) : Nat × List Int) => [(3, .vec 0 (l.length + 1)), (10, .c (LI l)), (11, A l.length), (12, A j)]) (fun ((j, s) : Nat × List Int) => [(0, some (.vec 3 1 (s.flatMap inC)))]) 1 (0, List.replicate (l.length + 1) 0) ?_ (by refine weak_mk rfl ?_ ?_ <;> repeat (first | exact envW_nil | exact heapW_nil | refine envW_cons rfl rfl ?_ | refine heapW_cons rfl rfl rfl ?_)) rfl ?_
  · refine ⟨Nat.zero_le _, by simp, fun i h hi => ?_⟩
    obtain rfl : i = 0 := Nat.le_zero.1 hi
    simp [pre]
  rintro ⟨j, s⟩ hI
  try dsimp only at hI
  try dsimp only
  obtain ⟨hj, hs, hall⟩ := hI
  by_cases hjl : j < l.length
  · have h1 := hall j (by omega) (Nat.le_refl _)
    have h2 := pre_le hb hn hj
    have h3 := hb j hjl
    have h4 := pre_succ l j hjl
    repeat' (first
 | ((with_reducible apply r_store_v (enc := inC) (s[j] + l[j])); exact rfl; exact rfl; exact inferInstance; (first | exact rfl | assumption); (first | assumption | omega); exact rfl; exact rfl; exact rfl; exact rfl)
 | ((with_reducible apply aw_seq))
 | ((with_reducible apply aw_region))
 | ((with_reducible apply aw_block))
 | ((with_reducible apply thn_normal))
 | ((with_reducible apply inb_normal))
 | ((with_reducible apply aw_skip))
 | ((with_reducible apply ao_nil))
 | ((with_reducible apply r_move); exact rfl; exact rfl)
 | ((with_reducible apply r_assign); exact rfl; exact rfl)
 | ((with_reducible apply r_lss); exact rfl; exact rfl; exact rfl)
 | ((with_reducible apply r_add); exact rfl; exact rfl; exact (by first | assumption | (unfold fits; omega)); exact rfl)
 | ((with_reducible apply r_index_f); exact rfl; exact inferInstance; exact rfl; exact rfl; (first | assumption | omega); exact rfl)
 | ((with_reducible apply r_load_f0); exact rfl; exact inferInstance; exact List.getElem?_eq_getElem (by first | assumption | omega); exact rfl; exact rfl)
 | ((with_reducible apply r_index_vf); exact rfl; exact rfl; exact inferInstance; (first | exact rfl | assumption | omega); exact rfl; exact rfl; (first | assumption | omega); exact rfl)
 | ((with_reducible apply r_index_vf); exact rfl; exact rfl; exact inferInstance; (first | exact rfl | assumption | omega); exact rfl; exact (Int.toNat_of_nonneg (by omega)).symm; (first | assumption | omega); exact rfl)
 | ((with_reducible apply r_load_vf0); exact rfl; exact rfl; exact inferInstance; (first | exact rfl | assumption | omega); exact List.getElem?_eq_getElem (by first | assumption | omega); exact rfl; exact rfl)
 | (((with_reducible apply aw_cond); exact rfl) <;> intro hg <;> (first | (exact absurd hg (by decide)) | ((try simp only [decide_eq_true_eq, decide_eq_false_iff_not, Bool.not_eq_true', Bool.not_eq_false', Bool.not_true, Bool.not_false, Bool.not_not, Int.not_lt, Int.not_le, Nat.not_lt, Nat.not_le, gt_iff_lt, ge_iff_le, List.cons.injEq, and_true] at hg); first | (exact absurd trivial hg) | (exfalso; omega) | (have hT : True := hg; clear hT hg) | skip)))
 )
    refine ⟨(j + 1, s.set (j + 1) (s[j] + l[j])), ?_, ?_, by refine weak_mk rfl ?_ ?_ <;> repeat (first | exact envW_nil | exact heapW_nil | refine envW_cons rfl rfl ?_ | refine heapW_cons rfl rfl rfl ?_)⟩
    · show _ - (j + 1) < _ - j; omega
    · refine ⟨by show j + 1 ≤ _; omega, by simp [hs], fun i h hi => ?_⟩
      by_cases e : i = j + 1
      · subst e; rw [List.getElem_set_self, h1, h4]
      · rw [List.getElem_set_ne (by omega)]
        exact hall i (by simpa using h) (by have : i ≤ j + 1 := hi; omega)
  · skip
    repeat' (first
 | ((with_reducible apply aw_seq))
 | ((with_reducible apply aw_region))
 | ((with_reducible apply thn_normal))
 | ((with_reducible apply thn_exit))
 | ((with_reducible apply inb_exit))
 | ((with_reducible apply aw_exit))
 | ((with_reducible apply aw_ret))
 | ((with_reducible apply ao_nil))
 | ((with_reducible apply r_move); exact rfl; exact rfl)
 | ((with_reducible apply r_assign); exact rfl; exact rfl)
 | ((with_reducible apply r_lss); exact rfl; exact rfl; exact rfl)
 | (((with_reducible apply aw_cond); exact rfl) <;> intro hg <;> (first | (exact absurd hg (by decide)) | ((try simp only [decide_eq_true_eq, decide_eq_false_iff_not, Bool.not_eq_true', Bool.not_eq_false', Bool.not_true, Bool.not_false, Bool.not_not, Int.not_lt, Int.not_le, Nat.not_lt, Nat.not_le, gt_iff_lt, ge_iff_le, List.cons.injEq, and_true] at hg); first | (exact absurd trivial hg) | (exfalso; omega) | (have hT : True := hg; clear hT hg) | skip)))
 )
    have : s = sumsS l := sumsS_of hs (fun i hi => hall i hi (by omega))
    rw [← this]
    exact ret1 (.tmp rfl (cl_vec rfl (by rw [flat_len EncL.len, hs])))
end Go.Proofs.YtjofnmklkndhoaaDoor.Cu
/- The best pieces, in plain Lean: no program here. -/
namespace Go.Proofs.YtjofnmklkndhoaaDoor.Cu
set_option linter.unusedVariables false
set_option linter.unusedSimpArgs false
open Go.RowKit Go.Proofs.YtjofnmklkndhoaaDoor.Ev
abbrev Ch := Int × Int × Int
def dp (l : Line) (k : Int) : Int := pre l.dust k.toNat
def cp (l : Line) (k : Int) : Int := pre l.chip k.toNat
def OkP (l : Line) (i : Nat) (p : Int) : Prop := p + szOf l i ≤ l.len ∧ 0 ≤ gOf l i p
instance (l : Line) (i : Nat) (p : Int) : Decidable (OkP l i p) := by unfold OkP; infer_instance
def candV (l : Line) (V : Int → Int) (i : Nat) (p : Int) : Int :=
  gOf l i p + (if 0 ≤ behindS l (p + szOf l i) then dp l (behindS l (p + szOf l i)) - dp l (p + szOf l i) + V (behindS l (p + szOf l i)) else 0)
def stS (l : Line) (V : Int → Int) (p : Int) : Nat → Ch
  | 0 => (-1, -1, 0)
  | k + 1 => if OkP l k p ∧ ((stS l V p k).1 < 0 ∨ (stS l V p k).2.2 < candV l V k p) then ((k : Int), p, candV l V k p) else stS l V p k
def grp (l : Line) (V : Int → Int) (paid p : Int) : Nat → Ch → Ch
  | 0, b => b
  | k + 1, b => if OkP l k p ∧ (grp l V paid p k b).2.2 < paid + candV l V k p then ((k : Int), p, paid + candV l V k p) else grp l V paid p k b
def atP (l : Line) (e : Int) (m : Nat) : Int := e + m * l.pitch + l.kerf
def paidP (l : Line) (e q : Int) : Int := cp l (q - l.kerf) - cp l e + dp l q - dp l (q - l.kerf)
def posS (l : Line) (V : Int → Int) (e : Int) : Nat → Ch
  | 0 => grp l V 0 e l.sizes.length (-1, -1, cp l l.len - cp l e)
  | m + 1 => if atP l e (m + 1) ≤ l.len then grp l V (paidP l e (atP l e (m + 1))) (atP l e (m + 1)) l.sizes.length (posS l V e m) else posS l V e m
def chooseS (l : Line) (V : Int → Int) (e : Int) : Ch := posS l V e l.len.toNat
def Tb (l : Line) : Nat → Int → Ch
  | 0, _ => (-1, -1, 0)
  | n + 1, e => chooseS l (fun e' => (Tb l n e').2.2) e
def TT (l : Line) (e : Int) : Ch := Tb l (l.len.toNat + 1) e
def TV (l : Line) (e : Int) : Int := (TT l e).2.2
theorem atP_succ (l : Line) (e : Int) (m : Nat) : atP l e (m + 1) = atP l e m + l.pitch := by
  unfold atP
  rw [show ((m + 1 : Nat) : Int) = (m : Int) + 1 by omega, Int.add_mul]; omega
theorem atP_ge {l : Line} (v : Valid l) (e : Int) : ∀ m : Nat, e + l.kerf + m ≤ atP l e m
  | 0 => by unfold atP; omega
  | m + 1 => by
    have := atP_ge v e m
    have := v.pitch
    rw [atP_succ]; omega
theorem stS_sgn (l : Line) (V : Int → Int) (p : Int) : ∀ k, stS l V p k = (-1, -1, 0) ∨ (0 ≤ (stS l V p k).1 ∧ (stS l V p k).1 < k ∧ (stS l V p k).2.1 = p ∧ OkP l (stS l V p k).1.toNat p ∧ (stS l V p k).2.2 = candV l V (stS l V p k).1.toNat p)
  | 0 => .inl rfl
  | k + 1 => by
    unfold stS
    split
    · rename_i h
      exact .inr ⟨by simp, by simp; omega, rfl, by simpa using h.1, by simp⟩
    · rcases stS_sgn l V p k with h | ⟨h1, h2, h3⟩
      · exact .inl h
      · exact .inr ⟨h1, by omega, h3⟩
theorem grp_st (l : Line) (V : Int → Int) (paid p : Int) (b : Ch) : ∀ k, grp l V paid p k b = if 0 ≤ (stS l V p k).1 ∧ b.2.2 < (stS l V p k).2.2 + paid then ((stS l V p k).1, p, (stS l V p k).2.2 + paid) else b
  | 0 => by simp [grp, stS]
  | k + 1 => by
    unfold grp stS
    rw [grp_st l V paid p b k]
    have hs := stS_sgn l V p k
    generalize stS l V p k = s at *
    generalize candV l V k p = c at *
    by_cases ho : OkP l k p
    · simp only [ho, true_and]
      by_cases h2 : s.1 < 0 ∨ s.2.2 < c
      · rw [if_pos h2]
        dsimp only
        by_cases h1 : 0 ≤ s.1 ∧ b.2.2 < s.2.2 + paid
        · rw [if_pos h1, if_pos (by show s.2.2 + paid < paid + c; omega), if_pos (by omega), Int.add_comm]
        · rw [if_neg h1]
          by_cases h3 : b.2.2 < paid + c
          · rw [if_pos h3, if_pos (by omega), Int.add_comm]
          · rw [if_neg h3, if_neg (by omega)]
      · rw [if_neg h2]
        by_cases h1 : 0 ≤ s.1 ∧ b.2.2 < s.2.2 + paid
        · rw [if_pos h1, if_neg (by show ¬ s.2.2 + paid < paid + c; omega)]
        · rw [if_neg h1, if_neg (by omega)]
    · simp only [ho, false_and, if_false]
theorem posS_succ (l : Line) (V : Int → Int) (e : Int) (m : Nat) : posS l V e (m + 1) = if atP l e (m + 1) ≤ l.len then grp l V (paidP l e (atP l e (m + 1))) (atP l e (m + 1)) l.sizes.length (posS l V e m) else posS l V e m := rfl
theorem posS_stop {l : Line} (v : Valid l) (V : Int → Int) (e : Int) {m : Nat} (h : l.len < atP l e (m + 1)) : ∀ k, posS l V e (m + k) = posS l V e m
  | 0 => rfl
  | k + 1 => by
    have hm : ∀ j : Nat, atP l e (m + 1) ≤ atP l e (m + 1 + j) := by
      intro j
      induction j with
      | zero => exact Int.le_refl _
      | succ j ih => have := v.pitch; rw [show m + 1 + (j + 1) = (m + 1 + j) + 1 by omega, atP_succ l e (m + 1 + j)]; omega
    have := hm k
    rw [show m + (k + 1) = (m + k) + 1 by omega, posS_succ, if_neg (by rw [show m + k + 1 = m + 1 + k by omega]; omega)]
    exact posS_stop v V e h k
theorem posS_end {l : Line} (v : Valid l) (V : Int → Int) {e : Int} (he : 0 ≤ e) {m : Nat} (h : l.len < atP l e (m + 1)) : posS l V e m = chooseS l V e := by
  have h2 : l.len < atP l e (l.len.toNat + 1) := by
    have := atP_ge v e (l.len.toNat + 1)
    have := v.kerf; have := v.len
    omega
  unfold chooseS
  rw [← posS_stop v V e h l.len.toNat, ← posS_stop v V e h2 m, Nat.add_comm]
theorem beh_cases {l : Line} (v : Valid l) {q : Int} (h0 : 0 ≤ q) (h1 : q ≤ l.len) : (q = l.len ∧ behindS l q = -1) ∨ (q < l.len ∧ q ≤ behindS l q ∧ behindS l q ≤ l.len ∧ behindS l q = min (q + l.kerf) l.len) := by
  unfold behindS
  have := v.kerf
  by_cases hc : q = l.len
  · exact .inl ⟨hc, if_pos hc⟩
  · rw [if_neg hc]; exact .inr ⟨by omega, by omega, by omega, rfl⟩
theorem sz_pos {l : Line} (v : Valid l) {i : Nat} (h : i < l.sizes.length) : 1 ≤ szOf l i := by
  rw [szOf_nat h]; exact (v.size i h).1
theorem candV_congr {l : Line} (v : Valid l) {V V' : Int → Int} {e p : Int} (he : 0 ≤ e) (hp : e ≤ p) (h : ∀ x, e < x → x ≤ l.len → V x = V' x) {i : Nat} (hi : i < l.sizes.length) (ho : OkP l i p) : candV l V i p = candV l V' i p := by
  have hs := sz_pos v hi
  unfold candV
  rcases beh_cases v (q := p + szOf l i) (by omega) ho.1 with ⟨_, hb⟩ | ⟨_, h1, h2, _⟩
  · rw [hb]; simp
  · rw [h _ (by omega) h2]
theorem stS_congr {l : Line} (v : Valid l) {V V' : Int → Int} {e p : Int} (he : 0 ≤ e) (hp : e ≤ p) (h : ∀ x, e < x → x ≤ l.len → V x = V' x) : ∀ k, k ≤ l.sizes.length → stS l V p k = stS l V' p k
  | 0, _ => rfl
  | k + 1, hk => by
    unfold stS
    rw [stS_congr v he hp h k (by omega)]
    by_cases ho : OkP l k p
    · rw [candV_congr v he hp h (by omega) ho]
    · rw [if_neg (fun hh => ho hh.1), if_neg (fun hh => ho hh.1)]
theorem grp_congr {l : Line} (v : Valid l) {V V' : Int → Int} {e p : Int} (he : 0 ≤ e) (hp : e ≤ p) (h : ∀ x, e < x → x ≤ l.len → V x = V' x) (paid : Int) (b : Ch) : grp l V paid p l.sizes.length b = grp l V' paid p l.sizes.length b := by
  rw [grp_st, grp_st, stS_congr v he hp h _ (Nat.le_refl _)]
theorem posS_congr {l : Line} (v : Valid l) {V V' : Int → Int} {e : Int} (he : 0 ≤ e) (h : ∀ x, e < x → x ≤ l.len → V x = V' x) : ∀ m, posS l V e m = posS l V' e m
  | 0 => by unfold posS; exact grp_congr v he (Int.le_refl _) h _ _
  | m + 1 => by
    have := atP_ge v e (m + 1)
    have := v.kerf
    unfold posS
    rw [posS_congr v he h m, grp_congr v he (by omega) h]
theorem T_fuel {l : Line} (v : Valid l) : ∀ (n m : Nat) (e : Int), 0 ≤ e → e ≤ l.len → l.len - e < n → l.len - e < m → Tb l n e = Tb l m e
  | 0, _, e, _, _, _, _ => by omega
  | n + 1, 0, e, _, _, _, _ => by omega
  | n + 1, m + 1, e, h0, h1, h2, h3 => by
    unfold Tb chooseS
    exact posS_congr v h0 (fun x hx hx2 => by
      show (Tb l n x).2.2 = (Tb l m x).2.2
      rw [T_fuel v n m x (by omega) hx2 (by omega) (by omega)]) _
theorem TT_eq {l : Line} (v : Valid l) {e : Int} (h0 : 0 ≤ e) (h1 : e ≤ l.len) : TT l e = chooseS l (TV l) e := by
  unfold TT
  rw [T_fuel v (l.len.toNat + 1) (l.len.toNat + 1 + 1) e h0 h1 (by omega) (by omega)]
  rfl
def VB (l : Line) (V : Int → Int) (e : Int) : Prop := ∀ x, e < x → x ≤ l.len → -1125899906842624 * (l.len - x) ≤ V x ∧ V x ≤ 1125899906842624 * (l.len - x)
theorem gOf_bd {l : Line} (v : Valid l) {i : Nat} (hi : i < l.sizes.length) {p : Int} (h0 : 0 ≤ p) (h1 : p + szOf l i ≤ l.len) : -1125899906842624 ≤ gOf l i p ∧ gOf l i p ≤ 1125899906842624 := by
  rw [szOf_nat hi] at h1
  obtain ⟨j, rfl, h2, h3, h4⟩ := gOf_eq v hi h0 (by omega)
  rw [h4]; exact v.gains _ h2 _ h3
theorem dp_bd {l : Line} (v : Valid l) {a b : Int} (h0 : 0 ≤ a) (h1 : a ≤ b) (h2 : b ≤ l.len) : -1125899906842624 * (b - a) ≤ dp l b - dp l a ∧ dp l b - dp l a ≤ 1125899906842624 * (b - a) := by
  have hd := v.dust
  have := pre_bd' v.dusts a.toNat b.toNat (by omega) (by omega)
  unfold dp
  rw [show (a.toNat : Int) = a by omega, show (b.toNat : Int) = b by omega] at this
  exact this
theorem cp_bd {l : Line} (v : Valid l) {a b : Int} (h0 : 0 ≤ a) (h1 : a ≤ b) (h2 : b ≤ l.len) : -1125899906842624 * (b - a) ≤ cp l b - cp l a ∧ cp l b - cp l a ≤ 1125899906842624 * (b - a) := by
  have hd := v.chip
  have := pre_bd' v.chips a.toNat b.toNat (by omega) (by omega)
  unfold cp
  rw [show (a.toNat : Int) = a by omega, show (b.toNat : Int) = b by omega] at this
  exact this
theorem candV_bd {l : Line} (v : Valid l) {V : Int → Int} {e p : Int} (he : 0 ≤ e) (hp : e ≤ p) (h : VB l V e) {i : Nat} (hi : i < l.sizes.length) (ho : OkP l i p) : -1125899906842624 * (l.len - p) ≤ candV l V i p ∧ candV l V i p ≤ 1125899906842624 * (l.len - p) := by
  have hs := sz_pos v hi
  have hg := gOf_bd v hi (by omega) ho.1
  have ho1 := ho.1
  unfold candV
  rcases beh_cases v (q := p + szOf l i) (by omega) ho.1 with ⟨_, hb⟩ | ⟨_, h1, h2, _⟩
  · rw [hb, if_neg (by omega)]; omega
  · rw [if_pos (by omega)]
    have h3 := dp_bd v (by omega) h1 h2
    have h4 := h _ (by omega) h2
    omega
theorem stS_bd {l : Line} (v : Valid l) {V : Int → Int} {e p : Int} (he : 0 ≤ e) (hp : e ≤ p) (hpl : p ≤ l.len) (h : VB l V e) {k : Nat} (hk : k ≤ l.sizes.length) : -1125899906842624 * (l.len - p) ≤ (stS l V p k).2.2 ∧ (stS l V p k).2.2 ≤ 1125899906842624 * (l.len - p) := by
  rcases stS_sgn l V p k with h1 | ⟨h1, h2, h3, h4, h5⟩
  · rw [h1]; dsimp only; omega
  · rw [h5]; exact candV_bd v he hp h (by omega) h4
theorem paidP_bd {l : Line} (v : Valid l) {e q : Int} (he : 0 ≤ e) (h1 : e ≤ q - l.kerf) (h2 : q ≤ l.len) : -1125899906842624 * (q - e) ≤ paidP l e q ∧ paidP l e q ≤ 1125899906842624 * (q - e) := by
  have := v.kerf
  have a1 := cp_bd v he h1 (by omega)
  have a2 := dp_bd v (a := q - l.kerf) (b := q) (by omega) (by omega) h2
  unfold paidP
  omega
theorem posS_bd {l : Line} (v : Valid l) {V : Int → Int} {e : Int} (he : 0 ≤ e) (hel : e ≤ l.len) (h : VB l V e) : ∀ m, -1125899906842624 * (l.len - e) ≤ (posS l V e m).2.2 ∧ (posS l V e m).2.2 ≤ 1125899906842624 * (l.len - e)
  | 0 => by
    have := stS_bd v he (Int.le_refl _) hel h (Nat.le_refl _)
    have := cp_bd v he hel (Int.le_refl _)
    unfold posS
    rw [grp_st]
    split <;> dsimp only <;> omega
  | m + 1 => by
    have ih := posS_bd v he hel h m
    unfold posS
    split
    · rename_i hq
      have h1 := atP_ge v e (m + 1)
      have := v.kerf
      generalize atP l e (m + 1) = q at *
      have h2 := stS_bd v he (p := q) (by omega) hq h (Nat.le_refl _)
      have h3 := paidP_bd v he (q := q) (by omega) hq
      rw [grp_st]
      split
      · dsimp only; omega
      · exact ih
    · exact ih
theorem T_bd {l : Line} (v : Valid l) : ∀ (n : Nat) (e : Int), 0 ≤ e → e ≤ l.len → -1125899906842624 * (l.len - e) ≤ (Tb l n e).2.2 ∧ (Tb l n e).2.2 ≤ 1125899906842624 * (l.len - e)
  | 0, e, h0, h1 => by unfold Tb; dsimp only; omega
  | n + 1, e, h0, h1 => posS_bd v h0 h1 (fun x hx hx2 => T_bd v n x (by omega) hx2) _
theorem TV_bd {l : Line} (v : Valid l) {e : Int} (he : 0 ≤ e) : VB l (TV l) e := fun x hx hx2 => T_bd v _ x (by omega) hx2
theorem posS_sgn (l : Line) (V : Int → Int) (e : Int) : ∀ m, ((posS l V e m).1 = -1 ∧ (posS l V e m).2.1 = -1) ∨ ∃ q, (q = e ∨ ∃ j : Nat, 1 ≤ j ∧ q = atP l e j ∧ q ≤ l.len) ∧ 0 ≤ (posS l V e m).1 ∧ (posS l V e m).1 < l.sizes.length ∧ (posS l V e m).2.1 = q ∧ OkP l (posS l V e m).1.toNat q
  | 0 => by
    unfold posS
    rw [grp_st]
    split
    · rename_i h
      rcases stS_sgn l V e l.sizes.length with h1 | ⟨h1, h2, h3, h4, h5⟩
      · rw [h1] at h; simp at h
      · exact .inr ⟨e, .inl rfl, h1, h2, rfl, h4⟩
    · exact .inl ⟨rfl, rfl⟩
  | m + 1 => by
    unfold posS
    split
    · rename_i hq
      rw [grp_st]
      split
      · rename_i h
        rcases stS_sgn l V (atP l e (m + 1)) l.sizes.length with h1 | ⟨h1, h2, h3, h4, h5⟩
        · rw [h1] at h; simp at h
        · exact .inr ⟨_, .inr ⟨m + 1, by omega, rfl, hq⟩, h1, h2, rfl, h4⟩
      · exact posS_sgn l V e m
    · exact posS_sgn l V e m
end Go.Proofs.YtjofnmklkndhoaaDoor.Cu
/- Walks of cutting: the best piece that begins at a position. -/
namespace Go.Proofs.YtjofnmklkndhoaaDoor.Cu
set_option linter.unusedVariables false
set_option linter.unusedSimpArgs false
open Go.RowKit Go.Proofs.YtjofnmklkndhoaaDoor.Ev
abbrev G : List (Nat × List CV) := [(0, [I (-1), I (-1)])]
def chC (c : Ch) : List CV := [I c.1, I c.2.1, I c.2.2]
instance : EncL chC 3 := ⟨fun _ => rfl, by decide, fun _ => rfl⟩
abbrev LC (l : List Ch) : CV := .lst 3 (l.flatMap chC)
def VE (es : List Ch) (x : Int) : Int := (es.getD x.toNat (0, 0, 0)).2.2
theorem VE_get {es : List Ch} {k : Nat} (h : k < es.length) : es[k].2.2 = VE es k := by
  unfold VE; rw [Int.toNat_natCast, List.getD_eq_getElem?_getD, List.getElem?_eq_getElem h]; rfl
theorem VE_int {es : List Ch} {k : Int} (h0 : 0 ≤ k) (h : k.toNat < es.length) : es[k.toNat].2.2 = VE es k := by
  rw [VE_get h, Int.toNat_of_nonneg h0]
theorem dp_get {l : Line} {k : Int} (h : k.toNat < (sumsS l.dust).length) : (sumsS l.dust)[k.toNat] = dp l k := sumsS_get _ _ _
theorem cp_get {l : Line} {k : Int} (h : k.toNat < (sumsS l.chip).length) : (sumsS l.chip)[k.toNat] = cp l k := sumsS_get _ _ _
theorem gOf_get {l : Line} {k : Nat} {p : Int} (h : k < l.gain.length) (h2 : p.toNat < l.gain[k].length) : gOf l k p = l.gain[k][p.toNat] := by
  unfold gOf
  rw [Int.toNat_natCast, List.getD_eq_getElem?_getD, List.getD_eq_getElem?_getD, List.getElem?_eq_getElem h]
  simp only [Option.getD_some]
  rw [List.getElem?_eq_getElem h2]; rfl
theorem dp_le {l : Line} (v : Valid l) {k : Int} (h1 : k ≤ l.len) : -1125899906842624 * 2000 ≤ dp l k ∧ dp l k ≤ 1125899906842624 * 2000 := by
  have := v.len; have := v.dust
  exact pre_le v.dusts (by omega) (by omega)
theorem cp_le {l : Line} (v : Valid l) {k : Int} (h1 : k ≤ l.len) : -1125899906842624 * 2000 ≤ cp l k ∧ cp l k ≤ 1125899906842624 * 2000 := by
  have := v.len; have := v.chip
  exact pre_le v.chips (by omega) (by omega)
theorem st_no {l : Line} {V : Int → Int} {p : Int} {k : Nat} (h : ¬ OkP l k p) : stS l V p (k + 1) = stS l V p k := by
  show (if _ then _ else _) = _
  rw [if_neg (fun hh => h hh.1)]
theorem st_yes {l : Line} {V : Int → Int} {p c : Int} {k : Nat} (h : OkP l k p) (hc : candV l V k p = c) (hb : (stS l V p k).1 < 0 ∨ (stS l V p k).2.2 < c) : stS l V p (k + 1) = ((k : Int), p, c) := by
  show (if _ then _ else _) = _
  rw [hc, if_pos ⟨h, hb⟩]
theorem st_keep {l : Line} {V : Int → Int} {p c : Int} {k : Nat} (hc : candV l V k p = c) (hb : ¬ ((stS l V p k).1 < 0 ∨ (stS l V p k).2.2 < c)) : stS l V p (k + 1) = stS l V p k := by
  show (if _ then _ else _) = _
  rw [hc, if_neg (fun hh => hb hh.2)]
theorem start_con (l : Line) (v : Valid l) (p : Int) (hp0 : 0 ≤ p) (hp1 : p ≤ l.len) (es : List Ch) (hes : (es.length : Int) = l.len + 1) (hV : VB l (VE es) p) : Con Tryd.prog G 48 [lineC l, I p, LI (sumsS l.dust), LC es] (.agg [I (stS l (VE es) p l.sizes.length).1, I (stS l (VE es) p l.sizes.length).2.1, I (stS l (VE es) p l.sizes.length).2.2]) := by
  have hl := v.len
  have hlk := v.kerf
  have hld := v.dust
  have hsl := sumsS_len l.dust
  have hss := v.sizes
  refine con_of Tryd.func48 rfl (by kernel_rfl) rfl ?_
  simp only [Tryd.ntmps48, Tryd.results48, argEnv, ofC, of1, List.map, lineC, lineL]
  repeat' (first
 | ((with_reducible apply (r_load_ea (zs := [I (-1), I (-1)]) (ys := []))); exact rfl; exact rfl; exact rfl; exact rfl)
 | ((with_reducible apply aw_seq))
 | ((with_reducible apply aw_region))
 | ((with_reducible apply aw_block))
 | ((with_reducible apply thn_normal))
 | ((with_reducible apply ao_nil))
 | ((with_reducible apply r_move); exact rfl; exact rfl)
 | ((with_reducible apply r_field_p); exact rfl; exact rfl)
 | ((with_reducible apply r_load_p); exact rfl; exact rfl; exact rfl; exact rfl)
 | ((with_reducible apply r_box_a); exact rfl; exact rfl)
 | ((with_reducible apply r_len_f); exact rfl; exact inferInstance; exact rfl)
 | ((with_reducible apply r_store_pa); exact rfl; exact rfl; exact rfl; exact rfl; exact rfl; exact rfl)
 | ((with_reducible apply r_build); exact rfl; exact rfl; exact rfl)
 | ((with_reducible apply r_alloc); exact rfl)
 )
  refine aw_loopG (G := Nat × Ch) (fun ((k, b) : Nat × Ch) => k ≤ l.sizes.length ∧ b = stS l (VE es) p k) (fun ((k, b) : Nat × Ch) => l.sizes.length - k) (fun ((k, b) : Nat × Ch) => [(1, A p), (2, .c (LI (sumsS l.dust))), (3, .c (LC es)), (4, .ptr 0 0), (8, .ptr 1 0), (9, .ptr 2 0), (18, .c (LI l.sizes)), (19, A l.sizes.length), (20, A k)]) (fun ((k, b) : Nat × Ch) => [(0, some (lineB l)), (1, some (.cells 68 [A 0, A 0, A 0])), (2, some (.cells 68 [A b.1, A b.2.1, A b.2.2]))]) 3 (0, (-1, -1, 0)) ?_ (by refine weak_mk rfl ?_ ?_ <;> repeat (first | exact envW_nil | exact heapW_nil | refine envW_cons rfl rfl ?_ | refine heapW_cons rfl rfl rfl ?_)) rfl ?_
  · exact ⟨Nat.zero_le _, rfl⟩
  rintro ⟨k, b⟩ hI
  try dsimp only at hI
  try dsimp only
  obtain ⟨hk, hb⟩ := hI
  by_cases hkl : k < l.sizes.length
  · have hsk := v.size k hkl
    have hgk : k < l.gain.length := by have := v.gain; omega
    have hrow := v.row k hgk hkl
    have hsz := szOf_nat hkl
    have hbs := stS_bd v hp0 (Int.le_refl p) hp1 hV (Nat.le_of_lt hkl)
    have hsg := stS_sgn l (VE es) p k
    rw [← hb] at hbs hsg
    have hs2 : (b.1 = -1 ∧ b.2.1 = -1) ∨ 0 ≤ b.1 := by
      rcases hsg with h | h
      · left; rw [h]; exact ⟨rfl, rfl⟩
      · right; exact h.1
    by_cases ho1 : p + l.sizes[k] ≤ l.len
    · have hpl : p.toNat < l.gain[k].length := by omega
      have hgo := gOf_get hgk hpl
      have hgb := v.gains k hgk p.toNat hpl
      by_cases ho2 : 0 ≤ l.gain[k][p.toNat]
      · have hok : OkP l k p := ⟨by rw [hsz]; exact ho1, by rw [hgo]; exact ho2⟩
        have hcb := candV_bd v hp0 (Int.le_refl p) hV hkl hok
        have hcv : candV l (VE es) k p = candV l (VE es) k p := rfl
        conv at hcv => rhs; unfold candV
        rw [hsz, hgo] at hcv
        have hbc := behind_con (gl := G) l (p + l.sizes[k]) (by unfold fits; omega)
        have hbe := beh_cases v (q := p + l.sizes[k]) (by omega) ho1
        generalize behindS l (p + l.sizes[k]) = be at hbc hbe hcv
        rcases hbe with ⟨hq, hbe⟩ | ⟨hq, hb1, hb2, hb3⟩
        · rw [if_neg (by omega)] at hcv
          repeat' (first
 | ((with_reducible apply (r_load_ea (zs := [I (-1), I (-1)]) (ys := []))); exact rfl; exact rfl; exact rfl; exact rfl)
 | ((with_reducible apply r_call); exact rfl; exact rfl; exact hbc; exact rfl; exact rfl)
 | ((with_reducible apply aw_seq))
 | ((with_reducible apply aw_region))
 | ((with_reducible apply aw_block))
 | ((with_reducible apply thn_normal))
 | ((with_reducible apply inb_normal))
 | ((with_reducible apply aw_skip))
 | ((with_reducible apply ao_nil))
 | ((with_reducible apply r_move); exact rfl; exact rfl)
 | ((with_reducible apply r_assign); exact rfl; exact rfl)
 | ((with_reducible apply r_field_p); exact rfl; exact rfl)
 | ((with_reducible apply r_load_p); exact rfl; exact rfl; exact rfl; exact rfl)
 | ((with_reducible apply r_load_pa); exact rfl; exact rfl; exact rfl; exact rfl; exact rfl)
 | ((with_reducible apply r_lss); exact rfl; exact rfl; exact rfl)
 | ((with_reducible apply r_gtr); exact rfl; exact rfl; exact rfl)
 | ((with_reducible apply r_geq); exact rfl; exact rfl; exact rfl)
 | ((with_reducible apply r_add); exact rfl; exact rfl; exact (by first | assumption | (unfold fits; omega)); exact rfl)
 | ((with_reducible apply r_pick_t); exact rfl; exact rfl; exact rfl)
 | ((with_reducible apply r_pick_f); exact rfl; exact rfl; exact rfl)
 | ((with_reducible apply r_index_f); exact rfl; exact inferInstance; exact rfl; exact rfl; (first | assumption | omega); exact rfl)
 | ((with_reducible apply r_index_f); exact rfl; exact inferInstance; exact rfl; exact (Int.toNat_of_nonneg (by omega)).symm; (first | assumption | omega); exact rfl)
 | ((with_reducible apply r_load_f0); exact rfl; exact inferInstance; exact List.getElem?_eq_getElem (by first | assumption | omega); exact rfl; exact rfl)
 | ((with_reducible apply r_store_pa); exact rfl; exact rfl; exact rfl; exact rfl; exact rfl; exact rfl)
 | ((with_reducible apply r_build); exact rfl; exact rfl; exact rfl)
 | ((with_reducible apply r_alloc); exact rfl)
 | (((with_reducible apply r_guard); exact rfl; exact rfl; exact rfl; exact rfl) <;> intro hg <;> (first | (exact absurd hg (by decide)) | ((try simp only [decide_eq_true_eq, decide_eq_false_iff_not, Bool.not_eq_true', Bool.not_eq_false', Bool.not_true, Bool.not_false, Bool.not_not, Int.not_lt, Int.not_le, Nat.not_lt, Nat.not_le, gt_iff_lt, ge_iff_le, List.cons.injEq, and_true] at hg); first | (exact absurd trivial hg) | (exfalso; omega) | (have hT : True := hg; clear hT hg) | skip)))
 | (((with_reducible apply aw_cond); exact rfl) <;> intro hg <;> (first | (exact absurd hg (by decide)) | ((try simp only [decide_eq_true_eq, decide_eq_false_iff_not, Bool.not_eq_true', Bool.not_eq_false', Bool.not_true, Bool.not_false, Bool.not_not, Int.not_lt, Int.not_le, Nat.not_lt, Nat.not_le, gt_iff_lt, ge_iff_le, List.cons.injEq, and_true] at hg); first | (exact absurd trivial hg) | (exfalso; omega) | (have hT : True := hg; clear hT hg) | skip)))
 | ((with_reducible apply r_eqs); exact rfl; exact rfl; exact rfl; exact rfl; exact rfl; exact rfl; exact rfl)
 )
          · skip
            refine ⟨(k + 1, ((k : Int), p, l.gain[k][p.toNat])), ?_, ?_, by refine weak_mk rfl ?_ ?_ <;> repeat (first | exact envW_nil | exact heapW_nil | refine envW_cons rfl rfl ?_ | refine heapW_cons rfl rfl rfl ?_)⟩
            · show _ - (k + 1) < _ - k; omega
            · exact ⟨by show k + 1 ≤ _; omega, (st_yes hok (hcv.trans (by omega)) (by rw [← hb]; omega)).symm⟩
          · skip
            refine ⟨(k + 1, b), ?_, ?_, by refine weak_mk rfl ?_ ?_ <;> repeat (first | exact envW_nil | exact heapW_nil | refine envW_cons rfl rfl ?_ | refine heapW_cons rfl rfl rfl ?_)⟩
            · show _ - (k + 1) < _ - k; omega
            · exact ⟨by show k + 1 ≤ _; omega, by show b = _; rw [st_keep hcv (by rw [← hb]; omega)]; exact hb⟩
          · skip
            refine ⟨(k + 1, ((k : Int), p, l.gain[k][p.toNat])), ?_, ?_, by refine weak_mk rfl ?_ ?_ <;> repeat (first | exact envW_nil | exact heapW_nil | refine envW_cons rfl rfl ?_ | refine heapW_cons rfl rfl rfl ?_)⟩
            · show _ - (k + 1) < _ - k; omega
            · exact ⟨by show k + 1 ≤ _; omega, (st_yes hok (hcv.trans (by omega)) (by rw [← hb]; omega)).symm⟩
        · rw [if_pos (by omega)] at hcv
          have hd1 := dp_get (l := l) (k := be) (by omega)
          have hd2 := dp_get (l := l) (k := p + l.sizes[k]) (by omega)
          have he1 := VE_int (es := es) (k := be) (by omega) (by omega)
          have hd3 := dp_le v (k := be) hb2
          have hd4 := dp_le v (k := p + l.sizes[k]) ho1
          have hd5 := hV be (by omega) hb2
          rw [← hd1, ← hd2, ← he1] at hcv
          rw [← hd1] at hd3
          rw [← hd2] at hd4
          rw [← he1] at hd5
          repeat' (first
 | ((with_reducible apply (r_load_ea (zs := [I (-1), I (-1)]) (ys := []))); exact rfl; exact rfl; exact rfl; exact rfl)
 | ((with_reducible apply r_call); exact rfl; exact rfl; exact hbc; exact rfl; exact rfl)
 | (refine aw_drawt 19 ?_ ?_; (kernel_rfl); (simp only [List.take_succ_cons, List.take_zero, List.drop_succ_cons, List.drop_zero]))
 | ((with_reducible apply aw_seq))
 | ((with_reducible apply aw_region))
 | ((with_reducible apply aw_block))
 | ((with_reducible apply thn_normal))
 | ((with_reducible apply inb_normal))
 | ((with_reducible apply aw_skip))
 | ((with_reducible apply ao_nil))
 | ((with_reducible apply r_move); exact rfl; exact rfl)
 | ((with_reducible apply r_assign); exact rfl; exact rfl)
 | ((with_reducible apply r_field_p); exact rfl; exact rfl)
 | ((with_reducible apply r_load_p); exact rfl; exact rfl; exact rfl; exact rfl)
 | ((with_reducible apply r_load_pa); exact rfl; exact rfl; exact rfl; exact rfl; exact rfl)
 | ((with_reducible apply r_lss); exact rfl; exact rfl; exact rfl)
 | ((with_reducible apply r_gtr); exact rfl; exact rfl; exact rfl)
 | ((with_reducible apply r_geq); exact rfl; exact rfl; exact rfl)
 | ((with_reducible apply r_add); exact rfl; exact rfl; exact (by first | assumption | (unfold fits; omega)); exact rfl)
 | ((with_reducible apply r_sub); exact rfl; exact rfl; exact (by first | assumption | (unfold fits; omega)); exact rfl)
 | ((with_reducible apply r_pick_t); exact rfl; exact rfl; exact rfl)
 | ((with_reducible apply r_pick_f); exact rfl; exact rfl; exact rfl)
 | ((with_reducible apply r_index_f); exact rfl; exact inferInstance; exact rfl; exact rfl; (first | assumption | omega); exact rfl)
 | ((with_reducible apply r_index_f); exact rfl; exact inferInstance; exact rfl; exact (Int.toNat_of_nonneg (by omega)).symm; (first | assumption | omega); exact rfl)
 | ((with_reducible apply r_load_f0); exact rfl; exact inferInstance; exact List.getElem?_eq_getElem (by first | assumption | omega); exact rfl; exact rfl)
 | ((with_reducible apply r_load_f); exact rfl; exact inferInstance; exact List.getElem?_eq_getElem (by first | assumption | omega); exact rfl; exact rfl; exact rfl)
 | ((with_reducible apply r_field_e); exact rfl; exact rfl)
 | ((with_reducible apply r_store_p); exact rfl; exact rfl; exact rfl; exact rfl; exact rfl; exact rfl)
 | ((with_reducible apply r_store_pa); exact rfl; exact rfl; exact rfl; exact rfl; exact rfl; exact rfl)
 | ((with_reducible apply r_build); exact rfl; exact rfl; exact rfl)
 | ((with_reducible apply r_alloc); exact rfl)
 | (((with_reducible apply r_guard); exact rfl; exact rfl; exact rfl; exact rfl) <;> intro hg <;> (first | (exact absurd hg (by decide)) | ((try simp only [decide_eq_true_eq, decide_eq_false_iff_not, Bool.not_eq_true', Bool.not_eq_false', Bool.not_true, Bool.not_false, Bool.not_not, Int.not_lt, Int.not_le, Nat.not_lt, Nat.not_le, gt_iff_lt, ge_iff_le, List.cons.injEq, and_true] at hg); first | (exact absurd trivial hg) | (exfalso; omega) | (have hT : True := hg; clear hT hg) | skip)))
 | (((with_reducible apply aw_cond); exact rfl) <;> intro hg <;> (first | (exact absurd hg (by decide)) | ((try simp only [decide_eq_true_eq, decide_eq_false_iff_not, Bool.not_eq_true', Bool.not_eq_false', Bool.not_true, Bool.not_false, Bool.not_not, Int.not_lt, Int.not_le, Nat.not_lt, Nat.not_le, gt_iff_lt, ge_iff_le, List.cons.injEq, and_true] at hg); first | (exact absurd trivial hg) | (exfalso; omega) | (have hT : True := hg; clear hT hg) | skip)))
 | ((with_reducible apply ds_nil))
 | ((with_reducible apply r_eqs); exact rfl; exact rfl; exact rfl; exact rfl; exact rfl; exact rfl; exact rfl)
 )
          · skip
            refine ⟨(k + 1, ((k : Int), p, l.gain[k][p.toNat] + ((sumsS l.dust)[be.toNat]'(by omega) - (sumsS l.dust)[(p + l.sizes[k]).toNat]'(by omega) + (es[be.toNat]'(by omega)).2.2))), ?_, ?_, by refine weak_mk rfl ?_ ?_ <;> repeat (first | exact envW_nil | exact heapW_nil | refine envW_cons rfl rfl ?_ | refine heapW_cons rfl rfl rfl ?_)⟩
            · show _ - (k + 1) < _ - k; omega
            · exact ⟨by show k + 1 ≤ _; omega, (st_yes hok (hcv.trans (by omega)) (by rw [← hb]; omega)).symm⟩
          · skip
            refine ⟨(k + 1, b), ?_, ?_, by refine weak_mk rfl ?_ ?_ <;> repeat (first | exact envW_nil | exact heapW_nil | refine envW_cons rfl rfl ?_ | refine heapW_cons rfl rfl rfl ?_)⟩
            · show _ - (k + 1) < _ - k; omega
            · exact ⟨by show k + 1 ≤ _; omega, by show b = _; rw [st_keep hcv (by rw [← hb]; omega)]; exact hb⟩
          · skip
            refine ⟨(k + 1, ((k : Int), p, l.gain[k][p.toNat] + ((sumsS l.dust)[be.toNat]'(by omega) - (sumsS l.dust)[(p + l.sizes[k]).toNat]'(by omega) + (es[be.toNat]'(by omega)).2.2))), ?_, ?_, by refine weak_mk rfl ?_ ?_ <;> repeat (first | exact envW_nil | exact heapW_nil | refine envW_cons rfl rfl ?_ | refine heapW_cons rfl rfl rfl ?_)⟩
            · show _ - (k + 1) < _ - k; omega
            · exact ⟨by show k + 1 ≤ _; omega, (st_yes hok (hcv.trans (by omega)) (by rw [← hb]; omega)).symm⟩
      · have hok : ¬ OkP l k p := fun hh => ho2 (by rw [← hgo]; exact hh.2)
        repeat' (first
 | ((with_reducible apply aw_seq))
 | ((with_reducible apply aw_region))
 | ((with_reducible apply aw_block))
 | ((with_reducible apply thn_normal))
 | ((with_reducible apply thn_exit))
 | ((with_reducible apply inb_exit))
 | ((with_reducible apply aw_skip))
 | ((with_reducible apply aw_exit))
 | ((with_reducible apply ao_nil))
 | ((with_reducible apply r_move); exact rfl; exact rfl)
 | ((with_reducible apply r_assign); exact rfl; exact rfl)
 | ((with_reducible apply r_field_p); exact rfl; exact rfl)
 | ((with_reducible apply r_load_p); exact rfl; exact rfl; exact rfl; exact rfl)
 | ((with_reducible apply r_lss); exact rfl; exact rfl; exact rfl)
 | ((with_reducible apply r_gtr); exact rfl; exact rfl; exact rfl)
 | ((with_reducible apply r_add); exact rfl; exact rfl; exact (by first | assumption | (unfold fits; omega)); exact rfl)
 | ((with_reducible apply r_pick_f); exact rfl; exact rfl; exact rfl)
 | ((with_reducible apply r_index_f); exact rfl; exact inferInstance; exact rfl; exact rfl; (first | assumption | omega); exact rfl)
 | ((with_reducible apply r_index_f); exact rfl; exact inferInstance; exact rfl; exact (Int.toNat_of_nonneg (by omega)).symm; (first | assumption | omega); exact rfl)
 | ((with_reducible apply r_load_f0); exact rfl; exact inferInstance; exact List.getElem?_eq_getElem (by first | assumption | omega); exact rfl; exact rfl)
 | (((with_reducible apply r_guard); exact rfl; exact rfl; exact rfl; exact rfl) <;> intro hg <;> (first | (exact absurd hg (by decide)) | ((try simp only [decide_eq_true_eq, decide_eq_false_iff_not, Bool.not_eq_true', Bool.not_eq_false', Bool.not_true, Bool.not_false, Bool.not_not, Int.not_lt, Int.not_le, Nat.not_lt, Nat.not_le, gt_iff_lt, ge_iff_le, List.cons.injEq, and_true] at hg); first | (exact absurd trivial hg) | (exfalso; omega) | (have hT : True := hg; clear hT hg) | skip)))
 | (((with_reducible apply aw_cond); exact rfl) <;> intro hg <;> (first | (exact absurd hg (by decide)) | ((try simp only [decide_eq_true_eq, decide_eq_false_iff_not, Bool.not_eq_true', Bool.not_eq_false', Bool.not_true, Bool.not_false, Bool.not_not, Int.not_lt, Int.not_le, Nat.not_lt, Nat.not_le, gt_iff_lt, ge_iff_le, List.cons.injEq, and_true] at hg); first | (exact absurd trivial hg) | (exfalso; omega) | (have hT : True := hg; clear hT hg) | skip)))
 )
        refine ⟨(k + 1, b), ?_, ?_, by refine weak_mk rfl ?_ ?_ <;> repeat (first | exact envW_nil | exact heapW_nil | refine envW_cons rfl rfl ?_ | refine heapW_cons rfl rfl rfl ?_)⟩
        · show _ - (k + 1) < _ - k; omega
        · exact ⟨by show k + 1 ≤ _; omega, by show b = _; rw [hb, st_no hok]⟩
    · have hok : ¬ OkP l k p := fun hh => ho1 (by rw [← hsz]; exact hh.1)
      repeat' (first
 | ((with_reducible apply aw_seq))
 | ((with_reducible apply aw_region))
 | ((with_reducible apply aw_block))
 | ((with_reducible apply thn_normal))
 | ((with_reducible apply thn_exit))
 | ((with_reducible apply inb_exit))
 | ((with_reducible apply aw_skip))
 | ((with_reducible apply aw_exit))
 | ((with_reducible apply ao_nil))
 | ((with_reducible apply r_move); exact rfl; exact rfl)
 | ((with_reducible apply r_assign); exact rfl; exact rfl)
 | ((with_reducible apply r_field_p); exact rfl; exact rfl)
 | ((with_reducible apply r_load_p); exact rfl; exact rfl; exact rfl; exact rfl)
 | ((with_reducible apply r_lss); exact rfl; exact rfl; exact rfl)
 | ((with_reducible apply r_gtr); exact rfl; exact rfl; exact rfl)
 | ((with_reducible apply r_add); exact rfl; exact rfl; exact (by first | assumption | (unfold fits; omega)); exact rfl)
 | ((with_reducible apply r_pick_t); exact rfl; exact rfl; exact rfl)
 | ((with_reducible apply r_index_f); exact rfl; exact inferInstance; exact rfl; exact rfl; (first | assumption | omega); exact rfl)
 | ((with_reducible apply r_load_f0); exact rfl; exact inferInstance; exact List.getElem?_eq_getElem (by first | assumption | omega); exact rfl; exact rfl)
 | (((with_reducible apply r_guard); exact rfl; exact rfl; exact rfl; exact rfl) <;> intro hg <;> (first | (exact absurd hg (by decide)) | ((try simp only [decide_eq_true_eq, decide_eq_false_iff_not, Bool.not_eq_true', Bool.not_eq_false', Bool.not_true, Bool.not_false, Bool.not_not, Int.not_lt, Int.not_le, Nat.not_lt, Nat.not_le, gt_iff_lt, ge_iff_le, List.cons.injEq, and_true] at hg); first | (exact absurd trivial hg) | (exfalso; omega) | (have hT : True := hg; clear hT hg) | skip)))
 | (((with_reducible apply aw_cond); exact rfl) <;> intro hg <;> (first | (exact absurd hg (by decide)) | ((try simp only [decide_eq_true_eq, decide_eq_false_iff_not, Bool.not_eq_true', Bool.not_eq_false', Bool.not_true, Bool.not_false, Bool.not_not, Int.not_lt, Int.not_le, Nat.not_lt, Nat.not_le, gt_iff_lt, ge_iff_le, List.cons.injEq, and_true] at hg); first | (exact absurd trivial hg) | (exfalso; omega) | (have hT : True := hg; clear hT hg) | skip)))
 )
      refine ⟨(k + 1, b), ?_, ?_, by refine weak_mk rfl ?_ ?_ <;> repeat (first | exact envW_nil | exact heapW_nil | refine envW_cons rfl rfl ?_ | refine heapW_cons rfl rfl rfl ?_)⟩
      · show _ - (k + 1) < _ - k; omega
      · exact ⟨by show k + 1 ≤ _; omega, by show b = _; rw [hb, st_no hok]⟩
  · skip
    repeat' (first
 | ((with_reducible apply aw_seq))
 | ((with_reducible apply aw_region))
 | ((with_reducible apply thn_normal))
 | ((with_reducible apply thn_exit))
 | ((with_reducible apply inb_exit))
 | ((with_reducible apply aw_exit))
 | ((with_reducible apply aw_ret))
 | ((with_reducible apply ao_nil))
 | ((with_reducible apply r_load_pa); exact rfl; exact rfl; exact rfl; exact rfl; exact rfl)
 | ((with_reducible apply r_lss); exact rfl; exact rfl; exact rfl)
 | ((with_reducible apply r_store_pa); exact rfl; exact rfl; exact rfl; exact rfl; exact rfl; exact rfl)
 | (((with_reducible apply aw_cond); exact rfl) <;> intro hg <;> (first | (exact absurd hg (by decide)) | ((try simp only [decide_eq_true_eq, decide_eq_false_iff_not, Bool.not_eq_true', Bool.not_eq_false', Bool.not_true, Bool.not_false, Bool.not_not, Int.not_lt, Int.not_le, Nat.not_lt, Nat.not_le, gt_iff_lt, ge_iff_le, List.cons.injEq, and_true] at hg); first | (exact absurd trivial hg) | (exfalso; omega) | (have hT : True := hg; clear hT hg) | skip)))
 )
    obtain rfl : k = l.sizes.length := by omega
    rw [← hb]
    exact ret1 (.cell_a inferInstance rfl rfl rfl rfl (cl_cons cl_c (cl_cons cl_c (cl_cons cl_c cl_nil))))
end Go.Proofs.YtjofnmklkndhoaaDoor.Cu
