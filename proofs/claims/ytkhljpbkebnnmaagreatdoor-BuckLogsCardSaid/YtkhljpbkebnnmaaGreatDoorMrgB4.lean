/- BG BW BV BX BU: texts laid together. -/
import Derived.Test.YtkhljpbkebnnmaaGreatDoorMrgB3
import Derived.Test.YtkhljpbkebnnmaaGreatDoorMrgC4
import Derived.Test.YtkhljpbkebnnmaaGreatDoorMrgG6
set_option maxRecDepth 100000
/- Walks of the laws on bucking: awake. -/
namespace Go.Proofs.YtkhljpbkebnnmaaGreatDoor.Bu
set_option linter.unusedVariables false
set_option linter.unusedSimpArgs false
open Go.RowKit Go.Proofs.YtkhljpbkebnnmaaGreatDoor.Ev Go.Proofs.YtkhljpbkebnnmaaGreatDoor.Ge
variable {gl : List (Nat × List CV)}
set_option maxHeartbeats 32000000 in
theorem awake18_con : Con Tryz.prog Cu.G 7 [] T := by
  have h1 : Con Tryz.prog Cu.G 15 [planV (pX 0), lgV sX] (.tup [Cu.LP [(0, 0), (1, 20)], I 200, I 0]) := by have := bbest_con (pX 0) sX (by decide) (by decide) (by decide); rw [bb_X0] at this; exact this
  have h2 : Con Tryz.prog Cu.G 15 [planV (pX 1), lgV sX] (.tup [Cu.LP [(0, 0), (0, 21)], I 160, I 0]) := by have := bbest_con (pX 1) sX (by decide) (by decide) (by decide); rw [bb_X1] at this; exact this
  have h3 : Con Tryz.prog Cu.G 18 [planV (pX 0), lgV sX, Cu.LP [(0, 0), (1, 20)]] (.tup [LStem [(LM 2000, []), (LM 3000, [])], I 0]) := by have := blogs_con (gl := Cu.G) (pX 0) sX [(0, 0), (1, 20)] (by decide) (by decide) (by decide) (by decide); rw [logs_X0] at this; exact this
  have h4 : Con Tryz.prog Cu.G 8 [planV (pX 1), lgV sX] (.tup [.agg (Cu.lineL (XL 1)), I 0]) := by have := bline_con (gl := Cu.G) (pX 1) sX (by decide) (by decide) (by decide); rw [lineS_X (by decide)] at this; exact this
  have h5 : Con Tryz.prog Cu.G 12 [planV (pX 1)] (I 0) := by have := pcheck_con (gl := Cu.G) (pX 1) (by decide); rw [chk_pX (by decide)] at this; exact this
  have h6 : Con Tryz.prog Cu.G 12 [planV ⟨[], [], 0, 0⟩] (I 3) := by have := pcheck_con (gl := Cu.G) ⟨[], [], 0, 0⟩ (by decide); rw [plan0] at this; exact this
  have h7 : Con Tryz.prog Cu.G 23 [LL (LM 3000)] (I 3000) := by have := rslength_con (gl := Cu.G) (LM 3000) (by decide); rw [LM_len (by decide)] at this; exact this
  have h8 := Cu.samePieces_con (gl := Cu.G) [(0, 0), (1, 20)] (by decide)
  have h9 := Cu.samePieces_con (gl := Cu.G) [(0, 0), (0, 21)] (by decide)
  have e1 : ((((XL 1).gain[1]'(by decide)).length : Nat) : Int) = 21 := by decide +kernel
  have e2 : ((XL 1).gain[1]'(by decide))[20]'(by decide +kernel) = 120 := by decide +kernel
  refine con_of Tryz.func7 rfl (by kernel_rfl) rfl ?_
  simp only [Tryz.ntmps7, Tryz.results7, argEnv, ofC, of1, List.map]
  repeat' (first
 | ((with_reducible apply aw_seq))
 | ((with_reducible apply aw_region))
 | ((with_reducible apply aw_block))
 | ((with_reducible apply thn_normal))
 | ((with_reducible apply ao_nil))
 | ((with_reducible apply r_assign); exact rfl; exact rfl)
 | ((with_reducible apply r_field_p); exact rfl; exact rfl)
 | ((with_reducible apply r_store_p); exact rfl; exact rfl; exact rfl; exact rfl; exact rfl; exact rfl)
 | ((with_reducible apply r_alloc); exact rfl)
 )
  refine aw_nilcell 0 1 68 2 rfl rfl rfl rfl ?_
  refine aw_loopG (G := List Span) (fun (l : List Span) => l.length ≤ 20 ∧ l = List.replicate l.length (-100, 100)) (fun (l : List Span) => 20 - l.length) (fun (l : List Span) => [(1, .ptr 0 0), (2, A l.length)]) (fun (l : List Span) => [(0, some (.cells 66 [A (-10), .vec 1 l.length])), (1, some (.vec 68 2 (l.flatMap spC)))]) 2 [] ?_ (by refine weak_mk rfl ?_ ?_ <;> repeat (first | exact envW_nil | exact heapW_nil | refine envW_cons rfl rfl ?_ | refine heapW_cons rfl rfl rfl ?_)) rfl ?_
  · exact ⟨Nat.zero_le _, rfl⟩
  rintro l hI
  try dsimp only at hI
  try dsimp only
  obtain ⟨hl, hr⟩ := hI
  by_cases hlt : l.length < 20
  · skip
    repeat' (first
 | ((with_reducible apply (r_push (x0 := ((-100, 100) : Span)))); exact rfl; exact rfl; exact inferInstance; exact rfl; exact rfl; exact rfl; exact rfl; exact (by omega); exact (by omega); exact rfl)
 | ((with_reducible apply aw_seq))
 | ((with_reducible apply aw_region))
 | ((with_reducible apply aw_block))
 | ((with_reducible apply thn_normal))
 | ((with_reducible apply inb_normal))
 | ((with_reducible apply aw_skip))
 | ((with_reducible apply ao_nil))
 | ((with_reducible apply r_move); exact rfl; exact rfl)
 | ((with_reducible apply r_assign); exact rfl; exact rfl)
 | ((with_reducible apply r_field_p); exact rfl; exact rfl)
 | ((with_reducible apply r_load_p); exact rfl; exact rfl; exact rfl; exact rfl)
 | ((with_reducible apply r_lss); exact rfl; exact rfl; exact rfl)
 | ((with_reducible apply r_add); exact rfl; exact rfl; exact (by first | assumption | (unfold fits; omega)); exact rfl)
 | ((with_reducible apply r_store_p); exact rfl; exact rfl; exact rfl; exact rfl; exact rfl; exact rfl)
 | ((with_reducible apply r_build); exact rfl; exact rfl; exact rfl)
 | (((with_reducible apply aw_cond); exact rfl) <;> intro hg <;> (first | (exact absurd hg (by decide)) | ((try simp only [decide_eq_true_eq, decide_eq_false_iff_not, Bool.not_eq_true', Bool.not_eq_false', Bool.not_true, Bool.not_false, Bool.not_not, Int.not_lt, Int.not_le, Nat.not_lt, Nat.not_le, gt_iff_lt, ge_iff_le, List.cons.injEq, and_true] at hg); first | (exact absurd trivial hg) | (exfalso; omega) | (have hT : True := hg; clear hT hg) | skip)))
 | ((with_reducible apply r_lit); exact rfl; exact rfl; exact rfl; exact rfl; exact rfl; exact rfl; exact rfl)
 )
    have e : ((l.length : Int) + 1) = ((l ++ [((-100, 100) : Span)]).length : Int) := by simp
    have e2 : l.length + 1 = (l ++ [((-100, 100) : Span)]).length := by simp
    rw [e, e2]
    refine ⟨l ++ [(-100, 100)], ?_, ?_, by refine weak_mk rfl ?_ ?_ <;> repeat (first | exact envW_nil | exact heapW_nil | refine envW_cons rfl rfl ?_ | refine heapW_cons rfl rfl rfl ?_)⟩
    · show 20 - (l ++ [((-100, 100) : Span)]).length < 20 - l.length; simp; omega
    · refine ⟨by show (l ++ [((-100, 100) : Span)]).length ≤ 20; simp; omega, ?_⟩
      show l ++ [((-100, 100) : Span)] = List.replicate (l ++ [((-100, 100) : Span)]).length (-100, 100)
      rw [List.length_append, List.length_singleton, List.replicate_succ', ← hr]
  · have h20 : l.length = 20 := by omega
    have hq : l = row20 := by rw [hr, h20]; rfl
    refine aw_freezecell 0 1 (E := 68) (size := 2) (xs := l.flatMap spC) rfl rfl rfl (flat_len EncL.len l) rfl ?_
    rw [hq]
    repeat' (first
 | ((with_reducible apply ao_app))
 | ((with_reducible apply ao_app0))
 | (refine aw_nilcell 2 1 91 7 rfl rfl rfl rfl ?_; refine aw_freezecell 2 1 (E := 91) (size := 7) (xs := []) rfl rfl rfl rfl rfl ?_)
 | ((with_reducible apply r_litq); exact rfl; exact rfl; exact rfl; exact rfl; exact rfl; exact rfl; exact rfl)
 | ((with_reducible apply r_call); exact rfl; exact rfl; (first | exact h1 | exact h2 | exact h3 | exact h4 | exact h5 | exact h7 | exact h8 | exact h9); exact rfl; exact rfl)
 | ((with_reducible apply r_callq); exact h6; exact rfl; exact cl_cons (cl_agg (cl_cons cl_none (cl_cons cl_none (cl_cons cl_c (cl_cons cl_c cl_nil))))) cl_nil; exact rfl; exact rfl)
 | ((with_reducible apply (r_index_f 1)); exact rfl; exact inferInstance; exact rfl; exact rfl; exact (by decide); exact rfl)
 | ((with_reducible apply (r_index_f 20)); exact rfl; exact inferInstance; exact rfl; exact rfl; exact (by decide); exact rfl)
 | ((with_reducible apply aw_seq))
 | ((with_reducible apply aw_region))
 | ((with_reducible apply thn_normal))
 | ((with_reducible apply thn_exit))
 | ((with_reducible apply inb_exit))
 | ((with_reducible apply aw_skip))
 | ((with_reducible apply aw_exit))
 | ((with_reducible apply aw_ret))
 | ((with_reducible apply ao_nil))
 | ((with_reducible apply r_move); exact rfl; exact rfl)
 | ((with_reducible apply r_assign); exact rfl; exact rfl)
 | ((with_reducible apply r_field_p); exact rfl; exact rfl)
 | ((with_reducible apply r_load_p); exact rfl; exact rfl; exact rfl; exact rfl)
 | ((with_reducible apply r_load_pa); exact rfl; exact rfl; exact rfl; exact rfl; exact rfl)
 | ((with_reducible apply r_lss); exact rfl; exact rfl; exact rfl)
 | ((with_reducible apply r_eql); exact rfl; exact rfl; exact rfl)
 | ((with_reducible apply r_neq); exact rfl; exact rfl; exact rfl)
 | ((with_reducible apply r_pick_t); exact rfl; exact rfl; exact rfl)
 | ((with_reducible apply r_pick_f); exact rfl; exact rfl; exact rfl)
 | ((with_reducible apply r_len_f); exact rfl; exact inferInstance; exact rfl)
 | ((with_reducible apply r_index_f); exact rfl; exact inferInstance; exact rfl; exact (Int.toNat_of_nonneg (by omega)).symm; (first | assumption | omega); exact rfl)
 | ((with_reducible apply r_load_f0); exact rfl; exact inferInstance; exact List.getElem?_eq_getElem (by first | assumption | omega); exact rfl; exact rfl)
 | ((with_reducible apply r_field_e); exact rfl; exact rfl)
 | ((with_reducible apply r_store_p); exact rfl; exact rfl; exact rfl; exact rfl; exact rfl; exact rfl)
 | ((with_reducible apply r_store_pa); exact rfl; exact rfl; exact rfl; exact rfl; exact rfl; exact rfl)
 | ((with_reducible apply r_build); exact rfl; exact rfl; exact rfl)
 | ((with_reducible apply r_extract); exact rfl; exact rfl; exact rfl)
 | ((with_reducible apply r_alloc); exact rfl)
 | (((with_reducible apply r_guard); exact rfl; exact rfl; exact rfl; exact rfl) <;> intro hg <;> (first | (exact absurd hg (by decide)) | ((try simp only [decide_eq_true_eq, decide_eq_false_iff_not, Bool.not_eq_true', Bool.not_eq_false', Bool.not_true, Bool.not_false, Bool.not_not, Int.not_lt, Int.not_le, Nat.not_lt, Nat.not_le, gt_iff_lt, ge_iff_le, List.cons.injEq, and_true] at hg); first | (exact absurd trivial hg) | (exfalso; omega) | (have hT : True := hg; clear hT hg) | skip)))
 | (((with_reducible apply aw_cond); exact rfl) <;> intro hg <;> (first | (exact absurd hg (by decide)) | ((try simp only [decide_eq_true_eq, decide_eq_false_iff_not, Bool.not_eq_true', Bool.not_eq_false', Bool.not_true, Bool.not_false, Bool.not_not, Int.not_lt, Int.not_le, Nat.not_lt, Nat.not_le, gt_iff_lt, ge_iff_le, List.cons.injEq, and_true] at hg); first | (exact absurd trivial hg) | (exfalso; omega) | (have hT : True := hg; clear hT hg) | skip)))
 )
    all_goals first | exact ret_b rfl rfl | exact ret_b rfl (by decide) | trace_state
end Go.Proofs.YtkhljpbkebnnmaaGreatDoor.Bu
/- The best pieces and their prices: plain. -/
namespace Go.Proofs.YtkhljpbkebnnmaaGreatDoor.Bu
set_option linter.unusedVariables false
set_option linter.unusedSimpArgs false
open Go.RowKit Go.Proofs.YtkhljpbkebnnmaaGreatDoor.Ev Go.Proofs.YtkhljpbkebnnmaaGreatDoor.Ge
theorem pre_zeros (n : Nat) : ∀ k, Cu.pre (List.replicate n 0) k = 0 := by
  intro k
  unfold Cu.pre
  rw [List.take_replicate]
  generalize min k n = m
  induction m with
  | zero => rfl
  | succ m ih => rw [List.replicate_succ, List.sum_cons, ih]; rfl
theorem sumSp_zeros (n : Nat) : ∀ ss : List Cu.Span, Cu.sumSp (List.replicate n 0) ss = 0
  | [] => rfl
  | z :: ss => by
    have := sumSp_zeros n ss
    unfold Cu.sumSp at this ⊢
    rw [List.map_cons, List.sum_cons, this]
    unfold Cu.spV
    rw [pre_zeros, pre_zeros]; rfl
theorem gOf_line {p : Plan} {s : Lg} {u : Int} {x : Cu.Piece} (h1 : 0 ≤ x.1) (h2 : x.1.toNat < p.lens.length) (h3 : 0 ≤ x.2) (h4 : x.2 + p.lens[x.1.toNat] ≤ u) : Cu.gOf (lineOf p s u) x.1 x.2 = priceS p.classes (logOf p s x).1 (logOf p s x).2 := by
  have e1 : (p.lens.map (rowL p s u)).getD x.1.toNat [] = rowL p s u p.lens[x.1.toNat] := by simp [List.getD_eq_getElem?_getD, h2]
  have hl : x.2.toNat < (rowL p s u p.lens[x.1.toNat]).length := by rw [rowL_len]; omega
  have e2 : (rowL p s u p.lens[x.1.toNat]).getD x.2.toNat 0 = gainS p s x.2.toNat p.lens[x.1.toNat] := by
    rw [List.getD_eq_getElem?_getD, List.getElem?_eq_getElem hl, Option.getD_some, rowL_get]
  show ((p.lens.map (rowL p s u)).getD x.1.toNat []).getD x.2.toNat 0 = _
  rw [e1, e2, Int.toNat_of_nonneg h3]
  unfold gainS logOf
  rw [show p.lens.getD x.1.toNat 0 = p.lens[x.1.toNat] by simp [List.getD_eq_getElem?_getD, h2]]
theorem gsum_line {p : Plan} {s : Lg} {u : Int} (ok : LnOk p s u) {l : List Cu.Piece} {D C : List Span} (hc : Cu.cutsS (lineOf p s u) l = (0, D, C)) : Cu.gsum (lineOf p s u) l = sumP p.classes (l.map (logOf p s)) := by
  have hin := piece_in ok hc
  unfold Cu.gsum sumP
  rw [List.map_map]
  congr 1
  refine List.map_congr_left (fun x hx => ?_)
  obtain ⟨i, hi, rfl⟩ := List.mem_iff_getElem.1 hx
  obtain ⟨i1, i2, i3, i4, i5⟩ := hin i hi
  exact gOf_line i1 i2 i4 i5
theorem val_line {p : Plan} {s : Lg} {u : Int} (ok : LnOk p s u) {l : List Cu.Piece} {D C : List Span} (hc : Cu.cutsS (lineOf p s u) l = (0, D, C)) : Cu.OKs (lineOf p s u) 0 l ∧ Cu.PV (lineOf p s u) 0 l = sumP p.classes (l.map (logOf p s)) := by
  obtain ⟨h1, h2⟩ := Cu.cutsS_ok hc
  have v := Cu.valid_of h1
  obtain ⟨g1, g2⟩ := Cu.go_val v l 0 [] [] D C (by decide) ok.ub.1 h2
  refine ⟨g1, ?_⟩
  have z1 : Cu.sumSp (lineOf p s u).dust D = 0 := sumSp_zeros _ D
  have z2 : Cu.sumSp (lineOf p s u).chip C = 0 := sumSp_zeros _ C
  rw [z1, z2, gsum_line ok hc] at g2
  have e1 : Cu.sumSp (lineOf p s u).dust [] = 0 := rfl
  have e2 : Cu.sumSp (lineOf p s u).chip [] = 0 := rfl
  omega
theorem others {p : Plan} {s : Lg} {u : Int} (ok : LnOk p s u) {l : List Cu.Piece} {D C : List Span} (hc : Cu.cutsS (lineOf p s u) l = (0, D, C)) : sumP p.classes (l.map (logOf p s)) ≤ Cu.TV (lineOf p s u) 0 := by
  have v := Cu.valid_of (line_chk ok.pk s ok.ub)
  obtain ⟨h1, h2⟩ := val_line ok hc
  have hub := ok.ub
  have := (Cu.opt v l 0 ((lineOf p s u).len.toNat + 1) (Int.le_refl 0) hub.1 (by show u - 0 + 1 ≤ ((u.toNat + 1 : Nat) : Int); omega) h1).1
  omega
end Go.Proofs.YtkhljpbkebnnmaaGreatDoor.Bu
/- The law BuckVolume: logs, dust, chips and rest are the stem. -/
namespace Go.Proofs.YtkhljpbkebnnmaaGreatDoor.Bu
set_option linter.unusedVariables false
set_option linter.unusedSimpArgs false
open Go.RowKit Go.Proofs.YtkhljpbkebnnmaaGreatDoor.Ev Go.Proofs.YtkhljpbkebnnmaaGreatDoor.Ge
variable {gl : List (Nat × List CV)}
end Go.Proofs.YtkhljpbkebnnmaaGreatDoor.Bu
/- The walk of the law BuckVolume. -/
namespace Go.Proofs.YtkhljpbkebnnmaaGreatDoor.Bu
set_option linter.unusedVariables false
set_option linter.unusedSimpArgs false
open Go.RowKit Go.Proofs.YtkhljpbkebnnmaaGreatDoor.Ev Go.Proofs.YtkhljpbkebnnmaaGreatDoor.Ge
abbrev Case := Plan × Lg
abbrev CaseQ (x : Case) : Prop := x.1.classes.length ≤ maxLen ∧ x.2.1.length ≤ maxLen ∧ x.2.2.length ≤ maxLen
end Go.Proofs.YtkhljpbkebnnmaaGreatDoor.Bu
/- The walks of the laws BuckLines, BuckBests, BuckLogs. -/
namespace Go.Proofs.YtkhljpbkebnnmaaGreatDoor.Bu
set_option linter.unusedVariables false
set_option linter.unusedSimpArgs false
open Go.RowKit Go.Proofs.YtkhljpbkebnnmaaGreatDoor.Ev Go.Proofs.YtkhljpbkebnnmaaGreatDoor.Ge
theorem part_few (s : Lg) (Z : Span) (hd : defChk s.2 = 0) : fewL (partS s Z) := by
  have h1 := cutS_len s.1 Z
  have h2 := defCut_len s.2 Z
  have h3 := (def_z hd).1
  refine ⟨?_, ?_, fun i hi => ?_⟩
  · show (cutS s.1 Z).length ≤ _; omega
  · show (defCut s.2 Z).length ≤ _; omega
  · have := (chk_is (((cut_inv (valL_V s.1) Z _ (Nat.le_refl _)).v : SolV (cutS s.1 Z)).chk i hi)).len
    exact Nat.le_trans this (by decide)
theorem lg_few (p : Plan) (s : Lg) (l : List Cu.Piece) (hp : l.length ≤ 100000) : (logsS p s l).1.length ≤ 100000 ∧ ∀ i (h : i < (logsS p s l).1.length), fewL (logsS p s l).1[i] := by
  have key : (logsS p s l).1 = [] ∨ ∃ u, LnOk p s u ∧ (logsS p s l).1 = l.map (logOf p s) := by
    rcases line_cases p s with ⟨e, he, h⟩ | ⟨u, ok, h⟩
    · rw [lg_err he h]; exact .inl rfl
    · rcases hc : Cu.cutsS (lineOf p s u) l with ⟨e, D, C⟩
      by_cases he : e = 0
      · subst he; exact .inr ⟨u, ok, by rw [lg_ok h hc]⟩
      · rw [lg_cut h hc he]; exact .inl rfl
  generalize (logsS p s l).1 = L at key ⊢
  rcases key with rfl | ⟨u, ok, rfl⟩
  · exact ⟨Nat.zero_le _, fun i hi => by cases hi⟩
  · refine ⟨by rw [List.length_map]; exact hp, fun i hi => ?_⟩
    rw [List.getElem_map]
    exact part_few s _ ok.dfs
set_option maxHeartbeats 32000000 in
theorem logs_law (x : Case) (hx : CaseQ x) (l : List Cu.Piece) (_ : l.length ≤ maxLen) : Con Tryz.prog Cu.G 5 [caseV x.1 x.2, Cu.LP l] T := by
  obtain ⟨p, s⟩ := x
  obtain ⟨hK, hl, hd⟩ := hx
  dsimp only at hK hl hd ⊢
  obtain ⟨b, cl⟩ := light_con (gl := Cu.G) p s hK hl
  have aw := awake18_con
  refine con_of Tryz.func5 rfl (by kernel_rfl) rfl ?_
  simp only [Tryz.ntmps5, Tryz.results5, argEnv, ofC, of1, List.map]
  by_cases hb : b = true ∧ l.length ≤ 40
  rotate_left
  · cases b
    · skip
      repeat' (first
 | ((with_reducible apply r_call); exact rfl; exact rfl; (first | exact cl | exact aw); exact rfl; exact rfl)
 | ((with_reducible apply aw_seq))
 | ((with_reducible apply aw_region))
 | ((with_reducible apply thn_normal))
 | ((with_reducible apply thn_ret))
 | ((with_reducible apply aw_ret))
 | ((with_reducible apply ao_nil))
 | ((with_reducible apply r_move); exact rfl; exact rfl)
 | ((with_reducible apply r_assign); exact rfl; exact rfl)
 | ((with_reducible apply r_load_pa); exact rfl; exact rfl; exact rfl; exact rfl; exact rfl)
 | ((with_reducible apply r_box_a); exact rfl; exact rfl)
 | ((with_reducible apply r_pick_t); exact rfl; exact rfl; exact rfl)
 | ((with_reducible apply r_not); exact rfl; exact rfl)
 | (((with_reducible apply r_guard); exact rfl; exact rfl; exact rfl; exact rfl) <;> intro hg <;> (first | (exact absurd hg (by decide)) | ((try simp only [decide_eq_true_eq, decide_eq_false_iff_not, Bool.not_eq_true', Bool.not_eq_false', Bool.not_true, Bool.not_false, Bool.not_not, Int.not_lt, Int.not_le, Nat.not_lt, Nat.not_le, gt_iff_lt, ge_iff_le, List.cons.injEq, and_true] at hg); first | (exact absurd trivial hg) | (exfalso; omega) | (have hT : True := hg; clear hT hg) | skip)))
 | (((with_reducible apply aw_cond); exact rfl) <;> intro hg <;> (first | (exact absurd hg (by decide)) | ((try simp only [decide_eq_true_eq, decide_eq_false_iff_not, Bool.not_eq_true', Bool.not_eq_false', Bool.not_true, Bool.not_false, Bool.not_not, Int.not_lt, Int.not_le, Nat.not_lt, Nat.not_le, gt_iff_lt, ge_iff_le, List.cons.injEq, and_true] at hg); first | (exact absurd trivial hg) | (exfalso; omega) | (have hT : True := hg; clear hT hg) | skip)))
 )
      all_goals exact ret_b rfl rfl
    · have : ¬ l.length ≤ 40 := fun h => hb ⟨rfl, h⟩
      repeat' (first
 | ((with_reducible apply r_call); exact rfl; exact rfl; (first | exact cl | exact aw); exact rfl; exact rfl)
 | ((with_reducible apply aw_seq))
 | ((with_reducible apply aw_region))
 | ((with_reducible apply thn_normal))
 | ((with_reducible apply thn_ret))
 | ((with_reducible apply aw_ret))
 | ((with_reducible apply ao_nil))
 | ((with_reducible apply r_move); exact rfl; exact rfl)
 | ((with_reducible apply r_assign); exact rfl; exact rfl)
 | ((with_reducible apply r_load_pa); exact rfl; exact rfl; exact rfl; exact rfl; exact rfl)
 | ((with_reducible apply r_gtr); exact rfl; exact rfl; exact rfl)
 | ((with_reducible apply r_box_a); exact rfl; exact rfl)
 | ((with_reducible apply r_pick_f); exact rfl; exact rfl; exact rfl)
 | ((with_reducible apply r_not); exact rfl; exact rfl)
 | ((with_reducible apply r_len_f); exact rfl; exact inferInstance; exact rfl)
 | (((with_reducible apply r_guard); exact rfl; exact rfl; exact rfl; exact rfl) <;> intro hg <;> (first | (exact absurd hg (by decide)) | ((try simp only [decide_eq_true_eq, decide_eq_false_iff_not, Bool.not_eq_true', Bool.not_eq_false', Bool.not_true, Bool.not_false, Bool.not_not, Int.not_lt, Int.not_le, Nat.not_lt, Nat.not_le, gt_iff_lt, ge_iff_le, List.cons.injEq, and_true] at hg); first | (exact absurd trivial hg) | (exfalso; omega) | (have hT : True := hg; clear hT hg) | skip)))
 | (((with_reducible apply aw_cond); exact rfl) <;> intro hg <;> (first | (exact absurd hg (by decide)) | ((try simp only [decide_eq_true_eq, decide_eq_false_iff_not, Bool.not_eq_true', Bool.not_eq_false', Bool.not_true, Bool.not_false, Bool.not_not, Int.not_lt, Int.not_le, Nat.not_lt, Nat.not_le, gt_iff_lt, ge_iff_le, List.cons.injEq, and_true] at hg); first | (exact absurd trivial hg) | (exfalso; omega) | (have hT : True := hg; clear hT hg) | skip)))
 )
      all_goals exact ret_b rfl rfl
  obtain ⟨rfl, h40⟩ := hb
  have c0 := plan_con (gl := Cu.G) p
  have c1 := stem_con (gl := Cu.G) s
  have c2 := blogs_con (gl := Cu.G) p s l hK hl hd (by omega)
  have c3 := rblogs_con (gl := Cu.G) p s l hK hl hd (by omega)
  obtain ⟨f1, f2⟩ := lg_few p s l (by omega)
  have c4 := stems_con (gl := Cu.G) (logsS p s l).1 f1
  have c5 := sameStems_con (gl := Cu.G) (logsS p s l).1 (by omega) f2
  rcases hq : logsS p s l with ⟨L, e⟩
  rw [hq] at c2 c3 c4 c5
  change Con _ _ _ _ (.tup [LStem L, I e]) at c2
  change Con _ _ _ _ (.tup [LStem L, I e]) at c3
  repeat' (first
 | ((with_reducible apply r_call); exact rfl; exact rfl; (first | exact cl | exact c0 | exact c1 | exact c2 | exact c3 | exact c4 | exact c5 | exact aw); exact rfl; exact rfl)
 | ((with_reducible apply aw_seq))
 | ((with_reducible apply aw_region))
 | ((with_reducible apply thn_normal))
 | ((with_reducible apply aw_skip))
 | ((with_reducible apply aw_ret))
 | ((with_reducible apply ao_nil))
 | ((with_reducible apply r_move); exact rfl; exact rfl)
 | ((with_reducible apply r_assign); exact rfl; exact rfl)
 | ((with_reducible apply r_field_p); exact rfl; exact rfl)
 | ((with_reducible apply r_load_pa); exact rfl; exact rfl; exact rfl; exact rfl; exact rfl)
 | ((with_reducible apply r_gtr); exact rfl; exact rfl; exact rfl)
 | ((with_reducible apply r_eql); exact rfl; exact rfl; exact rfl)
 | ((with_reducible apply r_box_a); exact rfl; exact rfl)
 | ((with_reducible apply r_pick_t); exact rfl; exact rfl; exact rfl)
 | ((with_reducible apply r_pick_f); exact rfl; exact rfl; exact rfl)
 | ((with_reducible apply r_not); exact rfl; exact rfl)
 | ((with_reducible apply r_len_f); exact rfl; exact inferInstance; exact rfl)
 | ((with_reducible apply r_extract); exact rfl; exact rfl; exact rfl)
 | (((with_reducible apply r_guard); exact rfl; exact rfl; exact rfl; exact rfl) <;> intro hg <;> (first | (exact absurd hg (by decide)) | ((try simp only [decide_eq_true_eq, decide_eq_false_iff_not, Bool.not_eq_true', Bool.not_eq_false', Bool.not_true, Bool.not_false, Bool.not_not, Int.not_lt, Int.not_le, Nat.not_lt, Nat.not_le, gt_iff_lt, ge_iff_le, List.cons.injEq, and_true] at hg); first | (exact absurd trivial hg) | (exfalso; omega) | (have hT : True := hg; clear hT hg) | skip)))
 | (((with_reducible apply aw_cond); exact rfl) <;> intro hg <;> (first | (exact absurd hg (by decide)) | ((try simp only [decide_eq_true_eq, decide_eq_false_iff_not, Bool.not_eq_true', Bool.not_eq_false', Bool.not_true, Bool.not_false, Bool.not_not, Int.not_lt, Int.not_le, Nat.not_lt, Nat.not_le, gt_iff_lt, ge_iff_le, List.cons.injEq, and_true] at hg); first | (exact absurd trivial hg) | (exfalso; omega) | (have hT : True := hg; clear hT hg) | skip)))
 | (refine aw_drawq ?_ ?_; (kernel_rfl))
 | ((with_reducible apply ds_nil))
 )
  all_goals first | exact ret_b rfl rfl | exact ret_b rfl (by simp) | trace_state
end Go.Proofs.YtkhljpbkebnnmaaGreatDoor.Bu
