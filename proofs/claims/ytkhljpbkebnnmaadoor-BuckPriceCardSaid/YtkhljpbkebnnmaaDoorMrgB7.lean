/- BY: texts laid together. -/
import Derived.Test.YtkhljpbkebnnmaaDoorMrgB3
import Derived.Test.YtkhljpbkebnnmaaDoorMrgB4
import Derived.Test.YtkhljpbkebnnmaaDoorMrgB5
import Derived.Test.YtkhljpbkebnnmaaDoorMrgB6
/- The walk of the law BuckPrice. -/
namespace Go.Proofs.YtkhljpbkebnnmaaDoor.Bu
set_option linter.unusedVariables false
set_option linter.unusedSimpArgs false
open Go.RowKit Go.Proofs.YtkhljpbkebnnmaaDoor.Ev Go.Proofs.YtkhljpbkebnnmaaDoor.Ge

set_option maxRecDepth 100000 in
set_option maxHeartbeats 32000000 in
theorem price_law (x : Case) (hx : CaseQ x) (l : List Cu.Piece) (_ : l.length ≤ maxLen) (n : Int) (hn : fits n) : Con Tryd.prog Cu.G 4 [caseV x.1 x.2, Cu.LP l, I n] T := by
  obtain ⟨p, s⟩ := x
  obtain ⟨hK, hl, hd⟩ := hx
  dsimp only at hK hl hd ⊢
  obtain ⟨b, cl⟩ := light_con (gl := Cu.G) p s hK hl
  have aw := awake18_con
  by_cases hb : b = true ∧ l.length ≤ 40
  rotate_left
  · cases b
    · skip
      refine con_of Tryd.func4 rfl (by kernel_rfl) rfl ?_
      simp only [Tryd.ntmps4, Tryd.results4, argEnv, ofC, of1, List.map]
      repeat' (first
 | ((with_reducible apply r_call); exact rfl; exact rfl; (first | exact cl | exact aw); exact rfl; exact rfl)
 | ((with_reducible apply aw_seq))
 | ((with_reducible apply aw_region))
 | ((with_reducible apply thn_normal))
 | ((with_reducible apply thn_ret))
 | ((with_reducible apply aw_ret))
 | ((with_reducible apply ao_nil))
 | ((with_reducible apply r_move); exact rfl; exact rfl)
 | ((with_reducible apply r_assign); exact rfl; exact rfl)
 | ((with_reducible apply r_load_pa); exact rfl; exact rfl; exact rfl; exact rfl; exact rfl)
 | ((with_reducible apply r_box_a); exact rfl; exact rfl)
 | ((with_reducible apply r_pick_t); exact rfl; exact rfl; exact rfl)
 | ((with_reducible apply r_not); exact rfl; exact rfl)
 | (((with_reducible apply r_guard); exact rfl; exact rfl; exact rfl; exact rfl) <;> intro hg <;> (first | (exact absurd hg (by decide)) | ((try simp only [decide_eq_true_eq, decide_eq_false_iff_not, Bool.not_eq_true', Bool.not_eq_false', Bool.not_true, Bool.not_false, Bool.not_not, Int.not_lt, Int.not_le, Nat.not_lt, Nat.not_le, gt_iff_lt, ge_iff_le, List.cons.injEq, and_true] at hg); first | (exact absurd trivial hg) | (exfalso; omega) | (have hT : True := hg; clear hT hg) | skip)))
 | (((with_reducible apply aw_cond); exact rfl) <;> intro hg <;> (first | (exact absurd hg (by decide)) | ((try simp only [decide_eq_true_eq, decide_eq_false_iff_not, Bool.not_eq_true', Bool.not_eq_false', Bool.not_true, Bool.not_false, Bool.not_not, Int.not_lt, Int.not_le, Nat.not_lt, Nat.not_le, gt_iff_lt, ge_iff_le, List.cons.injEq, and_true] at hg); first | (exact absurd trivial hg) | (exfalso; omega) | (have hT : True := hg; clear hT hg) | skip)))
        )
      all_goals exact ret_b rfl rfl
    · have : ¬ l.length ≤ 40 := fun h => hb ⟨rfl, h⟩
      refine con_of Tryd.func4 rfl (by kernel_rfl) rfl ?_
      simp only [Tryd.ntmps4, Tryd.results4, argEnv, ofC, of1, List.map]
      repeat' (first
 | ((with_reducible apply r_call); exact rfl; exact rfl; (first | exact cl | exact aw); exact rfl; exact rfl)
 | ((with_reducible apply aw_seq))
 | ((with_reducible apply aw_region))
 | ((with_reducible apply thn_normal))
 | ((with_reducible apply thn_ret))
 | ((with_reducible apply aw_ret))
 | ((with_reducible apply ao_nil))
 | ((with_reducible apply r_move); exact rfl; exact rfl)
 | ((with_reducible apply r_assign); exact rfl; exact rfl)
 | ((with_reducible apply r_load_pa); exact rfl; exact rfl; exact rfl; exact rfl; exact rfl)
 | ((with_reducible apply r_gtr); exact rfl; exact rfl; exact rfl)
 | ((with_reducible apply r_box_a); exact rfl; exact rfl)
 | ((with_reducible apply r_pick_f); exact rfl; exact rfl; exact rfl)
 | ((with_reducible apply r_not); exact rfl; exact rfl)
 | ((with_reducible apply r_len_f); exact rfl; exact inferInstance; exact rfl)
 | (((with_reducible apply r_guard); exact rfl; exact rfl; exact rfl; exact rfl) <;> intro hg <;> (first | (exact absurd hg (by decide)) | ((try simp only [decide_eq_true_eq, decide_eq_false_iff_not, Bool.not_eq_true', Bool.not_eq_false', Bool.not_true, Bool.not_false, Bool.not_not, Int.not_lt, Int.not_le, Nat.not_lt, Nat.not_le, gt_iff_lt, ge_iff_le, List.cons.injEq, and_true] at hg); first | (exact absurd trivial hg) | (exfalso; omega) | (have hT : True := hg; clear hT hg) | skip)))
 | (((with_reducible apply aw_cond); exact rfl) <;> intro hg <;> (first | (exact absurd hg (by decide)) | ((try simp only [decide_eq_true_eq, decide_eq_false_iff_not, Bool.not_eq_true', Bool.not_eq_false', Bool.not_true, Bool.not_false, Bool.not_not, Int.not_lt, Int.not_le, Nat.not_lt, Nat.not_le, gt_iff_lt, ge_iff_le, List.cons.injEq, and_true] at hg); first | (exact absurd trivial hg) | (exfalso; omega) | (have hT : True := hg; clear hT hg) | skip)))
        )
      all_goals exact ret_b rfl rfl
  obtain ⟨rfl, h40⟩ := hb
  have c0 := plan_con (gl := Cu.G) p
  have c1 := stem_con (gl := Cu.G) s
  have c2 := bbest_con p s hK hl hd
  rcases line_cases p s with ⟨e, he, h⟩ | ⟨u, ok, h⟩
  · rw [bb_err he h] at c2
    change Con _ _ _ _ (.tup [Cu.LP [], I 0, I e]) at c2
    refine con_of Tryd.func4 rfl (by kernel_rfl) rfl ?_
    simp only [Tryd.ntmps4, Tryd.results4, argEnv, ofC, of1, List.map]
    repeat' (first
 | (refine aw_drawS [1, 2] [0, 1, 2, 3, 4, 5] 4 ?_ rfl ?_; (decide +kernel); (simp only [pk, List.drop_succ_cons, List.drop_zero, List.map_cons, List.map_nil, List.cons_append, List.nil_append]))
 | ((with_reducible apply ds_nilS))
 | ((with_reducible apply d3_nil); (decide +kernel))
 | (first | (refine d3_step [6] (by decide +kernel) rfl ?_) | (refine d3_step [7] (by decide +kernel) rfl ?_) | (refine d3_step [8] (by decide +kernel) rfl ?_) | (refine d3_step [9] (by decide +kernel) rfl ?_) | (refine d3_step [6, 7] (by decide +kernel) rfl ?_) | (refine d3_step [6, 8] (by decide +kernel) rfl ?_) | (refine d3_step [6, 9] (by decide +kernel) rfl ?_) | (refine d3_step [7, 8] (by decide +kernel) rfl ?_) | (refine d3_step [7, 9] (by decide +kernel) rfl ?_) | (refine d3_step [8, 9] (by decide +kernel) rfl ?_) | (refine d3_step [6, 7, 8] (by decide +kernel) rfl ?_) | (refine d3_step [6, 7, 9] (by decide +kernel) rfl ?_) | (refine d3_step [6, 8, 9] (by decide +kernel) rfl ?_) | (refine d3_step [7, 8, 9] (by decide +kernel) rfl ?_))
 | ((with_reducible refine List.forall_mem_cons.2 ⟨?_, ?_⟩))
 | ((with_reducible exact d3_none))
 | ((with_reducible apply d3_a); exact rfl; exact inferInstance; exact rfl)
 | ((with_reducible apply d3_pa); exact rfl; exact inferInstance; exact rfl; exact rfl; exact rfl; exact rfl; exact rfl; exact rfl; exact rfl; exact rfl)
 | ((with_reducible apply d3_p); exact rfl; exact inferInstance; exact rfl; exact rfl; exact rfl; exact rfl; exact rfl; exact rfl; exact rfl; exact rfl)
 | ((with_reducible apply r_call); exact rfl; exact rfl; (first | exact cl | exact c0 | exact c1 | exact c2 | exact aw); exact rfl; exact rfl)
 | ((with_reducible apply aw_seq))
 | ((with_reducible apply aw_region))
 | ((with_reducible apply thn_normal))
 | ((with_reducible apply thn_ret))
 | ((with_reducible apply aw_skip))
 | ((with_reducible apply aw_ret))
 | ((with_reducible apply ao_nil))
 | ((with_reducible apply r_move); exact rfl; exact rfl)
 | ((with_reducible apply r_assign); exact rfl; exact rfl)
 | ((with_reducible apply r_field_p); exact rfl; exact rfl)
 | ((with_reducible apply r_load_pa); exact rfl; exact rfl; exact rfl; exact rfl; exact rfl)
 | ((with_reducible apply r_gtr); exact rfl; exact rfl; exact rfl)
 | ((with_reducible apply r_eql); exact rfl; exact rfl; exact rfl)
 | ((with_reducible apply r_neq); exact rfl; exact rfl; exact rfl)
 | ((with_reducible apply r_box_a); exact rfl; exact rfl)
 | ((with_reducible apply r_pick_t); exact rfl; exact rfl; exact rfl)
 | ((with_reducible apply r_pick_f); exact rfl; exact rfl; exact rfl)
 | ((with_reducible apply r_not); exact rfl; exact rfl)
 | ((with_reducible apply r_len_f); exact rfl; exact inferInstance; exact rfl)
 | ((with_reducible apply r_extract); exact rfl; exact rfl; exact rfl)
 | (((with_reducible apply r_guard); exact rfl; exact rfl; exact rfl; exact rfl) <;> intro hg <;> (first | (exact absurd hg (by decide)) | ((try simp only [decide_eq_true_eq, decide_eq_false_iff_not, Bool.not_eq_true', Bool.not_eq_false', Bool.not_true, Bool.not_false, Bool.not_not, Int.not_lt, Int.not_le, Nat.not_lt, Nat.not_le, gt_iff_lt, ge_iff_le, List.cons.injEq, and_true] at hg); first | (exact absurd trivial hg) | (exfalso; omega) | (have hT : True := hg; clear hT hg) | skip)))
 | (((with_reducible apply aw_cond); exact rfl) <;> intro hg <;> (first | (exact absurd hg (by decide)) | ((try simp only [decide_eq_true_eq, decide_eq_false_iff_not, Bool.not_eq_true', Bool.not_eq_false', Bool.not_true, Bool.not_false, Bool.not_not, Int.not_lt, Int.not_le, Nat.not_lt, Nat.not_le, gt_iff_lt, ge_iff_le, List.cons.injEq, and_true] at hg); first | (exact absurd trivial hg) | (exfalso; omega) | (have hT : True := hg; clear hT hg) | skip)))
      )
    all_goals first | exact ret_b rfl rfl | exact ret_b rfl (by simp) | trace_state
  obtain ⟨best, D, C, hc, hbest, hTV⟩ := best_line ok
  have hfew := cut_few ok hc
  rw [bb_ok h, hbest] at c2
  have c3 := blogs_con (gl := Cu.G) p s best hK hl hd (by omega)
  rw [lg_ok h hc] at c3
  have hone := logs_one ok (l := best)
  have hml : (best.map (logOf p s)).length = best.length := List.length_map ..
  have hsb := sumP_bd p.classes (best.map (logOf p s)) (best.map (logOf p s)).length
  rw [List.take_length] at hsb
  have c4 := bsum_con (gl := Cu.G) p.classes (best.map (logOf p s)) hK (by omega) hone
  obtain ⟨ls, els⟩ : ∃ ls, ls = best.map (logOf p s) := ⟨_, rfl⟩
  rw [← els] at c2 c3 c4 hsb hTV
  obtain ⟨v, ev⟩ : ∃ v, v = sumP p.classes ls := ⟨_, rfl⟩
  rw [← ev] at c2 c4 hsb hTV
  change Con _ _ _ _ (.tup [Cu.LP best, I v, I 0]) at c2
  change Con _ _ _ _ (.tup [LStem ls, I 0]) at c3
  -- the other pieces
  have c5 := blogs_con (gl := Cu.G) p s l hK hl hd (by omega)
  have hoth : ∃ lo e2, Con Tryd.prog Cu.G 10 [planV p, lgV s, Cu.LP l] (.tup [LStem lo, I e2]) ∧ (e2 = 0 → ∃ w, w ≤ v ∧ Con Tryd.prog Cu.G 15 [LK p.classes, LStem lo] (I w)) := by
    rcases hc2 : Cu.cutsS (lineOf p s u) l with ⟨e, D2, C2⟩
    by_cases he : e = 0
    · subst he
      rw [lg_ok h hc2] at c5
      refine ⟨_, 0, c5, fun _ => ⟨_, ?_, bsum_con (gl := Cu.G) p.classes (l.map (logOf p s)) hK (by rw [List.length_map]; omega) (logs_one ok (l := l))⟩⟩
      rw [hTV]; exact others ok hc2
    · rw [lg_cut h hc2 he] at c5
      exact ⟨_, e, c5, fun h0 => absurd h0 he⟩
  obtain ⟨lo, e2, c6, hc7⟩ := hoth
  -- a further length
  have hpl := ok.pk.len
  have c8 := bbest_con (plus p n) s hK hl hd
  have hplus : ∃ b2 m e3, Con Tryd.prog Cu.G 14 [planV (plus p n), lgV s] (.tup [Cu.LP b2, I m, I e3]) ∧ (1 ≤ n ∧ n ≤ 2000 → p.lens.length + 1 ≤ 32 → e3 = 0 ∧ v ≤ m) := by
    rcases hbb : bbS (plus p n) s with ⟨b2, m, e3⟩
    rw [hbb] at c8
    refine ⟨b2, m, e3, c8, fun h1 h2 => ?_⟩
    obtain ⟨ok2, hl2⟩ := plus_ok ok h1 h2
    obtain ⟨bb, D3, C3, _, hb3, hT3⟩ := best_line ok2
    rw [bb_ok hl2, hb3] at hbb
    have hm := plus_more ok h1 h2
    cases hbb
    exact ⟨rfl, by rw [hT3, hTV]; exact hm⟩
  obtain ⟨b2, m, e3, c9, hgood⟩ := hplus
  have hln : True := trivial
  by_cases hr : 1 ≤ n ∧ n ≤ 2000 ∧ p.lens.length + 1 ≤ 32
  · obtain ⟨he3, hvm⟩ := hgood ⟨hr.1, hr.2.1⟩ hr.2.2
    by_cases he2 : e2 = 0
    · obtain ⟨w, hw, c7⟩ := hc7 he2
      exact price_a1 p s l n hn h40 best ls lo v e2 b2 m e3 hpl hsb.1 cl c2 c3 c4 c6 c9 hr he3 hvm w hw c7 he2
    · exact price_a2 p s l n hn h40 best ls lo v e2 b2 m e3 hpl hsb.1 cl c2 c3 c4 c6 c9 hr he3 hvm he2
  · have hbad : n < 1 ∨ (¬ n < 1 ∧ 2000 < n) ∨ (¬ n < 1 ∧ ¬ 2000 < n ∧ 32 < p.lens.length + 1) := by omega
    by_cases he2 : e2 = 0
    · obtain ⟨w, hw, c7⟩ := hc7 he2
      rcases hbad with hbad | ⟨g1, hbad⟩ | ⟨g1, g2, hbad⟩
      · exact price_b1 p s l n hn h40 best ls lo v e2 b2 m e3 hpl hsb.1 cl c2 c3 c4 c6 c9 hbad w hw c7 he2
      · exact price_c1 p s l n hn h40 best ls lo v e2 b2 m e3 hpl hsb.1 cl c2 c3 c4 c6 c9 g1 hbad w hw c7 he2
      · exact price_d1 p s l n hn h40 best ls lo v e2 b2 m e3 hpl hsb.1 cl c2 c3 c4 c6 c9 g1 g2 hbad w hw c7 he2
    · rcases hbad with hbad | ⟨g1, hbad⟩ | ⟨g1, g2, hbad⟩
      · exact price_b2 p s l n hn h40 best ls lo v e2 b2 m e3 hpl hsb.1 cl c2 c3 c4 c6 c9 hbad he2
      · exact price_c2 p s l n hn h40 best ls lo v e2 b2 m e3 hpl hsb.1 cl c2 c3 c4 c6 c9 g1 hbad he2
      · exact price_d2 p s l n hn h40 best ls lo v e2 b2 m e3 hpl hsb.1 cl c2 c3 c4 c6 c9 g1 g2 hbad he2
end Go.Proofs.YtkhljpbkebnnmaaDoor.Bu
