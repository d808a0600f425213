/- BY2: texts laid together. -/
import Derived.Test.YtkhljpbkebnnmaaDoorMrgB2
/- The walk of the law BuckPrice: cases. -/
namespace Go.Proofs.YtkhljpbkebnnmaaDoor.Bu
set_option linter.unusedVariables false
set_option linter.unusedSimpArgs false
open Go.RowKit Go.Proofs.YtkhljpbkebnnmaaDoor.Ev Go.Proofs.YtkhljpbkebnnmaaDoor.Ge

set_option maxRecDepth 100000 in
set_option maxHeartbeats 32000000 in
theorem price_b1 (p : Plan) (s : Lg) (l : List Cu.Piece) (n : Int) (hn : fits n) (h40 : l.length ≤ 40) (best : List Cu.Piece) (ls lo : List Lg) (v e2 : Int) (b2 : List Cu.Piece) (m e3 : Int) (hpl : 1 ≤ p.lens.length ∧ p.lens.length ≤ 32) (hv : 0 ≤ v) (cl : Con Tryd.prog Cu.G 5 [caseV p s] (.v (.bool true))) (c2 : Con Tryd.prog Cu.G 14 [planV p, lgV s] (.tup [Cu.LP best, I v, I 0])) (c3 : Con Tryd.prog Cu.G 10 [planV p, lgV s, Cu.LP best] (.tup [LStem ls, I 0])) (c4 : Con Tryd.prog Cu.G 15 [LK p.classes, LStem ls] (I v)) (c6 : Con Tryd.prog Cu.G 10 [planV p, lgV s, Cu.LP l] (.tup [LStem lo, I e2])) (c9 : Con Tryd.prog Cu.G 14 [.agg [LK p.classes, LI (p.lens ++ [n]), I p.unit, I p.kerf], lgV s] (.tup [Cu.LP b2, I m, I e3])) (hr : n < 1) (w : Int) (hw : w ≤ v) (c7 : Con Tryd.prog Cu.G 15 [LK p.classes, LStem lo] (I w)) (he2 : e2 = 0) : Con Tryd.prog Cu.G 4 [caseV p s, Cu.LP l, I n] T := by
  subst he2
  have aw := awake18_con
  have c0 := plan_con (gl := Cu.G) p
  have c1 := stem_con (gl := Cu.G) s
  have c9' := c9
  have hln : (p.lens ++ [n]).length = p.lens.length + 1 := by simp
  refine con_of Tryd.func4 rfl (by kernel_rfl) rfl ?_
  simp only [Tryd.ntmps4, Tryd.results4, argEnv, ofC, of1, List.map]
  repeat' (first
 | (with_reducible refine aw_cut_at2 3 ⟨130, [(1, .c (Cu.LP l)), (2, A n), (3, .ptr 0 0), (7, .ptr 1 0), (8, .ptr 2 0)], [(0, some (.cells 31 (caseA p s))), (1, some (.cells 41 (planA p))), (2, some (.cells 43 [.c (LL s.1), .c (LD s.2)]))], 3, Cu.G⟩ ⟨130, [(1, .c (Cu.LP l)), (2, A n), (3, .ptr 0 0), (7, .ptr 2 0), (8, .ptr 1 0)], [(0, some (.cells 31 (caseA p s))), (2, some (.cells 41 (planA p))), (1, some (.cells 43 [.c (LL s.1), .c (LD s.2)]))], 3, Cu.G⟩ ?_ ?_ ?_)
 | ((with_reducible refine cutQ2_l ?_ rfl); (refine weak_mk rfl ?_ ?_ <;> repeat (first | exact envW_nil | exact heapW_nil | refine envW_cons rfl rfl ?_ | refine heapW_cons rfl rfl rfl ?_)); done)
 | ((with_reducible refine cutQ2_r ?_ rfl); (refine weak_mk rfl ?_ ?_ <;> repeat (first | exact envW_nil | exact heapW_nil | refine envW_cons rfl rfl ?_ | refine heapW_cons rfl rfl rfl ?_)); done)
 | (refine aw_freezecell 1 1 (E := 3) (size := 1) (xs := (p.lens ++ [n]).flatMap inC) rfl rfl rfl (by rw [flat_len EncL.len, hln]; omega) rfl ?_)
 | (refine aw_freezecell 2 1 (E := 3) (size := 1) (xs := (p.lens ++ [n]).flatMap inC) rfl rfl rfl (by rw [flat_len EncL.len, hln]; omega) rfl ?_)
 | (refine aw_drawS [1, 2] [0, 1, 2, 3, 4, 5] 4 ?_ rfl ?_; (decide +kernel); (simp only [pk, List.drop_succ_cons, List.drop_zero, List.map_cons, List.map_nil, List.cons_append, List.nil_append]))
 | ((with_reducible apply ds_nilS))
 | ((with_reducible apply d3_nil); (decide +kernel))
 | (first | (refine d3_step [6] (by decide +kernel) rfl ?_) | (refine d3_step [7] (by decide +kernel) rfl ?_) | (refine d3_step [8] (by decide +kernel) rfl ?_) | (refine d3_step [9] (by decide +kernel) rfl ?_) | (refine d3_step [6, 7] (by decide +kernel) rfl ?_) | (refine d3_step [6, 8] (by decide +kernel) rfl ?_) | (refine d3_step [6, 9] (by decide +kernel) rfl ?_) | (refine d3_step [7, 8] (by decide +kernel) rfl ?_) | (refine d3_step [7, 9] (by decide +kernel) rfl ?_) | (refine d3_step [8, 9] (by decide +kernel) rfl ?_) | (refine d3_step [6, 7, 8] (by decide +kernel) rfl ?_) | (refine d3_step [6, 7, 9] (by decide +kernel) rfl ?_) | (refine d3_step [6, 8, 9] (by decide +kernel) rfl ?_) | (refine d3_step [7, 8, 9] (by decide +kernel) rfl ?_))
 | ((with_reducible refine List.forall_mem_cons.2 ⟨?_, ?_⟩))
 | ((with_reducible exact d3_none))
 | ((with_reducible apply d3_a); exact rfl; exact inferInstance; exact rfl)
 | ((with_reducible apply d3_pa); exact rfl; exact inferInstance; exact rfl; exact rfl; exact rfl; exact rfl; exact rfl; exact rfl; exact rfl; exact rfl)
 | ((with_reducible apply d3_p); exact rfl; exact inferInstance; exact rfl; exact rfl; exact rfl; exact rfl; exact rfl; exact rfl; exact rfl; exact rfl)
 | ((with_reducible apply (r_appendl (enc := inC) (l := []) (l2 := p.lens))); exact rfl; exact rfl; exact inferInstance; exact rfl; exact rfl; exact (by simp; omega); exact (by simp; omega); exact rfl)
 | ((with_reducible apply (r_push (enc := inC) (x0 := n))); exact rfl; exact rfl; exact inferInstance; exact (by simp); exact rfl; exact rfl; exact rfl; exact (by simp; omega); exact (by simp; omega); exact rfl)
 | ((with_reducible apply r_call); exact rfl; exact rfl; (first | exact cl | exact c0 | exact c1 | exact c2 | exact c3 | exact c4 | exact c6 | exact c7 | exact c9' | exact aw); exact rfl; exact rfl)
 | ((with_reducible apply aw_seq))
 | ((with_reducible apply aw_region))
 | ((with_reducible apply thn_normal))
 | ((with_reducible apply aw_skip))
 | ((with_reducible apply aw_ret))
 | ((with_reducible apply ao_nil))
 | ((with_reducible apply r_move); exact rfl; exact rfl)
 | ((with_reducible apply r_assign); exact rfl; exact rfl)
 | ((with_reducible apply r_field_p); exact rfl; exact rfl)
 | ((with_reducible apply r_load_p); exact rfl; exact rfl; exact rfl; exact rfl)
 | ((with_reducible apply r_load_pa); exact rfl; exact rfl; exact rfl; exact rfl; exact rfl)
 | ((with_reducible apply r_lss); exact rfl; exact rfl; exact rfl)
 | ((with_reducible apply r_gtr); exact rfl; exact rfl; exact rfl)
 | ((with_reducible apply r_eql); exact rfl; exact rfl; exact rfl)
 | ((with_reducible apply r_neq); exact rfl; exact rfl; exact rfl)
 | ((with_reducible apply r_box_a); exact rfl; exact rfl)
 | ((with_reducible apply r_pick_t); exact rfl; exact rfl; exact rfl)
 | ((with_reducible apply r_pick_f); exact rfl; exact rfl; exact rfl)
 | ((with_reducible apply r_not); exact rfl; exact rfl)
 | ((with_reducible apply r_len_f); exact rfl; exact inferInstance; exact rfl)
 | ((with_reducible apply r_store_p); exact rfl; exact rfl; exact rfl; exact rfl; exact rfl; exact rfl)
 | ((with_reducible apply r_extract); exact rfl; exact rfl; exact rfl)
 | (((with_reducible apply r_guard); exact rfl; exact rfl; exact rfl; exact rfl) <;> intro hg <;> (first | (exact absurd hg (by decide)) | ((try simp only [decide_eq_true_eq, decide_eq_false_iff_not, Bool.not_eq_true', Bool.not_eq_false', Bool.not_true, Bool.not_false, Bool.not_not, Int.not_lt, Int.not_le, Nat.not_lt, Nat.not_le, gt_iff_lt, ge_iff_le, List.cons.injEq, and_true] at hg); first | (exact absurd trivial hg) | (exfalso; omega) | (have hT : True := hg; clear hT hg) | skip)))
 | ((with_reducible apply r_guard_none); exact rfl; exact rfl; exact rfl; exact rfl)
 | (((with_reducible apply aw_cond); exact rfl) <;> intro hg <;> (first | (exact absurd hg (by decide)) | ((try simp only [decide_eq_true_eq, decide_eq_false_iff_not, Bool.not_eq_true', Bool.not_eq_false', Bool.not_true, Bool.not_false, Bool.not_not, Int.not_lt, Int.not_le, Nat.not_lt, Nat.not_le, gt_iff_lt, ge_iff_le, List.cons.injEq, and_true] at hg); first | (exact absurd trivial hg) | (exfalso; omega) | (have hT : True := hg; clear hT hg) | skip)))
 | ((with_reducible apply r_lit); exact rfl; exact rfl; exact rfl; exact rfl; exact rfl; exact rfl; exact rfl)
 | ((with_reducible apply r_lit0); exact rfl)
    )
  all_goals first | exact ret_b rfl rfl | (exfalso; omega) | exact ret_b rfl (by simp) | trace_state
set_option maxRecDepth 100000 in
set_option maxHeartbeats 32000000 in
theorem price_b2 (p : Plan) (s : Lg) (l : List Cu.Piece) (n : Int) (hn : fits n) (h40 : l.length ≤ 40) (best : List Cu.Piece) (ls lo : List Lg) (v e2 : Int) (b2 : List Cu.Piece) (m e3 : Int) (hpl : 1 ≤ p.lens.length ∧ p.lens.length ≤ 32) (hv : 0 ≤ v) (cl : Con Tryd.prog Cu.G 5 [caseV p s] (.v (.bool true))) (c2 : Con Tryd.prog Cu.G 14 [planV p, lgV s] (.tup [Cu.LP best, I v, I 0])) (c3 : Con Tryd.prog Cu.G 10 [planV p, lgV s, Cu.LP best] (.tup [LStem ls, I 0])) (c4 : Con Tryd.prog Cu.G 15 [LK p.classes, LStem ls] (I v)) (c6 : Con Tryd.prog Cu.G 10 [planV p, lgV s, Cu.LP l] (.tup [LStem lo, I e2])) (c9 : Con Tryd.prog Cu.G 14 [.agg [LK p.classes, LI (p.lens ++ [n]), I p.unit, I p.kerf], lgV s] (.tup [Cu.LP b2, I m, I e3])) (hr : n < 1) (he2 : ¬ e2 = 0) : Con Tryd.prog Cu.G 4 [caseV p s, Cu.LP l, I n] T := by
  have c7 := awake18_con
  have aw := awake18_con
  have c0 := plan_con (gl := Cu.G) p
  have c1 := stem_con (gl := Cu.G) s
  have c9' := c9
  have hln : (p.lens ++ [n]).length = p.lens.length + 1 := by simp
  refine con_of Tryd.func4 rfl (by kernel_rfl) rfl ?_
  simp only [Tryd.ntmps4, Tryd.results4, argEnv, ofC, of1, List.map]
  repeat' (first
 | (with_reducible refine aw_cut_at2 3 ⟨130, [(1, .c (Cu.LP l)), (2, A n), (3, .ptr 0 0), (7, .ptr 1 0), (8, .ptr 2 0)], [(0, some (.cells 31 (caseA p s))), (1, some (.cells 41 (planA p))), (2, some (.cells 43 [.c (LL s.1), .c (LD s.2)]))], 3, Cu.G⟩ ⟨130, [(1, .c (Cu.LP l)), (2, A n), (3, .ptr 0 0), (7, .ptr 2 0), (8, .ptr 1 0)], [(0, some (.cells 31 (caseA p s))), (2, some (.cells 41 (planA p))), (1, some (.cells 43 [.c (LL s.1), .c (LD s.2)]))], 3, Cu.G⟩ ?_ ?_ ?_)
 | ((with_reducible refine cutQ2_l ?_ rfl); (refine weak_mk rfl ?_ ?_ <;> repeat (first | exact envW_nil | exact heapW_nil | refine envW_cons rfl rfl ?_ | refine heapW_cons rfl rfl rfl ?_)); done)
 | ((with_reducible refine cutQ2_r ?_ rfl); (refine weak_mk rfl ?_ ?_ <;> repeat (first | exact envW_nil | exact heapW_nil | refine envW_cons rfl rfl ?_ | refine heapW_cons rfl rfl rfl ?_)); done)
 | (refine aw_freezecell 1 1 (E := 3) (size := 1) (xs := (p.lens ++ [n]).flatMap inC) rfl rfl rfl (by rw [flat_len EncL.len, hln]; omega) rfl ?_)
 | (refine aw_freezecell 2 1 (E := 3) (size := 1) (xs := (p.lens ++ [n]).flatMap inC) rfl rfl rfl (by rw [flat_len EncL.len, hln]; omega) rfl ?_)
 | (refine aw_drawS [1, 2] [0, 1, 2, 3, 4, 5] 4 ?_ rfl ?_; (decide +kernel); (simp only [pk, List.drop_succ_cons, List.drop_zero, List.map_cons, List.map_nil, List.cons_append, List.nil_append]))
 | ((with_reducible apply ds_nilS))
 | ((with_reducible apply d3_nil); (decide +kernel))
 | (first | (refine d3_step [6] (by decide +kernel) rfl ?_) | (refine d3_step [7] (by decide +kernel) rfl ?_) | (refine d3_step [8] (by decide +kernel) rfl ?_) | (refine d3_step [9] (by decide +kernel) rfl ?_) | (refine d3_step [6, 7] (by decide +kernel) rfl ?_) | (refine d3_step [6, 8] (by decide +kernel) rfl ?_) | (refine d3_step [6, 9] (by decide +kernel) rfl ?_) | (refine d3_step [7, 8] (by decide +kernel) rfl ?_) | (refine d3_step [7, 9] (by decide +kernel) rfl ?_) | (refine d3_step [8, 9] (by decide +kernel) rfl ?_) | (refine d3_step [6, 7, 8] (by decide +kernel) rfl ?_) | (refine d3_step [6, 7, 9] (by decide +kernel) rfl ?_) | (refine d3_step [6, 8, 9] (by decide +kernel) rfl ?_) | (refine d3_step [7, 8, 9] (by decide +kernel) rfl ?_))
 | ((with_reducible refine List.forall_mem_cons.2 ⟨?_, ?_⟩))
 | ((with_reducible exact d3_none))
 | ((with_reducible apply d3_a); exact rfl; exact inferInstance; exact rfl)
 | ((with_reducible apply d3_pa); exact rfl; exact inferInstance; exact rfl; exact rfl; exact rfl; exact rfl; exact rfl; exact rfl; exact rfl; exact rfl)
 | ((with_reducible apply d3_p); exact rfl; exact inferInstance; exact rfl; exact rfl; exact rfl; exact rfl; exact rfl; exact rfl; exact rfl; exact rfl)
 | ((with_reducible apply (r_appendl (enc := inC) (l := []) (l2 := p.lens))); exact rfl; exact rfl; exact inferInstance; exact rfl; exact rfl; exact (by simp; omega); exact (by simp; omega); exact rfl)
 | ((with_reducible apply (r_push (enc := inC) (x0 := n))); exact rfl; exact rfl; exact inferInstance; exact (by simp); exact rfl; exact rfl; exact rfl; exact (by simp; omega); exact (by simp; omega); exact rfl)
 | ((with_reducible apply r_call); exact rfl; exact rfl; (first | exact cl | exact c0 | exact c1 | exact c2 | exact c3 | exact c4 | exact c6 | exact c7 | exact c9' | exact aw); exact rfl; exact rfl)
 | ((with_reducible apply aw_seq))
 | ((with_reducible apply aw_region))
 | ((with_reducible apply thn_normal))
 | ((with_reducible apply aw_skip))
 | ((with_reducible apply aw_ret))
 | ((with_reducible apply ao_nil))
 | ((with_reducible apply r_move); exact rfl; exact rfl)
 | ((with_reducible apply r_assign); exact rfl; exact rfl)
 | ((with_reducible apply r_field_p); exact rfl; exact rfl)
 | ((with_reducible apply r_load_p); exact rfl; exact rfl; exact rfl; exact rfl)
 | ((with_reducible apply r_load_pa); exact rfl; exact rfl; exact rfl; exact rfl; exact rfl)
 | ((with_reducible apply r_lss); exact rfl; exact rfl; exact rfl)
 | ((with_reducible apply r_gtr); exact rfl; exact rfl; exact rfl)
 | ((with_reducible apply r_eql); exact rfl; exact rfl; exact rfl)
 | ((with_reducible apply r_neq); exact rfl; exact rfl; exact rfl)
 | ((with_reducible apply r_box_a); exact rfl; exact rfl)
 | ((with_reducible apply r_pick_t); exact rfl; exact rfl; exact rfl)
 | ((with_reducible apply r_pick_f); exact rfl; exact rfl; exact rfl)
 | ((with_reducible apply r_not); exact rfl; exact rfl)
 | ((with_reducible apply r_len_f); exact rfl; exact inferInstance; exact rfl)
 | ((with_reducible apply r_store_p); exact rfl; exact rfl; exact rfl; exact rfl; exact rfl; exact rfl)
 | ((with_reducible apply r_extract); exact rfl; exact rfl; exact rfl)
 | (((with_reducible apply r_guard); exact rfl; exact rfl; exact rfl; exact rfl) <;> intro hg <;> (first | (exact absurd hg (by decide)) | ((try simp only [decide_eq_true_eq, decide_eq_false_iff_not, Bool.not_eq_true', Bool.not_eq_false', Bool.not_true, Bool.not_false, Bool.not_not, Int.not_lt, Int.not_le, Nat.not_lt, Nat.not_le, gt_iff_lt, ge_iff_le, List.cons.injEq, and_true] at hg); first | (exact absurd trivial hg) | (exfalso; omega) | (have hT : True := hg; clear hT hg) | skip)))
 | ((with_reducible apply r_guard_none); exact rfl; exact rfl; exact rfl; exact rfl)
 | (((with_reducible apply aw_cond); exact rfl) <;> intro hg <;> (first | (exact absurd hg (by decide)) | ((try simp only [decide_eq_true_eq, decide_eq_false_iff_not, Bool.not_eq_true', Bool.not_eq_false', Bool.not_true, Bool.not_false, Bool.not_not, Int.not_lt, Int.not_le, Nat.not_lt, Nat.not_le, gt_iff_lt, ge_iff_le, List.cons.injEq, and_true] at hg); first | (exact absurd trivial hg) | (exfalso; omega) | (have hT : True := hg; clear hT hg) | skip)))
 | ((with_reducible apply r_lit); exact rfl; exact rfl; exact rfl; exact rfl; exact rfl; exact rfl; exact rfl)
 | ((with_reducible apply r_lit0); exact rfl)
    )
  all_goals first | exact ret_b rfl rfl | (exfalso; omega) | exact ret_b rfl (by simp) | trace_state
end Go.Proofs.YtkhljpbkebnnmaaDoor.Bu
