/- TK TOpen: texts laid together. -/
import Derived.Test.YtdndfncpglfdeaaMrgX4
import Derived.Test.YtdndfncpglfdeaaMrgF0
import Derived.ChangeSame
set_option maxRecDepth 100000
set_option maxHeartbeats 64000000
/- Boards for orders: the law. -/
namespace Go.Proofs.Ytdndfncpglfdeaa.To
set_option linter.unusedVariables false
set_option linter.unusedSimpArgs false
open Go.RowKit Go.Proofs.Ytdndfncpglfdeaa.Ev
variable {gl : List (Nat × List CV)}
theorem ds_app {P : Program} {ops : Array Oper} {L : St → Prop} {st : St} {o : Oper} {l1 l2 : List Oper} (h : DSeq P ops L (o :: (List.append l1 l2)) st) : DSeq P ops L (List.append (o :: l1) l2) st := h
theorem ds_app0 {P : Program} {ops : Array Oper} {L : St → Prop} {st : St} {l2 : List Oper} (h : DSeq P ops L l2 st) : DSeq P ops L (List.append [] l2) st := h
theorem aw_fz {P : Program} {Q : Exit → St → Prop} {c : Code} {n : Nat} {env : List (Nat × AV)} {heap : List (Nat × Option AB)} {nx : Nat} (i : Nat) {b m E size : Nat} {xs : List CV} (hi : Ev.look i env = some (.vec b m)) (hH : St.H ⟨n, env, heap, nx, gl⟩ b = some (.vec E size xs)) (hn : xs.length = m * size) (h : Awp P c Q ⟨n, (i, .c (.lst size xs)) :: env, (b, none) :: heap, nx, gl⟩) : Awp P c Q ⟨n, env, heap, nx, gl⟩ :=
  aw_freeze (st := ⟨n, env, heap, nx, gl⟩) i hi hH hn h
theorem map_flat {os : List Ord} (f : Ord → Int) : ((os.map f).flatMap intC).length = os.length * 1 := by
  rw [flat_len EncL.len, List.length_map]
theorem tab_tab (os : List Ord) (l : List Brd) (h0 : 0 < os.length) (h1 : os.length ≤ 8) (h2 : l.length ≤ 16) : Tab (tabS os l) l.length := by
  have e : (tabS os l).length = os.length := by unfold tabS; rw [List.length_map]
  exact ⟨by rw [e]; exact h0, by rw [e]; omega, by omega, fun i h => by simp [tabS, rowS]⟩
theorem most_most (os : List Ord) (l : List Brd) (hg : ∀ o ∈ os, Good o) : MostA (tabS os l) (os.map mostI) := by
  refine ⟨by simp [tabS], fun i h => ?_⟩
  have hi : i < os.length := by simpa using h
  have := hg os[i] (List.getElem_mem hi)
  obtain ⟨h1, h2, h3, h4, h5, h6⟩ := this
  rw [List.getElem_map]
  unfold mostI
  omega
theorem least_least (os : List Ord) (l : List Brd) (hg : ∀ o ∈ os, Good o) : LeastA (tabS os l) (os.map leastI) (os.map mostI) := by
  refine ⟨by simp [tabS], fun i h h' => ?_⟩
  have hi : i < os.length := by simpa using h
  have := hg os[i] (List.getElem_mem hi)
  obtain ⟨h1, h2, h3, h4, h5, h6⟩ := this
  rw [List.getElem_map, List.getElem_map]
  unfold leastI mostI
  omega
theorem fit_fits {os : List Ord} {l : List Brd} {i b : Nat} (hi : i < os.length) (hb : b < l.length) (h : fit (tabS os l) i b = true) : fitsS os[i] l[b] = 0 := by
  unfold fit at h
  rw [List.getD_eq_getElem?_getD (l := tabS os l)] at h
  unfold tabS at h
  rw [List.getElem?_map, List.getElem?_eq_getElem hi] at h
  have h : (rowS os[i] l).getD b false = true := h
  rw [List.getD_eq_getElem?_getD] at h
  unfold rowS at h
  rw [List.getElem?_map, List.getElem?_eq_getElem hb] at h
  have h : decide (fitsS os[i] l[b] = 0) = true := h
  exact of_decide_eq_true h
theorem TopOrders_con (os : List Ord) (l : List Brd) (other : List Int) : Con Try.prog gl 3 [LO os, LB18 l, LI other] T := by
  have ca := awake_con (gl := gl)
  by_cases h0 : 0 < os.length ∧ os.length ≤ 8 ∧ l.length ≤ 16
  rotate_left
  · skip
    refine con_of Try.func3 rfl (by kernel_rfl) rfl ?_
    simp only [Try.ntmps3, Try.results3, argEnv, ofC, of1, List.map]
    repeat' (first
 | ((with_reducible apply (r_call (f := 4))); exact rfl; exact rfl; exact ca; exact rfl; exact rfl)
 | ((with_reducible apply aw_seq))
 | ((with_reducible apply aw_region))
 | ((with_reducible apply thn_normal))
 | ((with_reducible apply thn_ret))
 | ((with_reducible apply aw_ret))
 | ((with_reducible apply ao_nil))
 | ((with_reducible apply r_move); exact rfl; exact rfl)
 | ((with_reducible apply r_assign); exact rfl; exact rfl)
 | ((with_reducible apply r_gtr); exact rfl; exact rfl; exact rfl)
 | ((with_reducible apply r_eql); exact rfl; exact rfl; exact rfl)
 | ((with_reducible apply r_pick_t); exact rfl; exact rfl; exact rfl)
 | ((with_reducible apply r_pick_f); exact rfl; exact rfl; exact rfl)
 | ((with_reducible apply r_len_f); exact rfl; exact inferInstance; exact rfl)
 | (((with_reducible apply r_guard); exact rfl; exact rfl; exact rfl; exact rfl) <;> intro hg <;> (first | (exact absurd hg (by decide)) | ((try simp only [decide_eq_true_eq, decide_eq_false_iff_not, Bool.not_eq_true', Bool.not_eq_false', Bool.not_true, Bool.not_false, Bool.not_not, Int.not_lt, Int.not_le, Nat.not_lt, Nat.not_le, gt_iff_lt, ge_iff_le, List.cons.injEq, and_true] at hg); first | (exact absurd trivial hg) | (exfalso; omega) | (have hT : True := hg; clear hT hg) | skip)))
 | (((with_reducible apply aw_cond); exact rfl) <;> intro hg <;> (first | (exact absurd hg (by decide)) | ((try simp only [decide_eq_true_eq, decide_eq_false_iff_not, Bool.not_eq_true', Bool.not_eq_false', Bool.not_true, Bool.not_false, Bool.not_not, Int.not_lt, Int.not_le, Nat.not_lt, Nat.not_le, gt_iff_lt, ge_iff_le, List.cons.injEq, and_true] at hg); first | (exact absurd trivial hg) | (exfalso; omega) | (have hT : True := hg; clear hT hg) | skip)))
 )
    all_goals exact ret_b rfl rfl
  obtain ⟨h1, h2, h3⟩ := h0
  refine con_of Try.func3 rfl (by kernel_rfl) rfl ?_
  simp only [Try.ntmps3, Try.results3, argEnv, ofC, of1, List.map]
  repeat' (first
 | ((with_reducible apply aw_seq))
 | ((with_reducible apply aw_region))
 | ((with_reducible apply aw_block))
 | ((with_reducible apply thn_normal))
 | ((with_reducible apply aw_skip))
 | ((with_reducible apply ao_nil))
 | ((with_reducible apply r_move); exact rfl; exact rfl)
 | ((with_reducible apply r_assign); exact rfl; exact rfl)
 | ((with_reducible apply r_gtr); exact rfl; exact rfl; exact rfl)
 | ((with_reducible apply r_eql); exact rfl; exact rfl; exact rfl)
 | ((with_reducible apply r_pick_f); exact rfl; exact rfl; exact rfl)
 | ((with_reducible apply r_len_f); exact rfl; exact inferInstance; exact rfl)
 | (((with_reducible apply r_guard); exact rfl; exact rfl; exact rfl; exact rfl) <;> intro hg <;> (first | (exact absurd hg (by decide)) | ((try simp only [decide_eq_true_eq, decide_eq_false_iff_not, Bool.not_eq_true', Bool.not_eq_false', Bool.not_true, Bool.not_false, Bool.not_not, Int.not_lt, Int.not_le, Nat.not_lt, Nat.not_le, gt_iff_lt, ge_iff_le, List.cons.injEq, and_true] at hg); first | (exact absurd trivial hg) | (exfalso; omega) | (have hT : True := hg; clear hT hg) | skip)))
 | (((with_reducible apply aw_cond); exact rfl) <;> intro hg <;> (first | (exact absurd hg (by decide)) | ((try simp only [decide_eq_true_eq, decide_eq_false_iff_not, Bool.not_eq_true', Bool.not_eq_false', Bool.not_true, Bool.not_false, Bool.not_not, Int.not_lt, Int.not_le, Nat.not_lt, Nat.not_le, gt_iff_lt, ge_iff_le, List.cons.injEq, and_true] at hg); first | (exact absurd trivial hg) | (exfalso; omega) | (have hT : True := hg; clear hT hg) | skip)))
 )
  refine aw_nilvec 7 3 1 rfl rfl ?_
  refine aw_nilvec 8 3 1 rfl rfl ?_
  refine aw_loopG (G := Nat) (fun (j : Nat) => j ≤ os.length ∧ ∀ o ∈ os.take j, Good o) (fun (j : Nat) => os.length - j) (fun (j : Nat) => [(0, .c (LO os)), (1, .c (LB18 l)), (2, .c (LI other)), (7, .vec 0 j), (8, .vec 1 j), (9, A j)]) (fun (j : Nat) => [(0, some (.vec 3 1 (((os.take j).map leastI).flatMap intC))), (1, some (.vec 3 1 (((os.take j).map mostI).flatMap intC)))]) 2 0 ?_ (by refine weak_mk rfl ?_ ?_ <;> repeat (first | exact envW_nil | exact heapW_nil | refine envW_cons rfl rfl ?_ | refine heapW_cons rfl rfl rfl ?_)) rfl ?_
  · exact ⟨Nat.zero_le _, by simp⟩
  rintro j hI
  try dsimp only at hI
  try dsimp only
  obtain ⟨hj, hI⟩ := hI
  by_cases hjl : j < os.length
  · by_cases hgd : Good os[j] ∧ os[j].sp.size ≤ 100
    rotate_left
    · unfold Good at hgd
      repeat' (first
 | ((with_reducible apply ds_app))
 | ((with_reducible apply ds_app0))
 | ((with_reducible apply r_len_s); exact rfl; exact rfl)
 | ((with_reducible apply (r_call (f := 4))); exact rfl; exact rfl; exact ca; exact rfl; exact rfl)
 | ((with_reducible apply aw_seq))
 | ((with_reducible apply aw_region))
 | ((with_reducible apply aw_block))
 | ((with_reducible apply thn_normal))
 | ((with_reducible apply thn_ret))
 | ((with_reducible apply inb_ret))
 | ((with_reducible apply aw_skip))
 | ((with_reducible apply aw_ret))
 | ((with_reducible apply ao_nil))
 | ((with_reducible apply r_move); exact rfl; exact rfl)
 | ((with_reducible apply r_assign); exact rfl; exact rfl)
 | ((with_reducible apply r_lss); exact rfl; exact rfl; exact rfl)
 | ((with_reducible apply r_gtr); exact rfl; exact rfl; exact rfl)
 | ((with_reducible apply r_geq); exact rfl; exact rfl; exact rfl)
 | ((with_reducible apply r_sub); exact rfl; exact rfl; exact (by first | assumption | (unfold fits; omega)); exact rfl)
 | ((with_reducible apply r_pick_t); exact rfl; exact rfl; exact rfl)
 | ((with_reducible apply r_pick_f); exact rfl; exact rfl; exact rfl)
 | ((with_reducible apply r_len_f); exact rfl; exact inferInstance; exact rfl)
 | ((with_reducible apply r_index_f); exact rfl; exact inferInstance; exact rfl; exact rfl; (first | assumption | omega); exact rfl)
 | ((with_reducible apply r_load_f); exact rfl; exact inferInstance; exact List.getElem?_eq_getElem (by first | assumption | omega); exact rfl; exact rfl; exact rfl)
 | ((with_reducible apply r_field_e); exact rfl; exact rfl)
 | (((with_reducible apply aw_cond); exact rfl) <;> intro hg <;> (first | (exact absurd hg (by decide)) | ((try simp only [decide_eq_true_eq, decide_eq_false_iff_not, Bool.not_eq_true', Bool.not_eq_false', Bool.not_true, Bool.not_false, Bool.not_not, Int.not_lt, Int.not_le, Nat.not_lt, Nat.not_le, gt_iff_lt, ge_iff_le, List.cons.injEq, and_true] at hg); first | (exact absurd trivial hg) | (exfalso; omega) | (have hT : True := hg; clear hT hg) | skip)))
 | (refine aw_drawq ?_ ?_; (kernel_rfl))
 | ((with_reducible apply ds_nil))
 | (((with_reducible apply rd_guard); exact rfl; exact rfl; exact rfl) <;> intro hg <;> (first | (exact absurd hg (by decide)) | ((try rw [hg]); (try simp only [decide_eq_true_eq, decide_eq_false_iff_not, Bool.not_eq_true', Bool.not_eq_false', Bool.not_true, Bool.not_false, Bool.not_not, Int.not_lt, Int.not_le, Nat.not_lt, Nat.not_le, gt_iff_lt, ge_iff_le, List.cons.injEq, and_true] at hg); first | (exact absurd trivial hg) | (exfalso; omega) | (have hT : True := hg; clear hT hg) | skip)))
 )
      all_goals exact ret_b rfl rfl
    obtain ⟨hgd, hsz⟩ := hgd
    have c1 := least_con (gl := gl) os[j] hgd
    have c2 := most_con (gl := gl) os[j] hgd
    have hgd' := hgd
    obtain ⟨g1, g2, g3, g4, g5, g6⟩ := hgd'
    have e1 : (os.take j).map leastI ++ [leastI os[j]] = (os.take (j + 1)).map leastI := by
      rw [List.take_succ_eq_append_getElem hjl, List.map_append]; rfl
    have e2 : (os.take j).map mostI ++ [mostI os[j]] = (os.take (j + 1)).map mostI := by
      rw [List.take_succ_eq_append_getElem hjl, List.map_append]; rfl
    have m1 : ((os.take j).map leastI).length = j := by simp; omega
    have m2 : ((os.take j).map mostI).length = j := by simp; omega
    repeat' (first
 | ((with_reducible apply ds_app))
 | ((with_reducible apply ds_app0))
 | ((with_reducible apply r_len_s); exact rfl; exact rfl)
 | ((with_reducible apply (r_call (f := 5))); exact rfl; exact rfl; exact c1; exact rfl; exact rfl)
 | ((with_reducible apply (r_call (f := 6))); exact rfl; exact rfl; exact c2; exact rfl; exact rfl)
 | ((with_reducible apply r_litq); exact rfl; exact rfl; exact rfl; exact rfl; exact rfl; exact rfl; exact rfl)
 | ((with_reducible apply (r_appendl (enc := intC) (l2 := [leastI os[j]]))); exact rfl; exact rfl; exact inferInstance; exact m1; exact rfl; exact (by show j + 1 < _; omega); exact (by show (j + 1) * _ ≤ _; omega); exact rfl)
 | ((with_reducible apply (r_appendl (enc := intC) (l2 := [mostI os[j]]))); exact rfl; exact rfl; exact inferInstance; exact m2; exact rfl; exact (by show j + 1 < _; omega); exact (by show (j + 1) * _ ≤ _; omega); exact rfl)
 | ((with_reducible apply aw_seq))
 | ((with_reducible apply aw_region))
 | ((with_reducible apply aw_block))
 | ((with_reducible apply thn_normal))
 | ((with_reducible apply inb_normal))
 | ((with_reducible apply aw_skip))
 | ((with_reducible apply ao_nil))
 | ((with_reducible apply r_move); exact rfl; exact rfl)
 | ((with_reducible apply r_assign); exact rfl; exact rfl)
 | ((with_reducible apply r_lss); exact rfl; exact rfl; exact rfl)
 | ((with_reducible apply r_gtr); exact rfl; exact rfl; exact rfl)
 | ((with_reducible apply r_geq); exact rfl; exact rfl; exact rfl)
 | ((with_reducible apply r_add); exact rfl; exact rfl; exact (by first | assumption | (unfold fits; omega)); exact rfl)
 | ((with_reducible apply r_sub); exact rfl; exact rfl; exact (by first | assumption | (unfold fits; omega)); exact rfl)
 | ((with_reducible apply r_pick_f); exact rfl; exact rfl; exact rfl)
 | ((with_reducible apply r_len_f); exact rfl; exact inferInstance; exact rfl)
 | ((with_reducible apply r_index_f); exact rfl; exact inferInstance; exact rfl; exact rfl; (first | assumption | omega); exact rfl)
 | ((with_reducible apply r_load_f); exact rfl; exact inferInstance; exact List.getElem?_eq_getElem (by first | assumption | omega); exact rfl; exact rfl; exact rfl)
 | ((with_reducible apply r_load_fa0); exact rfl; exact inferInstance; exact List.getElem?_eq_getElem (by first | assumption | omega); exact rfl; exact rfl; exact rfl)
 | ((with_reducible apply r_field_e); exact rfl; exact rfl)
 | (((with_reducible apply aw_cond); exact rfl) <;> intro hg <;> (first | (exact absurd hg (by decide)) | ((try simp only [decide_eq_true_eq, decide_eq_false_iff_not, Bool.not_eq_true', Bool.not_eq_false', Bool.not_true, Bool.not_false, Bool.not_not, Int.not_lt, Int.not_le, Nat.not_lt, Nat.not_le, gt_iff_lt, ge_iff_le, List.cons.injEq, and_true] at hg); first | (exact absurd trivial hg) | (exfalso; omega) | (have hT : True := hg; clear hT hg) | skip)))
 | (refine aw_drawq ?_ ?_; (kernel_rfl))
 | ((with_reducible apply ds_nil))
 | (((with_reducible apply rd_guard); exact rfl; exact rfl; exact rfl) <;> intro hg <;> (first | (exact absurd hg (by decide)) | ((try rw [hg]); (try simp only [decide_eq_true_eq, decide_eq_false_iff_not, Bool.not_eq_true', Bool.not_eq_false', Bool.not_true, Bool.not_false, Bool.not_not, Int.not_lt, Int.not_le, Nat.not_lt, Nat.not_le, gt_iff_lt, ge_iff_le, List.cons.injEq, and_true] at hg); first | (exact absurd trivial hg) | (exfalso; omega) | (have hT : True := hg; clear hT hg) | skip)))
 )
    rw [e1, e2]
    refine ⟨j + 1, ?_, ?_, by refine weak_mk rfl ?_ ?_ <;> repeat (first | exact envW_nil | exact heapW_nil | refine envW_cons rfl rfl ?_ | refine heapW_cons rfl rfl rfl ?_)⟩
    · omega
    · refine ⟨by omega, fun o ho => ?_⟩
      rw [List.take_succ_eq_append_getElem hjl, List.mem_append] at ho
      rcases ho with ho | ho
      · exact hI o ho
      · rw [List.mem_singleton] at ho; subst ho; exact hgd
  obtain rfl : j = os.length := by omega
  rw [List.take_length] at hI ⊢
  refine aw_fz 7 rfl rfl (map_flat _) ?_
  refine aw_fz 8 rfl rfl (map_flat _) ?_
  have hT := tab_tab os l h1 h2 h3
  have hM := most_most os l hI
  have hL := least_least os l hI
  have ct := table_con (gl := gl) os l (by omega) (by omega)
  repeat' (first
 | ((with_reducible apply aw_seq))
 | ((with_reducible apply aw_region))
 | ((with_reducible apply aw_block))
 | ((with_reducible apply thn_normal))
 | ((with_reducible apply thn_exit))
 | ((with_reducible apply inb_exit))
 | ((with_reducible apply aw_exit))
 | ((with_reducible apply ao_nil))
 | ((with_reducible apply r_move); exact rfl; exact rfl)
 | ((with_reducible apply r_assign); exact rfl; exact rfl)
 | ((with_reducible apply r_lss); exact rfl; exact rfl; exact rfl)
 | ((with_reducible apply r_len_f); exact rfl; exact inferInstance; exact rfl)
 | (((with_reducible apply aw_cond); exact rfl) <;> intro hg <;> (first | (exact absurd hg (by decide)) | ((try simp only [decide_eq_true_eq, decide_eq_false_iff_not, Bool.not_eq_true', Bool.not_eq_false', Bool.not_true, Bool.not_false, Bool.not_not, Int.not_lt, Int.not_le, Nat.not_lt, Nat.not_le, gt_iff_lt, ge_iff_le, List.cons.injEq, and_true] at hg); first | (exact absurd trivial hg) | (exfalso; omega) | (have hT : True := hg; clear hT hg) | skip)))
 )
  refine aw_loopG (G := Nat) (fun (j : Nat) => j ≤ l.length) (fun (j : Nat) => l.length - j) (fun (j : Nat) => [(0, .c (LO os)), (1, .c (LB18 l)), (2, .c (LI other)), (7, .c (LI (os.map leastI))), (8, .c (LI (os.map mostI))), (10, A j)]) (fun (j : Nat) => []) 2 0 ?_ (by refine weak_mk rfl ?_ ?_ <;> repeat (first | exact envW_nil | exact heapW_nil | refine envW_cons rfl rfl ?_ | refine heapW_cons rfl rfl rfl ?_)) rfl ?_
  · exact Nat.zero_le _
  rintro j hI
  try dsimp only at hI
  try dsimp only
  by_cases hjl : j < l.length
  · skip
    repeat' (first
 | ((with_reducible apply r_len_s); exact rfl; exact rfl)
 | ((with_reducible apply (r_call (f := 4))); exact rfl; exact rfl; exact ca; exact rfl; exact rfl)
 | ((with_reducible apply aw_seq))
 | ((with_reducible apply aw_region))
 | ((with_reducible apply aw_block))
 | ((with_reducible apply thn_normal))
 | ((with_reducible apply thn_ret))
 | ((with_reducible apply inb_normal))
 | ((with_reducible apply inb_ret))
 | ((with_reducible apply aw_skip))
 | ((with_reducible apply aw_ret))
 | ((with_reducible apply ao_nil))
 | ((with_reducible apply r_move); exact rfl; exact rfl)
 | ((with_reducible apply r_assign); exact rfl; exact rfl)
 | ((with_reducible apply r_lss); exact rfl; exact rfl; exact rfl)
 | ((with_reducible apply r_gtr); exact rfl; exact rfl; exact rfl)
 | ((with_reducible apply r_add); exact rfl; exact rfl; exact (by first | assumption | (unfold fits; omega)); exact rfl)
 | ((with_reducible apply r_len_f); exact rfl; exact inferInstance; exact rfl)
 | ((with_reducible apply r_index_f); exact rfl; exact inferInstance; exact rfl; exact rfl; (first | assumption | omega); exact rfl)
 | ((with_reducible apply r_load_f); exact rfl; exact inferInstance; exact List.getElem?_eq_getElem (by first | assumption | omega); exact rfl; exact rfl; exact rfl)
 | ((with_reducible apply r_field_e); exact rfl; exact rfl)
 | (((with_reducible apply aw_cond); exact rfl) <;> intro hg <;> (first | (exact absurd hg (by decide)) | ((try simp only [decide_eq_true_eq, decide_eq_false_iff_not, Bool.not_eq_true', Bool.not_eq_false', Bool.not_true, Bool.not_false, Bool.not_not, Int.not_lt, Int.not_le, Nat.not_lt, Nat.not_le, gt_iff_lt, ge_iff_le, List.cons.injEq, and_true] at hg); first | (exact absurd trivial hg) | (exfalso; omega) | (have hT : True := hg; clear hT hg) | skip)))
 )
    any_goals exact ret_b rfl rfl
    refine ⟨j + 1, ?_, ?_, by refine weak_mk rfl ?_ ?_ <;> repeat (first | exact envW_nil | exact heapW_nil | refine envW_cons rfl rfl ?_ | refine heapW_cons rfl rfl rfl ?_)⟩
    · omega
    · omega
  repeat' (first
 | ((with_reducible apply (r_call (f := 7))); exact rfl; exact rfl; exact ct; exact rfl; exact rfl)
 | ((with_reducible apply aw_seq))
 | ((with_reducible apply aw_region))
 | ((with_reducible apply thn_normal))
 | ((with_reducible apply thn_exit))
 | ((with_reducible apply inb_exit))
 | ((with_reducible apply aw_exit))
 | ((with_reducible apply ao_nil))
 | ((with_reducible apply r_move); exact rfl; exact rfl)
 | ((with_reducible apply r_assign); exact rfl; exact rfl)
 | ((with_reducible apply r_lss); exact rfl; exact rfl; exact rfl)
 | ((with_reducible apply r_len_f); exact rfl; exact inferInstance; exact rfl)
 | (((with_reducible apply aw_cond); exact rfl) <;> intro hg <;> (first | (exact absurd hg (by decide)) | ((try simp only [decide_eq_true_eq, decide_eq_false_iff_not, Bool.not_eq_true', Bool.not_eq_false', Bool.not_true, Bool.not_false, Bool.not_not, Int.not_lt, Int.not_le, Nat.not_lt, Nat.not_le, gt_iff_lt, ge_iff_le, List.cons.injEq, and_true] at hg); first | (exact absurd trivial hg) | (exfalso; omega) | (have hT : True := hg; clear hT hg) | skip)))
 )
  have hFl : (tabS os l).length = os.length := by unfold tabS; rw [List.length_map]
  refine r_callE (f := 8) (countsF_con (tabS os l) l.length (os.map mostI) hT hM) rfl rfl rfl ?_
  intro γ
  obtain ⟨c, hc⟩ : ∃ c, γ.1 = c := ⟨_, rfl⟩
  rw [hc]
  obtain ⟨g', hg', hcc⟩ : CountsA (tabS os l) l.length (os.map mostI) c := by rw [← hc]; exact γ.2
  clear hc γ
  have hcl : c.length = os.length := by rw [hcc, cntL_len, hFl]
  repeat' (first
 | ((with_reducible apply aw_seq))
 | ((with_reducible apply aw_region))
 | ((with_reducible apply thn_normal))
 | ((with_reducible apply ao_nil))
 | ((with_reducible apply r_move); exact rfl; exact rfl)
 | ((with_reducible apply r_assign); exact rfl; exact rfl)
 | ((with_reducible apply r_extract); exact rfl; exact rfl; exact rfl)
 )
  refine r_callE (f := 9) (best_con (tabS os l) l.length (os.map leastI) (os.map mostI) hT hM hL) rfl rfl rfl ?_
  intro γ
  obtain ⟨b, hb⟩ : ∃ b, γ.1 = b := ⟨_, rfl⟩
  rw [hb]
  obtain ⟨f, g, hg, hf, hfil, hle, hsame, hbb⟩ : BestA (tabS os l) l.length (os.map leastI) (os.map mostI) b := by rw [← hb]; exact γ.2
  clear hb γ
  have hbl : b.length = l.length := by rw [hbb, listA_len]
  have hba : asgL b = f := by rw [hbb]; exact asgL_listA hf
  have hvb : ValidA (tabS os l) l.length (os.map mostI) b := by rw [hbb]; exact valid_list hf hle
  have cv := valid_con (gl := gl) (tabS os l) l.length (os.map mostI) b hT hM (by omega) true ⟨fun _ => hvb, fun _ => rfl⟩
  have cc := counts_con (gl := gl) os.length b (by omega) (by omega)
  obtain ⟨got, hgot⟩ : ∃ got, cntL (asgL b) os.length b.length = got := ⟨_, rfl⟩
  rw [hgot] at cc
  have hgl : got.length = os.length := by rw [← hgot, cntL_len]
  have hgi : ∀ (i : Nat) (h : i < got.length), got[i] = (cnt f i l.length : Int) := fun i h => by
    have e := cntL_get (asgL b) (n := os.length) b.length (i := i) (by omega)
    rw [hgot, hba, hbl] at e
    exact (List.getElem?_eq_some_iff.1 e).2
  have hci : ∀ (i : Nat) (h : i < c.length), c[i] = (cnt g' i l.length : Int) := fun i h => by
    have e := cntL_get g' (n := os.length) l.length (i := i) (by omega)
    rw [hFl] at hcc
    rw [← hcc] at e
    exact (List.getElem?_eq_some_iff.1 e).2
  have hll : (os.map leastI).length = os.length := List.length_map ..
  repeat' (first
 | ((with_reducible apply (r_call (f := 10))); exact rfl; exact rfl; exact cv; exact rfl; exact rfl)
 | ((with_reducible apply (r_call (f := 11))); exact rfl; exact rfl; exact cc; exact rfl; exact rfl)
 | ((with_reducible apply aw_seq))
 | ((with_reducible apply aw_region))
 | ((with_reducible apply aw_block))
 | ((with_reducible apply thn_normal))
 | ((with_reducible apply aw_skip))
 | ((with_reducible apply ao_nil))
 | ((with_reducible apply r_move); exact rfl; exact rfl)
 | ((with_reducible apply r_assign); exact rfl; exact rfl)
 | ((with_reducible apply r_neq); exact rfl; exact rfl; exact rfl)
 | ((with_reducible apply r_pick_f); exact rfl; exact rfl; exact rfl)
 | ((with_reducible apply r_not); exact rfl; exact rfl)
 | ((with_reducible apply r_len_f); exact rfl; exact inferInstance; exact rfl)
 | ((with_reducible apply r_extract); exact rfl; exact rfl; exact rfl)
 | (((with_reducible apply r_guard); exact rfl; exact rfl; exact rfl; exact rfl) <;> intro hg <;> (first | (exact absurd hg (by decide)) | ((try simp only [decide_eq_true_eq, decide_eq_false_iff_not, Bool.not_eq_true', Bool.not_eq_false', Bool.not_true, Bool.not_false, Bool.not_not, Int.not_lt, Int.not_le, Nat.not_lt, Nat.not_le, gt_iff_lt, ge_iff_le, List.cons.injEq, and_true] at hg); first | (exact absurd trivial hg) | (exfalso; omega) | (have hT : True := hg; clear hT hg) | skip)))
 | (((with_reducible apply aw_cond); exact rfl) <;> intro hg <;> (first | (exact absurd hg (by decide)) | ((try simp only [decide_eq_true_eq, decide_eq_false_iff_not, Bool.not_eq_true', Bool.not_eq_false', Bool.not_true, Bool.not_false, Bool.not_not, Int.not_lt, Int.not_le, Nat.not_lt, Nat.not_le, gt_iff_lt, ge_iff_le, List.cons.injEq, and_true] at hg); first | (exact absurd trivial hg) | (exfalso; omega) | (have hT : True := hg; clear hT hg) | skip)))
 )
  refine aw_loopG (G := Nat) (fun (j : Nat) => j ≤ os.length) (fun (j : Nat) => os.length - j) (fun (j : Nat) => [(0, .c (LO os)), (1, .c (LB18 l)), (2, .c (LI other)), (7, .c (LI (os.map leastI))), (8, .c (LI (os.map mostI))), (11, .c (LLB (tabS os l))), (12, .c (LI c)), (14, .c (LI b)), (16, .c (LI got)), (17, A j)]) (fun (j : Nat) => []) 2 0 ?_ (by refine weak_mk rfl ?_ ?_ <;> repeat (first | exact envW_nil | exact heapW_nil | refine envW_cons rfl rfl ?_ | refine heapW_cons rfl rfl rfl ?_)) rfl ?_
  · exact Nat.zero_le _
  rintro j hI
  try dsimp only at hI
  try dsimp only
  by_cases hjl : j < os.length
  · have q1 := hgi j (by omega)
    have q2 := hfil j (by omega)
    have q3 : (os.map leastI).getD j 0 = (os.map leastI)[j]'(by omega) := getD_get (by omega)
    rw [q3] at q2
    obtain ⟨gj, hgj⟩ : ∃ x, got[j] = x := ⟨_, rfl⟩
    by_cases hc0 : cnt f j l.length = 0
    · skip
      repeat' (first
 | (refine aw_drawt 16 ?_ ?_; (kernel_rfl); (simp only [List.take_succ_cons, List.take_zero, List.drop_succ_cons, List.drop_zero]))
 | ((with_reducible apply aw_seq))
 | ((with_reducible apply aw_region))
 | ((with_reducible apply aw_block))
 | ((with_reducible apply thn_normal))
 | ((with_reducible apply inb_normal))
 | ((with_reducible apply aw_skip))
 | ((with_reducible apply ao_nil))
 | ((with_reducible apply r_move); exact rfl; exact rfl)
 | ((with_reducible apply r_assign); exact rfl; exact rfl)
 | ((with_reducible apply r_lss); exact rfl; exact rfl; exact rfl)
 | ((with_reducible apply r_gtr); exact rfl; exact rfl; exact rfl)
 | ((with_reducible apply r_add); exact rfl; exact rfl; exact (by first | assumption | (unfold fits; omega)); exact rfl)
 | ((with_reducible apply r_pick_f); exact rfl; exact rfl; exact rfl)
 | ((with_reducible apply r_len_f); exact rfl; exact inferInstance; exact rfl)
 | ((with_reducible apply r_index_f); exact rfl; exact inferInstance; exact rfl; exact rfl; (first | assumption | omega); exact rfl)
 | ((with_reducible apply r_load_f0); exact rfl; exact inferInstance; exact List.getElem?_eq_getElem (by first | assumption | omega); exact rfl; exact rfl)
 | (((with_reducible apply aw_cond); exact rfl) <;> intro hg <;> (first | (exact absurd hg (by decide)) | ((try simp only [decide_eq_true_eq, decide_eq_false_iff_not, Bool.not_eq_true', Bool.not_eq_false', Bool.not_true, Bool.not_false, Bool.not_not, Int.not_lt, Int.not_le, Nat.not_lt, Nat.not_le, gt_iff_lt, ge_iff_le, List.cons.injEq, and_true] at hg); first | (exact absurd trivial hg) | (exfalso; omega) | (have hT : True := hg; clear hT hg) | skip)))
 | ((with_reducible apply ds_nil))
 | (((with_reducible apply rd_guard); exact rfl; exact rfl; exact rfl) <;> intro hg <;> (first | (exact absurd hg (by decide)) | ((try rw [hg]); (try simp only [decide_eq_true_eq, decide_eq_false_iff_not, Bool.not_eq_true', Bool.not_eq_false', Bool.not_true, Bool.not_false, Bool.not_not, Int.not_lt, Int.not_le, Nat.not_lt, Nat.not_le, gt_iff_lt, ge_iff_le, List.cons.injEq, and_true] at hg); first | (exact absurd trivial hg) | (exfalso; omega) | (have hT : True := hg; clear hT hg) | skip)))
 )
      refine ⟨j + 1, ?_, ?_, by refine weak_mk rfl ?_ ?_ <;> repeat (first | exact envW_nil | exact heapW_nil | refine envW_cons rfl rfl ?_ | refine heapW_cons rfl rfl rfl ?_)⟩
      · omega
      · omega
    · have q2 := q2.resolve_left hc0
      repeat' (first
 | (refine aw_drawt 16 ?_ ?_; (kernel_rfl); (simp only [List.take_succ_cons, List.take_zero, List.drop_succ_cons, List.drop_zero]))
 | ((with_reducible apply aw_seq))
 | ((with_reducible apply aw_region))
 | ((with_reducible apply aw_block))
 | ((with_reducible apply thn_normal))
 | ((with_reducible apply inb_normal))
 | ((with_reducible apply aw_skip))
 | ((with_reducible apply ao_nil))
 | ((with_reducible apply r_move); exact rfl; exact rfl)
 | ((with_reducible apply r_assign); exact rfl; exact rfl)
 | ((with_reducible apply r_lss); exact rfl; exact rfl; exact rfl)
 | ((with_reducible apply r_gtr); exact rfl; exact rfl; exact rfl)
 | ((with_reducible apply r_add); exact rfl; exact rfl; exact (by first | assumption | (unfold fits; omega)); exact rfl)
 | ((with_reducible apply r_pick_t); exact rfl; exact rfl; exact rfl)
 | ((with_reducible apply r_len_f); exact rfl; exact inferInstance; exact rfl)
 | ((with_reducible apply r_index_f); exact rfl; exact inferInstance; exact rfl; exact rfl; (first | assumption | omega); exact rfl)
 | ((with_reducible apply r_load_f0); exact rfl; exact inferInstance; exact List.getElem?_eq_getElem (by first | assumption | omega); exact rfl; exact rfl)
 | (((with_reducible apply aw_cond); exact rfl) <;> intro hg <;> (first | (exact absurd hg (by decide)) | ((try simp only [decide_eq_true_eq, decide_eq_false_iff_not, Bool.not_eq_true', Bool.not_eq_false', Bool.not_true, Bool.not_false, Bool.not_not, Int.not_lt, Int.not_le, Nat.not_lt, Nat.not_le, gt_iff_lt, ge_iff_le, List.cons.injEq, and_true] at hg); first | (exact absurd trivial hg) | (exfalso; omega) | (have hT : True := hg; clear hT hg) | skip)))
 | ((with_reducible apply ds_nil))
 | (((with_reducible apply rd_guard); exact rfl; exact rfl; exact rfl) <;> intro hg <;> (first | (exact absurd hg (by decide)) | ((try rw [hg]); (try simp only [decide_eq_true_eq, decide_eq_false_iff_not, Bool.not_eq_true', Bool.not_eq_false', Bool.not_true, Bool.not_false, Bool.not_not, Int.not_lt, Int.not_le, Nat.not_lt, Nat.not_le, gt_iff_lt, ge_iff_le, List.cons.injEq, and_true] at hg); first | (exact absurd trivial hg) | (exfalso; omega) | (have hT : True := hg; clear hT hg) | skip)))
 )
      refine ⟨j + 1, ?_, ?_, by refine weak_mk rfl ?_ ?_ <;> repeat (first | exact envW_nil | exact heapW_nil | refine envW_cons rfl rfl ?_ | refine heapW_cons rfl rfl rfl ?_)⟩
      · omega
      · omega
  repeat' (first
 | ((with_reducible apply aw_seq))
 | ((with_reducible apply aw_region))
 | ((with_reducible apply aw_block))
 | ((with_reducible apply thn_normal))
 | ((with_reducible apply thn_exit))
 | ((with_reducible apply inb_exit))
 | ((with_reducible apply aw_exit))
 | ((with_reducible apply ao_nil))
 | ((with_reducible apply r_move); exact rfl; exact rfl)
 | ((with_reducible apply r_assign); exact rfl; exact rfl)
 | ((with_reducible apply r_lss); exact rfl; exact rfl; exact rfl)
 | ((with_reducible apply r_len_f); exact rfl; exact inferInstance; exact rfl)
 | (((with_reducible apply aw_cond); exact rfl) <;> intro hg <;> (first | (exact absurd hg (by decide)) | ((try simp only [decide_eq_true_eq, decide_eq_false_iff_not, Bool.not_eq_true', Bool.not_eq_false', Bool.not_true, Bool.not_false, Bool.not_not, Int.not_lt, Int.not_le, Nat.not_lt, Nat.not_le, gt_iff_lt, ge_iff_le, List.cons.injEq, and_true] at hg); first | (exact absurd trivial hg) | (exfalso; omega) | (have hT : True := hg; clear hT hg) | skip)))
 )
  refine aw_loopG (G := Nat) (fun (j : Nat) => j ≤ l.length) (fun (j : Nat) => l.length - j) (fun (j : Nat) => [(0, .c (LO os)), (1, .c (LB18 l)), (2, .c (LI other)), (8, .c (LI (os.map mostI))), (11, .c (LLB (tabS os l))), (12, .c (LI c)), (14, .c (LI b)), (18, A j)]) (fun (j : Nat) => []) 2 0 ?_ (by refine weak_mk rfl ?_ ?_ <;> repeat (first | exact envW_nil | exact heapW_nil | refine envW_cons rfl rfl ?_ | refine heapW_cons rfl rfl rfl ?_)) rfl ?_
  · exact Nat.zero_le _
  rintro j hI
  try dsimp only at hI
  try dsimp only
  by_cases hjl : j < l.length
  · have q0 := hvb.at_ j b[j] (List.getElem?_eq_getElem (by omega))
    by_cases hb0 : 0 ≤ b[j]
    rotate_left
    · skip
      repeat' (first
 | (refine aw_drawt 17 ?_ ?_; (kernel_rfl); (simp only [List.take_succ_cons, List.take_zero, List.drop_succ_cons, List.drop_zero]))
 | ((with_reducible apply aw_seq))
 | ((with_reducible apply aw_region))
 | ((with_reducible apply aw_block))
 | ((with_reducible apply thn_normal))
 | ((with_reducible apply inb_normal))
 | ((with_reducible apply aw_skip))
 | ((with_reducible apply ao_nil))
 | ((with_reducible apply r_move); exact rfl; exact rfl)
 | ((with_reducible apply r_assign); exact rfl; exact rfl)
 | ((with_reducible apply r_lss); exact rfl; exact rfl; exact rfl)
 | ((with_reducible apply r_geq); exact rfl; exact rfl; exact rfl)
 | ((with_reducible apply r_add); exact rfl; exact rfl; exact (by first | assumption | (unfold fits; omega)); exact rfl)
 | ((with_reducible apply r_pick_f); exact rfl; exact rfl; exact rfl)
 | ((with_reducible apply r_len_f); exact rfl; exact inferInstance; exact rfl)
 | ((with_reducible apply r_index_f); exact rfl; exact inferInstance; exact rfl; exact rfl; (first | assumption | omega); exact rfl)
 | ((with_reducible apply r_load_f0); exact rfl; exact inferInstance; exact List.getElem?_eq_getElem (by first | assumption | omega); exact rfl; exact rfl)
 | (((with_reducible apply r_guard); exact rfl; exact rfl; exact rfl; exact rfl) <;> intro hg <;> (first | (exact absurd hg (by decide)) | ((try simp only [decide_eq_true_eq, decide_eq_false_iff_not, Bool.not_eq_true', Bool.not_eq_false', Bool.not_true, Bool.not_false, Bool.not_not, Int.not_lt, Int.not_le, Nat.not_lt, Nat.not_le, gt_iff_lt, ge_iff_le, List.cons.injEq, and_true] at hg); first | (exact absurd trivial hg) | (exfalso; omega) | (have hT : True := hg; clear hT hg) | skip)))
 | (((with_reducible apply aw_cond); exact rfl) <;> intro hg <;> (first | (exact absurd hg (by decide)) | ((try simp only [decide_eq_true_eq, decide_eq_false_iff_not, Bool.not_eq_true', Bool.not_eq_false', Bool.not_true, Bool.not_false, Bool.not_not, Int.not_lt, Int.not_le, Nat.not_lt, Nat.not_le, gt_iff_lt, ge_iff_le, List.cons.injEq, and_true] at hg); first | (exact absurd trivial hg) | (exfalso; omega) | (have hT : True := hg; clear hT hg) | skip)))
 | ((with_reducible apply ds_nil))
 | (((with_reducible apply rd_guard); exact rfl; exact rfl; exact rfl) <;> intro hg <;> (first | (exact absurd hg (by decide)) | ((try rw [hg]); (try simp only [decide_eq_true_eq, decide_eq_false_iff_not, Bool.not_eq_true', Bool.not_eq_false', Bool.not_true, Bool.not_false, Bool.not_not, Int.not_lt, Int.not_le, Nat.not_lt, Nat.not_le, gt_iff_lt, ge_iff_le, List.cons.injEq, and_true] at hg); first | (exact absurd trivial hg) | (exfalso; omega) | (have hT : True := hg; clear hT hg) | skip)))
 )
      refine ⟨j + 1, ?_, ?_, by refine weak_mk rfl ?_ ?_ <;> repeat (first | exact envW_nil | exact heapW_nil | refine envW_cons rfl rfl ?_ | refine heapW_cons rfl rfl rfl ?_)⟩
      · omega
      · omega
    obtain ⟨_, q1, q2⟩ := q0.resolve_left (by omega)
    obtain ⟨i, hi⟩ : ∃ i : Nat, b[j] = (i : Int) := ⟨b[j].toNat, by omega⟩
    have hio : i < os.length := by rw [hi, hFl] at q1; omega
    have q3 := fit_fits hio hjl (by rw [hi] at q2; exact q2)
    have cf := fits_con (gl := gl) os[i] l[j]
    rw [q3] at cf
    repeat' (first
 | (refine aw_drawt 17 ?_ ?_; (kernel_rfl); (simp only [List.take_succ_cons, List.take_zero, List.drop_succ_cons, List.drop_zero]))
 | ((with_reducible apply (r_index_f (k := i))); exact rfl; exact inferInstance; exact rfl; exact hi; exact hio; exact rfl)
 | ((with_reducible apply (r_call (f := 12))); exact rfl; exact rfl; exact cf; exact rfl; exact rfl)
 | ((with_reducible apply aw_seq))
 | ((with_reducible apply aw_region))
 | ((with_reducible apply aw_block))
 | ((with_reducible apply thn_normal))
 | ((with_reducible apply inb_normal))
 | ((with_reducible apply aw_skip))
 | ((with_reducible apply ao_nil))
 | ((with_reducible apply r_move); exact rfl; exact rfl)
 | ((with_reducible apply r_assign); exact rfl; exact rfl)
 | ((with_reducible apply r_lss); exact rfl; exact rfl; exact rfl)
 | ((with_reducible apply r_geq); exact rfl; exact rfl; exact rfl)
 | ((with_reducible apply r_neq); exact rfl; exact rfl; exact rfl)
 | ((with_reducible apply r_add); exact rfl; exact rfl; exact (by first | assumption | (unfold fits; omega)); exact rfl)
 | ((with_reducible apply r_pick_t); exact rfl; exact rfl; exact rfl)
 | ((with_reducible apply r_len_f); exact rfl; exact inferInstance; exact rfl)
 | ((with_reducible apply r_index_f); exact rfl; exact inferInstance; exact rfl; exact rfl; (first | assumption | omega); exact rfl)
 | ((with_reducible apply r_load_f0); exact rfl; exact inferInstance; exact List.getElem?_eq_getElem (by first | assumption | omega); exact rfl; exact rfl)
 | ((with_reducible apply r_load_fa0); exact rfl; exact inferInstance; exact List.getElem?_eq_getElem (by first | assumption | omega); exact rfl; exact rfl; exact rfl)
 | (((with_reducible apply r_guard); exact rfl; exact rfl; exact rfl; exact rfl) <;> intro hg <;> (first | (exact absurd hg (by decide)) | ((try simp only [decide_eq_true_eq, decide_eq_false_iff_not, Bool.not_eq_true', Bool.not_eq_false', Bool.not_true, Bool.not_false, Bool.not_not, Int.not_lt, Int.not_le, Nat.not_lt, Nat.not_le, gt_iff_lt, ge_iff_le, List.cons.injEq, and_true] at hg); first | (exact absurd trivial hg) | (exfalso; omega) | (have hT : True := hg; clear hT hg) | skip)))
 | (((with_reducible apply aw_cond); exact rfl) <;> intro hg <;> (first | (exact absurd hg (by decide)) | ((try simp only [decide_eq_true_eq, decide_eq_false_iff_not, Bool.not_eq_true', Bool.not_eq_false', Bool.not_true, Bool.not_false, Bool.not_not, Int.not_lt, Int.not_le, Nat.not_lt, Nat.not_le, gt_iff_lt, ge_iff_le, List.cons.injEq, and_true] at hg); first | (exact absurd trivial hg) | (exfalso; omega) | (have hT : True := hg; clear hT hg) | skip)))
 | ((with_reducible apply ds_nil))
 | (((with_reducible apply rd_guard); exact rfl; exact rfl; exact rfl) <;> intro hg <;> (first | (exact absurd hg (by decide)) | ((try rw [hg]); (try simp only [decide_eq_true_eq, decide_eq_false_iff_not, Bool.not_eq_true', Bool.not_eq_false', Bool.not_true, Bool.not_false, Bool.not_not, Int.not_lt, Int.not_le, Nat.not_lt, Nat.not_le, gt_iff_lt, ge_iff_le, List.cons.injEq, and_true] at hg); first | (exact absurd trivial hg) | (exfalso; omega) | (have hT : True := hg; clear hT hg) | skip)))
 )
    refine ⟨j + 1, ?_, ?_, by refine weak_mk rfl ?_ ?_ <;> repeat (first | exact envW_nil | exact heapW_nil | refine envW_cons rfl rfl ?_ | refine heapW_cons rfl rfl rfl ?_)⟩
    · omega
    · omega
  have co := counts_con (gl := gl) os.length other (by omega)
  by_cases hol : other.length = l.length
  rotate_left
  · skip
    repeat' (first
 | ((with_reducible apply (r_call (f := 4))); exact rfl; exact rfl; exact ca; exact rfl; exact rfl)
 | ((with_reducible apply aw_seq))
 | ((with_reducible apply aw_region))
 | ((with_reducible apply thn_normal))
 | ((with_reducible apply thn_ret))
 | ((with_reducible apply thn_exit))
 | ((with_reducible apply inb_exit))
 | ((with_reducible apply aw_exit))
 | ((with_reducible apply aw_ret))
 | ((with_reducible apply ao_nil))
 | ((with_reducible apply r_move); exact rfl; exact rfl)
 | ((with_reducible apply r_assign); exact rfl; exact rfl)
 | ((with_reducible apply r_lss); exact rfl; exact rfl; exact rfl)
 | ((with_reducible apply r_neq); exact rfl; exact rfl; exact rfl)
 | ((with_reducible apply r_pick_t); exact rfl; exact rfl; exact rfl)
 | ((with_reducible apply r_len_f); exact rfl; exact inferInstance; exact rfl)
 | (((with_reducible apply r_guard); exact rfl; exact rfl; exact rfl; exact rfl) <;> intro hg <;> (first | (exact absurd hg (by decide)) | ((try simp only [decide_eq_true_eq, decide_eq_false_iff_not, Bool.not_eq_true', Bool.not_eq_false', Bool.not_true, Bool.not_false, Bool.not_not, Int.not_lt, Int.not_le, Nat.not_lt, Nat.not_le, gt_iff_lt, ge_iff_le, List.cons.injEq, and_true] at hg); first | (exact absurd trivial hg) | (exfalso; omega) | (have hT : True := hg; clear hT hg) | skip)))
 | (((with_reducible apply aw_cond); exact rfl) <;> intro hg <;> (first | (exact absurd hg (by decide)) | ((try simp only [decide_eq_true_eq, decide_eq_false_iff_not, Bool.not_eq_true', Bool.not_eq_false', Bool.not_true, Bool.not_false, Bool.not_not, Int.not_lt, Int.not_le, Nat.not_lt, Nat.not_le, gt_iff_lt, ge_iff_le, List.cons.injEq, and_true] at hg); first | (exact absurd trivial hg) | (exfalso; omega) | (have hT : True := hg; clear hT hg) | skip)))
 )
    all_goals exact ret_b rfl rfl
  have co := co (by omega)
  by_cases hov : ValidA (tabS os l) l.length (os.map mostI) other
  rotate_left
  · have cv2 := valid_con (gl := gl) (tabS os l) l.length (os.map mostI) other hT hM (by omega) false ⟨fun e => (by cases e), fun e => absurd e hov⟩
    repeat' (first
 | ((with_reducible apply (r_call (f := 10))); exact rfl; exact rfl; exact cv2; exact rfl; exact rfl)
 | ((with_reducible apply (r_call (f := 4))); exact rfl; exact rfl; exact ca; exact rfl; exact rfl)
 | ((with_reducible apply aw_seq))
 | ((with_reducible apply aw_region))
 | ((with_reducible apply thn_normal))
 | ((with_reducible apply thn_ret))
 | ((with_reducible apply thn_exit))
 | ((with_reducible apply inb_exit))
 | ((with_reducible apply aw_exit))
 | ((with_reducible apply aw_ret))
 | ((with_reducible apply ao_nil))
 | ((with_reducible apply r_move); exact rfl; exact rfl)
 | ((with_reducible apply r_assign); exact rfl; exact rfl)
 | ((with_reducible apply r_lss); exact rfl; exact rfl; exact rfl)
 | ((with_reducible apply r_neq); exact rfl; exact rfl; exact rfl)
 | ((with_reducible apply r_pick_f); exact rfl; exact rfl; exact rfl)
 | ((with_reducible apply r_not); exact rfl; exact rfl)
 | ((with_reducible apply r_len_f); exact rfl; exact inferInstance; exact rfl)
 | (((with_reducible apply r_guard); exact rfl; exact rfl; exact rfl; exact rfl) <;> intro hg <;> (first | (exact absurd hg (by decide)) | ((try simp only [decide_eq_true_eq, decide_eq_false_iff_not, Bool.not_eq_true', Bool.not_eq_false', Bool.not_true, Bool.not_false, Bool.not_not, Int.not_lt, Int.not_le, Nat.not_lt, Nat.not_le, gt_iff_lt, ge_iff_le, List.cons.injEq, and_true] at hg); first | (exact absurd trivial hg) | (exfalso; omega) | (have hT : True := hg; clear hT hg) | skip)))
 | (((with_reducible apply aw_cond); exact rfl) <;> intro hg <;> (first | (exact absurd hg (by decide)) | ((try simp only [decide_eq_true_eq, decide_eq_false_iff_not, Bool.not_eq_true', Bool.not_eq_false', Bool.not_true, Bool.not_false, Bool.not_not, Int.not_lt, Int.not_le, Nat.not_lt, Nat.not_le, gt_iff_lt, ge_iff_le, List.cons.injEq, and_true] at hg); first | (exact absurd trivial hg) | (exfalso; omega) | (have hT : True := hg; clear hT hg) | skip)))
 )
    all_goals exact ret_b rfl rfl
  have cv2 := valid_con (gl := gl) (tabS os l) l.length (os.map mostI) other hT hM (by omega) true ⟨fun _ => hov, fun _ => rfl⟩
  obtain ⟨dl, hdl⟩ : ∃ dl, cntL (asgL other) os.length other.length = dl := ⟨_, rfl⟩
  rw [hdl] at co
  have hdll : dl.length = os.length := by rw [← hdl, cntL_len]
  have hdi : ∀ (i : Nat) (h : i < dl.length), dl[i] = (cnt (asgL other) i l.length : Int) := fun i h => by
    have e := cntL_get (asgL other) (n := os.length) other.length (i := i) (by omega)
    rw [hdl, hol] at e
    exact (List.getElem?_eq_some_iff.1 e).2
  repeat' (first
 | ((with_reducible apply (r_call (f := 10))); exact rfl; exact rfl; exact cv2; exact rfl; exact rfl)
 | ((with_reducible apply (r_call (f := 11))); exact rfl; exact rfl; exact co; exact rfl; exact rfl)
 | ((with_reducible apply aw_seq))
 | ((with_reducible apply aw_region))
 | ((with_reducible apply aw_block))
 | ((with_reducible apply thn_normal))
 | ((with_reducible apply thn_exit))
 | ((with_reducible apply inb_exit))
 | ((with_reducible apply aw_skip))
 | ((with_reducible apply aw_exit))
 | ((with_reducible apply ao_nil))
 | ((with_reducible apply r_move); exact rfl; exact rfl)
 | ((with_reducible apply r_assign); exact rfl; exact rfl)
 | ((with_reducible apply r_lss); exact rfl; exact rfl; exact rfl)
 | ((with_reducible apply r_neq); exact rfl; exact rfl; exact rfl)
 | ((with_reducible apply r_pick_f); exact rfl; exact rfl; exact rfl)
 | ((with_reducible apply r_not); exact rfl; exact rfl)
 | ((with_reducible apply r_len_f); exact rfl; exact inferInstance; exact rfl)
 | (((with_reducible apply r_guard); exact rfl; exact rfl; exact rfl; exact rfl) <;> intro hg <;> (first | (exact absurd hg (by decide)) | ((try simp only [decide_eq_true_eq, decide_eq_false_iff_not, Bool.not_eq_true', Bool.not_eq_false', Bool.not_true, Bool.not_false, Bool.not_not, Int.not_lt, Int.not_le, Nat.not_lt, Nat.not_le, gt_iff_lt, ge_iff_le, List.cons.injEq, and_true] at hg); first | (exact absurd trivial hg) | (exfalso; omega) | (have hT : True := hg; clear hT hg) | skip)))
 | (((with_reducible apply aw_cond); exact rfl) <;> intro hg <;> (first | (exact absurd hg (by decide)) | ((try simp only [decide_eq_true_eq, decide_eq_false_iff_not, Bool.not_eq_true', Bool.not_eq_false', Bool.not_true, Bool.not_false, Bool.not_not, Int.not_lt, Int.not_le, Nat.not_lt, Nat.not_le, gt_iff_lt, ge_iff_le, List.cons.injEq, and_true] at hg); first | (exact absurd trivial hg) | (exfalso; omega) | (have hT : True := hg; clear hT hg) | skip)))
 )
  refine aw_loopG (G := Nat) (fun (j : Nat) => j ≤ os.length ∧ ∀ i, i < j → cnt (asgL other) i l.length = cnt g' i l.length) (fun (j : Nat) => os.length - j) (fun (j : Nat) => [(0, .c (LO os)), (12, .c (LI c)), (19, .c (LI dl)), (20, A j)]) (fun (j : Nat) => []) 2 0 ?_ (by refine weak_mk rfl ?_ ?_ <;> repeat (first | exact envW_nil | exact heapW_nil | refine envW_cons rfl rfl ?_ | refine heapW_cons rfl rfl rfl ?_)) rfl ?_
  · exact ⟨Nat.zero_le _, fun i hi => absurd hi (Nat.not_lt_zero _)⟩
  rintro j hI
  try dsimp only at hI
  try dsimp only
  obtain ⟨hj, hI⟩ := hI
  by_cases hjl : j < os.length
  · have q1 := hdi j (by omega)
    have q2 := hci j (by omega)
    have q3 := hg'.lex j (by omega) (asgL other) hov.ok hov.le hI
    by_cases he : cnt (asgL other) j l.length = cnt g' j l.length
    · skip
      repeat' (first
 | ((with_reducible apply aw_seq))
 | ((with_reducible apply aw_region))
 | ((with_reducible apply aw_block))
 | ((with_reducible apply thn_normal))
 | ((with_reducible apply inb_normal))
 | ((with_reducible apply aw_skip))
 | ((with_reducible apply ao_nil))
 | ((with_reducible apply r_move); exact rfl; exact rfl)
 | ((with_reducible apply r_assign); exact rfl; exact rfl)
 | ((with_reducible apply r_lss); exact rfl; exact rfl; exact rfl)
 | ((with_reducible apply r_neq); exact rfl; exact rfl; exact rfl)
 | ((with_reducible apply r_add); exact rfl; exact rfl; exact (by first | assumption | (unfold fits; omega)); exact rfl)
 | ((with_reducible apply r_len_f); exact rfl; exact inferInstance; exact rfl)
 | ((with_reducible apply r_index_f); exact rfl; exact inferInstance; exact rfl; exact rfl; (first | assumption | omega); exact rfl)
 | ((with_reducible apply r_load_f0); exact rfl; exact inferInstance; exact List.getElem?_eq_getElem (by first | assumption | omega); exact rfl; exact rfl)
 | (((with_reducible apply aw_cond); exact rfl) <;> intro hg <;> (first | (exact absurd hg (by decide)) | ((try simp only [decide_eq_true_eq, decide_eq_false_iff_not, Bool.not_eq_true', Bool.not_eq_false', Bool.not_true, Bool.not_false, Bool.not_not, Int.not_lt, Int.not_le, Nat.not_lt, Nat.not_le, gt_iff_lt, ge_iff_le, List.cons.injEq, and_true] at hg); first | (exact absurd trivial hg) | (exfalso; omega) | (have hT : True := hg; clear hT hg) | skip)))
 | (refine aw_drawq ?_ ?_; (kernel_rfl))
 | ((with_reducible apply ds_nil))
 )
      refine ⟨j + 1, ?_, ?_, by refine weak_mk rfl ?_ ?_ <;> repeat (first | exact envW_nil | exact heapW_nil | refine envW_cons rfl rfl ?_ | refine heapW_cons rfl rfl rfl ?_)⟩
      · omega
      · refine ⟨by omega, fun i hi => ?_⟩
        by_cases e : i = j
        · subst e; exact he
        · exact hI i (by omega)
    · skip
      repeat' (first
 | (refine aw_drawt 9 ?_ ?_; (kernel_rfl); (simp only [List.take_succ_cons, List.take_zero, List.drop_succ_cons, List.drop_zero]))
 | ((with_reducible apply (r_call (f := 4))); exact rfl; exact rfl; exact ca; exact rfl; exact rfl)
 | ((with_reducible apply aw_seq))
 | ((with_reducible apply aw_region))
 | ((with_reducible apply aw_block))
 | ((with_reducible apply thn_normal))
 | ((with_reducible apply thn_ret))
 | ((with_reducible apply inb_ret))
 | ((with_reducible apply aw_skip))
 | ((with_reducible apply aw_ret))
 | ((with_reducible apply ao_nil))
 | ((with_reducible apply r_move); exact rfl; exact rfl)
 | ((with_reducible apply r_assign); exact rfl; exact rfl)
 | ((with_reducible apply r_lss); exact rfl; exact rfl; exact rfl)
 | ((with_reducible apply r_neq); exact rfl; exact rfl; exact rfl)
 | ((with_reducible apply r_pick_t); exact rfl; exact rfl; exact rfl)
 | ((with_reducible apply r_len_f); exact rfl; exact inferInstance; exact rfl)
 | ((with_reducible apply r_index_f); exact rfl; exact inferInstance; exact rfl; exact rfl; (first | assumption | omega); exact rfl)
 | ((with_reducible apply r_load_f0); exact rfl; exact inferInstance; exact List.getElem?_eq_getElem (by first | assumption | omega); exact rfl; exact rfl)
 | (((with_reducible apply r_guard); exact rfl; exact rfl; exact rfl; exact rfl) <;> intro hg <;> (first | (exact absurd hg (by decide)) | ((try simp only [decide_eq_true_eq, decide_eq_false_iff_not, Bool.not_eq_true', Bool.not_eq_false', Bool.not_true, Bool.not_false, Bool.not_not, Int.not_lt, Int.not_le, Nat.not_lt, Nat.not_le, gt_iff_lt, ge_iff_le, List.cons.injEq, and_true] at hg); first | (exact absurd trivial hg) | (exfalso; omega) | (have hT : True := hg; clear hT hg) | skip)))
 | (((with_reducible apply aw_cond); exact rfl) <;> intro hg <;> (first | (exact absurd hg (by decide)) | ((try simp only [decide_eq_true_eq, decide_eq_false_iff_not, Bool.not_eq_true', Bool.not_eq_false', Bool.not_true, Bool.not_false, Bool.not_not, Int.not_lt, Int.not_le, Nat.not_lt, Nat.not_le, gt_iff_lt, ge_iff_le, List.cons.injEq, and_true] at hg); first | (exact absurd trivial hg) | (exfalso; omega) | (have hT : True := hg; clear hT hg) | skip)))
 | ((with_reducible apply ds_nil))
 )
      all_goals exact ret_b rfl rfl
  repeat' (first
 | ((with_reducible apply (r_call (f := 4))); exact rfl; exact rfl; exact ca; exact rfl; exact rfl)
 | ((with_reducible apply aw_seq))
 | ((with_reducible apply aw_region))
 | ((with_reducible apply thn_normal))
 | ((with_reducible apply thn_exit))
 | ((with_reducible apply inb_exit))
 | ((with_reducible apply aw_exit))
 | ((with_reducible apply aw_ret))
 | ((with_reducible apply ao_nil))
 | ((with_reducible apply r_move); exact rfl; exact rfl)
 | ((with_reducible apply r_assign); exact rfl; exact rfl)
 | ((with_reducible apply r_lss); exact rfl; exact rfl; exact rfl)
 | ((with_reducible apply r_len_f); exact rfl; exact inferInstance; exact rfl)
 | (((with_reducible apply aw_cond); exact rfl) <;> intro hg <;> (first | (exact absurd hg (by decide)) | ((try simp only [decide_eq_true_eq, decide_eq_false_iff_not, Bool.not_eq_true', Bool.not_eq_false', Bool.not_true, Bool.not_false, Bool.not_not, Int.not_lt, Int.not_le, Nat.not_lt, Nat.not_le, gt_iff_lt, ge_iff_le, List.cons.injEq, and_true] at hg); first | (exact absurd trivial hg) | (exfalso; omega) | (have hT : True := hg; clear hT hg) | skip)))
 )
  all_goals exact ret_b rfl rfl
end Go.Proofs.Ytdndfncpglfdeaa.To
/- What comes into the law on orders, read as closed values. -/
namespace Go.Proofs.Ytdndfncpglfdeaa.To
set_option linter.unusedVariables false
set_option linter.unusedSimpArgs false
open Go.RowKit Go.ChangeShapes Go.Proofs.Ytdndfncpglfdeaa.Ev
section
variable {H : Type} {de : TypeId × Value → H} {w : World} {gl : List (Nat × List CV)}
instance : Inhabited Ord := ⟨exO1⟩
instance : Inhabited Dfx := ⟨⟨0, 0, 0, 0, 0, 0, 0⟩⟩
instance : Inhabited Brd := ⟨exG 0 true 0⟩
theorem o_int : Opn de Try.prog w 3 (fun n : Int => [I n]) (fun _ => True) := (opn_int Try.underlying3).imp id (fun _ => rfl) (fun _ _ => trivial)
theorem o_bool : Opn de Try.prog w 4 (fun b : Bool => [BO b]) (fun _ => True) := (opn_bool Try.underlying4).imp id (fun _ => rfl) (fun _ _ => trivial)
theorem o_str : Opn de Try.prog w 9 (fun b : ByteArray => [S b]) (fun _ => True) := (opn_string Try.underlying9).imp id (fun _ => rfl) (fun _ _ => trivial)
theorem o_ord : Opn de Try.prog w 27 ordL (fun _ => True) :=
  (opn_struct Try.underlying27 (by kernel_rfl) rfl (opnS_cons o_str (opnS_cons o_str (opnS_cons o_int (opnS_cons o_int (opnS_cons o_int (opnS_cons o_int (opnS_cons o_int (opnS_cons o_int (opnS_cons o_int (opnS_cons o_int (opnS_one o_int)))))))))))).imp (fun x => (⟨x.1, x.2.1, x.2.2.1, x.2.2.2.1, x.2.2.2.2.1, x.2.2.2.2.2.1, x.2.2.2.2.2.2.1, x.2.2.2.2.2.2.2.1, x.2.2.2.2.2.2.2.2.1, x.2.2.2.2.2.2.2.2.2.1, x.2.2.2.2.2.2.2.2.2.2⟩ : Ord)) (fun _ => rfl) (fun _ _ => trivial)
theorem o_ords : Opn de Try.prog w 22 (fun l : List Ord => [LO l]) (fun _ => True) :=
  (opn_slice (size := 11) (enc := ordL) Try.underlying22 (by kernel_rfl) (by decide) (fun _ => rfl) o_ord).imp id (fun _ => rfl) (fun _ _ => trivial)
theorem o_span : Opn de Try.prog w 30 (fun x : Int × Int => [I x.1, I x.2]) (fun _ => True) :=
  (opn_struct Try.underlying30 (by kernel_rfl) rfl (opnS_cons o_int (opnS_one o_int))).imp id (fun _ => rfl) (fun _ _ => trivial)
theorem o_box : Opn de Try.prog w 32 (fun x : (Int × Int) × (Int × Int) × (Int × Int) => [I x.1.1, I x.1.2, I x.2.1.1, I x.2.1.2, I x.2.2.1, I x.2.2.2]) (fun _ => True) :=
  (opn_struct Try.underlying32 (by kernel_rfl) rfl (opnS_cons o_span (opnS_cons o_span (opnS_one o_span)))).imp id (fun _ => rfl) (fun _ _ => trivial)
theorem o_cell : Opn de Try.prog w 35 (fun x : Int × Int × Int => [I x.1, I x.2.1, I x.2.2]) (fun _ => True) :=
  (opn_struct Try.underlying35 (by kernel_rfl) rfl (opnS_cons o_int (opnS_cons o_int (opnS_one o_int)))).imp id (fun _ => rfl) (fun _ _ => trivial)
theorem o_dfx : Opn de Try.prog w 91 dfxL (fun _ => True) :=
  (opn_struct Try.underlying91 (by kernel_rfl) rfl (opnS_cons o_int (opnS_one o_box))).imp (fun x => (⟨x.1, x.2.1.1, x.2.1.2, x.2.2.1.1, x.2.2.1.2, x.2.2.2.1, x.2.2.2.2⟩ : Dfx)) (fun _ => rfl) (fun _ _ => trivial)
theorem o_dfxs : Opn de Try.prog w 33 (fun l : List Dfx => [LDf l]) (fun _ => True) :=
  (opn_slice (size := 7) (enc := dfxL) Try.underlying33 (by kernel_rfl) (by decide) (fun _ => rfl) o_dfx).imp id (fun _ => rfl) (fun _ _ => trivial)
theorem o_brd : Opn de Try.prog w 37 brdL (fun _ => True) :=
  (opn_struct Try.underlying37 (by kernel_rfl) rfl (opnS_cons o_str (opnS_cons o_str (opnS_cons o_str (opnS_cons o_int (opnS_cons o_box (opnS_cons o_int (opnS_cons o_dfxs (opnS_cons o_int (opnS_cons o_cell (opnS_cons o_bool (opnS_one o_int)))))))))))).imp (fun x => (⟨x.1, x.2.1, x.2.2.1, x.2.2.2.1, x.2.2.2.2.1.1.1, x.2.2.2.2.1.1.2, x.2.2.2.2.1.2.1.1, x.2.2.2.2.1.2.1.2, x.2.2.2.2.1.2.2.1, x.2.2.2.2.1.2.2.2, x.2.2.2.2.2.1, x.2.2.2.2.2.2.1, x.2.2.2.2.2.2.2.1, x.2.2.2.2.2.2.2.2.1.1, x.2.2.2.2.2.2.2.2.1.2.1, x.2.2.2.2.2.2.2.2.1.2.2, x.2.2.2.2.2.2.2.2.2.1, x.2.2.2.2.2.2.2.2.2.2⟩ : Brd)) (fun _ => rfl) (fun _ _ => trivial)
theorem o_brds : Opn de Try.prog w 23 (fun l : List Brd => [LB18 l]) (fun _ => True) :=
  (opn_slice (size := 18) (enc := brdL) Try.underlying23 (by kernel_rfl) (by decide) (fun _ => rfl) o_brd).imp id (fun _ => rfl) (fun _ _ => trivial)
theorem o_ints : Opn de Try.prog w 24 (fun l : List Int => [LI l]) (fun _ => True) :=
  (opn_slice (size := 1) (enc := intC) Try.underlying24 (by kernel_rfl) (by decide) (fun _ => rfl) o_int).imp id (fun _ => rfl) (fun _ _ => trivial)
theorem TopOrders_law (os : List Ord) (_ : True) (l : List Brd) (_ : True) (other : List Int) (_ : True) : Con Try.prog gl 3 [LO os, LB18 l, LI other] T := TopOrders_con os l other
end
end Go.Proofs.Ytdndfncpglfdeaa.To
