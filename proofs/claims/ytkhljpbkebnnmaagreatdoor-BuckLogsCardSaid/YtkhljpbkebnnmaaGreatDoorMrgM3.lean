/- MF MG MH MI: texts laid together. -/
import Derived.Test.YtkhljpbkebnnmaaGreatDoorMrgM2
set_option maxRecDepth 100000
/- Walks of classes: Of in both. -/
namespace Go.Proofs.YtkhljpbkebnnmaaGreatDoor.Ge
set_option linter.unusedVariables false
set_option linter.unusedSimpArgs false
open Go.RowKit Go.Proofs.YtkhljpbkebnnmaaGreatDoor.Ev
variable {gl : List (Nat × List CV)}
set_option maxHeartbeats 16000000 in
theorem of_con (K : List Kl) (l : List Slc) (d : List Dfc) (hK : K.length ≤ maxLen) (hl : l.length ≤ maxLen) (hd : d.length ≤ maxLen) : Con Tryz.prog gl 48 [LK K, LL l, LD d] (ofV (ofS K l d)) := by
  have c0 := kcheck_con (gl := gl) K hK
  have c1 := scheck_con (gl := gl) l hl
  have c2 := dcheck_con (gl := gl) d hd
  have hK2 := hK
  unfold maxLen at hK2
  refine con_of Tryz.func48 rfl (by kernel_rfl) rfl ?_
  simp only [Tryz.ntmps48, Tryz.results48, argEnv, ofC, of1, List.map]
  by_cases hk : klChk K = 0
  rotate_left
  · rw [of_bad hk]
    repeat' (first
 | ((with_reducible apply r_call); exact rfl; exact rfl; exact c0; exact rfl; exact rfl)
 | ((with_reducible apply aw_seq))
 | ((with_reducible apply aw_region))
 | ((with_reducible apply thn_normal))
 | ((with_reducible apply thn_ret))
 | ((with_reducible apply aw_ret))
 | ((with_reducible apply ao_nil))
 | ((with_reducible apply r_move); exact rfl; exact rfl)
 | ((with_reducible apply r_assign); exact rfl; exact rfl)
 | ((with_reducible apply r_neq); exact rfl; exact rfl; exact rfl)
 | (((with_reducible apply aw_cond); exact rfl) <;> intro hg <;> (first | (exact absurd hg (by decide)) | ((try simp only [decide_eq_true_eq, decide_eq_false_iff_not, Bool.not_eq_true', Bool.not_eq_false', Bool.not_true, Bool.not_false, Bool.not_not, Int.not_lt, Int.not_le, Nat.not_lt, Nat.not_le, gt_iff_lt, ge_iff_le, List.cons.injEq, and_true] at hg); first | (exact absurd trivial hg) | (exfalso; omega) | (have hT : True := hg; clear hT hg) | skip)))
 )
    exact ret2 (.cons (.tmp rfl cl_c) (.cons (.tmp rfl cl_c) .nil))
  rw [hk] at c0
  by_cases hb : bothOk l d
  rotate_left
  · have hno : ofS K l d = (0, false) := of_none hk (fun j hj => fit_no hb K[j])
    rw [hno]
    by_cases h1 : solChk l = 0
    · have h2 : ¬ defChk d = 0 := fun h => hb ⟨h1, h⟩
      repeat' (first
 | ((with_reducible apply r_call); exact rfl; exact rfl; (first | exact c0 | exact c1 | exact c2); exact rfl; exact rfl)
 | ((with_reducible apply (r_in Tryz.func81 rfl Tryz.results81 (by kernel_rfl) Tryz.ntmps81)); exact rfl; exact rfl; exact rfl; exact rfl)
 | ((with_reducible apply (r_in Tryz.func80 rfl Tryz.results80 (by kernel_rfl) Tryz.ntmps80)); exact rfl; exact rfl; exact rfl; exact rfl)
 | (refine back_ret rfl ?_)
 | ((with_reducible apply aw_seq))
 | ((with_reducible apply aw_region))
 | ((with_reducible apply aw_block))
 | ((with_reducible apply thn_normal))
 | ((with_reducible apply thn_ret))
 | ((with_reducible apply aw_skip))
 | ((with_reducible apply aw_ret))
 | ((with_reducible apply ao_nil))
 | ((with_reducible apply r_move); exact rfl; exact rfl)
 | ((with_reducible apply r_assign); exact rfl; exact rfl)
 | ((with_reducible apply r_neq); exact rfl; exact rfl; exact rfl)
 | ((with_reducible apply r_pick_f); exact rfl; exact rfl; exact rfl)
 | ((with_reducible apply r_len_f); exact rfl; exact inferInstance; exact rfl)
 | (((with_reducible apply r_guard); exact rfl; exact rfl; exact rfl; exact rfl) <;> intro hg <;> (first | (exact absurd hg (by decide)) | ((try simp only [decide_eq_true_eq, decide_eq_false_iff_not, Bool.not_eq_true', Bool.not_eq_false', Bool.not_true, Bool.not_false, Bool.not_not, Int.not_lt, Int.not_le, Nat.not_lt, Nat.not_le, gt_iff_lt, ge_iff_le, List.cons.injEq, and_true] at hg); first | (exact absurd trivial hg) | (exfalso; omega) | (have hT : True := hg; clear hT hg) | skip)))
 | (((with_reducible apply aw_cond); exact rfl) <;> intro hg <;> (first | (exact absurd hg (by decide)) | ((try simp only [decide_eq_true_eq, decide_eq_false_iff_not, Bool.not_eq_true', Bool.not_eq_false', Bool.not_true, Bool.not_false, Bool.not_not, Int.not_lt, Int.not_le, Nat.not_lt, Nat.not_le, gt_iff_lt, ge_iff_le, List.cons.injEq, and_true] at hg); first | (exact absurd trivial hg) | (exfalso; omega) | (have hT : True := hg; clear hT hg) | skip)))
 )
      refine aw_loopG (G := Nat) (fun (k : Nat) => k ≤ K.length) (fun (k : Nat) => K.length - k) (fun (k : Nat) => [(0, .c (LK K)), (1, .fn 102 []), (7, A K.length), (8, A k)]) (fun (k : Nat) => []) 0 0 ?_ (by refine weak_mk rfl ?_ ?_ <;> repeat (first | exact envW_nil | exact heapW_nil | refine envW_cons rfl rfl ?_ | refine heapW_cons rfl rfl rfl ?_)) rfl ?_
      · exact Nat.zero_le _
      rintro k hI
      try dsimp only at hI
      try dsimp only
      by_cases hkl : k < K.length
      · skip
        repeat' (first
 | ((with_reducible apply (r_inF Tryz.func102 rfl Tryz.results102 (by kernel_rfl) Tryz.ntmps102)); exact rfl; exact rfl; exact rfl; exact rfl; exact rfl)
 | (refine back_ret rfl ?_)
 | ((with_reducible apply aw_seq))
 | ((with_reducible apply aw_region))
 | ((with_reducible apply aw_block))
 | ((with_reducible apply thn_normal))
 | ((with_reducible apply inb_normal))
 | ((with_reducible apply aw_skip))
 | ((with_reducible apply aw_ret))
 | ((with_reducible apply ao_nil))
 | ((with_reducible apply r_move); exact rfl; exact rfl)
 | ((with_reducible apply r_assign); exact rfl; exact rfl)
 | ((with_reducible apply r_lss); exact rfl; exact rfl; exact rfl)
 | ((with_reducible apply r_add); exact rfl; exact rfl; exact (by first | assumption | (unfold fits; omega)); exact rfl)
 | ((with_reducible apply r_box_a); exact rfl; exact rfl)
 | ((with_reducible apply r_index_f); exact rfl; exact inferInstance; exact rfl; exact rfl; (first | assumption | omega); exact rfl)
 | ((with_reducible apply r_load_fa0); exact rfl; exact inferInstance; exact List.getElem?_eq_getElem (by first | assumption | omega); exact rfl; exact rfl; exact rfl)
 | (((with_reducible apply aw_cond); exact rfl) <;> intro hg <;> (first | (exact absurd hg (by decide)) | ((try simp only [decide_eq_true_eq, decide_eq_false_iff_not, Bool.not_eq_true', Bool.not_eq_false', Bool.not_true, Bool.not_false, Bool.not_not, Int.not_lt, Int.not_le, Nat.not_lt, Nat.not_le, gt_iff_lt, ge_iff_le, List.cons.injEq, and_true] at hg); first | (exact absurd trivial hg) | (exfalso; omega) | (have hT : True := hg; clear hT hg) | skip)))
 )
        refine ⟨k + 1, ?_, ?_, by refine weak_mk rfl ?_ ?_ <;> repeat (first | exact envW_nil | exact heapW_nil | refine envW_cons rfl rfl ?_ | refine heapW_cons rfl rfl rfl ?_)⟩
        · show _ - (k + 1) < _ - k; omega
        · show k + 1 ≤ _; omega
      · skip
        repeat' (first
 | (refine back_ret rfl ?_)
 | ((with_reducible apply aw_seq))
 | ((with_reducible apply aw_region))
 | ((with_reducible apply thn_normal))
 | ((with_reducible apply thn_ret))
 | ((with_reducible apply thn_exit))
 | ((with_reducible apply inb_exit))
 | ((with_reducible apply aw_exit))
 | ((with_reducible apply aw_ret))
 | ((with_reducible apply ao_nil))
 | ((with_reducible apply r_move); exact rfl; exact rfl)
 | ((with_reducible apply r_assign); exact rfl; exact rfl)
 | ((with_reducible apply r_lss); exact rfl; exact rfl; exact rfl)
 | (((with_reducible apply aw_cond); exact rfl) <;> intro hg <;> (first | (exact absurd hg (by decide)) | ((try simp only [decide_eq_true_eq, decide_eq_false_iff_not, Bool.not_eq_true', Bool.not_eq_false', Bool.not_true, Bool.not_false, Bool.not_not, Int.not_lt, Int.not_le, Nat.not_lt, Nat.not_le, gt_iff_lt, ge_iff_le, List.cons.injEq, and_true] at hg); first | (exact absurd trivial hg) | (exfalso; omega) | (have hT : True := hg; clear hT hg) | skip)))
 )
        exact ret2 (.cons (.tmp rfl cl_c) (.cons (.tmp rfl cl_c) .nil))
    · skip
      repeat' (first
 | ((with_reducible apply r_call); exact rfl; exact rfl; (first | exact c0 | exact c1 | exact c2); exact rfl; exact rfl)
 | ((with_reducible apply (r_in Tryz.func81 rfl Tryz.results81 (by kernel_rfl) Tryz.ntmps81)); exact rfl; exact rfl; exact rfl; exact rfl)
 | ((with_reducible apply (r_in Tryz.func80 rfl Tryz.results80 (by kernel_rfl) Tryz.ntmps80)); exact rfl; exact rfl; exact rfl; exact rfl)
 | (refine back_ret rfl ?_)
 | ((with_reducible apply aw_seq))
 | ((with_reducible apply aw_region))
 | ((with_reducible apply aw_block))
 | ((with_reducible apply thn_normal))
 | ((with_reducible apply thn_ret))
 | ((with_reducible apply aw_skip))
 | ((with_reducible apply aw_ret))
 | ((with_reducible apply ao_nil))
 | ((with_reducible apply r_move); exact rfl; exact rfl)
 | ((with_reducible apply r_assign); exact rfl; exact rfl)
 | ((with_reducible apply r_neq); exact rfl; exact rfl; exact rfl)
 | ((with_reducible apply r_pick_t); exact rfl; exact rfl; exact rfl)
 | ((with_reducible apply r_len_f); exact rfl; exact inferInstance; exact rfl)
 | (((with_reducible apply r_guard); exact rfl; exact rfl; exact rfl; exact rfl) <;> intro hg <;> (first | (exact absurd hg (by decide)) | ((try simp only [decide_eq_true_eq, decide_eq_false_iff_not, Bool.not_eq_true', Bool.not_eq_false', Bool.not_true, Bool.not_false, Bool.not_not, Int.not_lt, Int.not_le, Nat.not_lt, Nat.not_le, gt_iff_lt, ge_iff_le, List.cons.injEq, and_true] at hg); first | (exact absurd trivial hg) | (exfalso; omega) | (have hT : True := hg; clear hT hg) | skip)))
 | (((with_reducible apply aw_cond); exact rfl) <;> intro hg <;> (first | (exact absurd hg (by decide)) | ((try simp only [decide_eq_true_eq, decide_eq_false_iff_not, Bool.not_eq_true', Bool.not_eq_false', Bool.not_true, Bool.not_false, Bool.not_not, Int.not_lt, Int.not_le, Nat.not_lt, Nat.not_le, gt_iff_lt, ge_iff_le, List.cons.injEq, and_true] at hg); first | (exact absurd trivial hg) | (exfalso; omega) | (have hT : True := hg; clear hT hg) | skip)))
 )
      refine aw_loopG (G := Nat) (fun (k : Nat) => k ≤ K.length) (fun (k : Nat) => K.length - k) (fun (k : Nat) => [(0, .c (LK K)), (1, .fn 102 []), (7, A K.length), (8, A k)]) (fun (k : Nat) => []) 0 0 ?_ (by refine weak_mk rfl ?_ ?_ <;> repeat (first | exact envW_nil | exact heapW_nil | refine envW_cons rfl rfl ?_ | refine heapW_cons rfl rfl rfl ?_)) rfl ?_
      · exact Nat.zero_le _
      rintro k hI
      try dsimp only at hI
      try dsimp only
      by_cases hkl : k < K.length
      · skip
        repeat' (first
 | ((with_reducible apply (r_inF Tryz.func102 rfl Tryz.results102 (by kernel_rfl) Tryz.ntmps102)); exact rfl; exact rfl; exact rfl; exact rfl; exact rfl)
 | (refine back_ret rfl ?_)
 | ((with_reducible apply aw_seq))
 | ((with_reducible apply aw_region))
 | ((with_reducible apply aw_block))
 | ((with_reducible apply thn_normal))
 | ((with_reducible apply inb_normal))
 | ((with_reducible apply aw_skip))
 | ((with_reducible apply aw_ret))
 | ((with_reducible apply ao_nil))
 | ((with_reducible apply r_move); exact rfl; exact rfl)
 | ((with_reducible apply r_assign); exact rfl; exact rfl)
 | ((with_reducible apply r_lss); exact rfl; exact rfl; exact rfl)
 | ((with_reducible apply r_add); exact rfl; exact rfl; exact (by first | assumption | (unfold fits; omega)); exact rfl)
 | ((with_reducible apply r_box_a); exact rfl; exact rfl)
 | ((with_reducible apply r_index_f); exact rfl; exact inferInstance; exact rfl; exact rfl; (first | assumption | omega); exact rfl)
 | ((with_reducible apply r_load_fa0); exact rfl; exact inferInstance; exact List.getElem?_eq_getElem (by first | assumption | omega); exact rfl; exact rfl; exact rfl)
 | (((with_reducible apply aw_cond); exact rfl) <;> intro hg <;> (first | (exact absurd hg (by decide)) | ((try simp only [decide_eq_true_eq, decide_eq_false_iff_not, Bool.not_eq_true', Bool.not_eq_false', Bool.not_true, Bool.not_false, Bool.not_not, Int.not_lt, Int.not_le, Nat.not_lt, Nat.not_le, gt_iff_lt, ge_iff_le, List.cons.injEq, and_true] at hg); first | (exact absurd trivial hg) | (exfalso; omega) | (have hT : True := hg; clear hT hg) | skip)))
 )
        refine ⟨k + 1, ?_, ?_, by refine weak_mk rfl ?_ ?_ <;> repeat (first | exact envW_nil | exact heapW_nil | refine envW_cons rfl rfl ?_ | refine heapW_cons rfl rfl rfl ?_)⟩
        · show _ - (k + 1) < _ - k; omega
        · show k + 1 ≤ _; omega
      · skip
        repeat' (first
 | (refine back_ret rfl ?_)
 | ((with_reducible apply aw_seq))
 | ((with_reducible apply aw_region))
 | ((with_reducible apply thn_normal))
 | ((with_reducible apply thn_ret))
 | ((with_reducible apply thn_exit))
 | ((with_reducible apply inb_exit))
 | ((with_reducible apply aw_exit))
 | ((with_reducible apply aw_ret))
 | ((with_reducible apply ao_nil))
 | ((with_reducible apply r_move); exact rfl; exact rfl)
 | ((with_reducible apply r_assign); exact rfl; exact rfl)
 | ((with_reducible apply r_lss); exact rfl; exact rfl; exact rfl)
 | (((with_reducible apply aw_cond); exact rfl) <;> intro hg <;> (first | (exact absurd hg (by decide)) | ((try simp only [decide_eq_true_eq, decide_eq_false_iff_not, Bool.not_eq_true', Bool.not_eq_false', Bool.not_true, Bool.not_false, Bool.not_not, Int.not_lt, Int.not_le, Nat.not_lt, Nat.not_le, gt_iff_lt, ge_iff_le, List.cons.injEq, and_true] at hg); first | (exact absurd trivial hg) | (exfalso; omega) | (have hT : True := hg; clear hT hg) | skip)))
 )
        exact ret2 (.cons (.tmp rfl cl_c) (.cons (.tmp rfl cl_c) .nil))
  have hfit := fun c => fit_ok hb c
  have hso := fun i hi h1 h2 => of_some (c := K) (l := l) (d := d) hk (i := i) hi h1 h2
  have hno := of_none (c := K) (l := l) (d := d) hk
  obtain ⟨h1, h2⟩ := hb
  rw [h1] at c1
  rw [h2] at c2
  have b1 := top_con (gl := gl) l hl
  have b2 := slength_con (gl := gl) l hl
  have b3 := sweep_con (gl := gl) l hl
  have b4 := taper_con (gl := gl) l hl
  have b5 := count_con (gl := gl) d 1 hd
  have b6 := count_con (gl := gl) d 2 hd
  have b7 := count_con (gl := gl) d 3 hd
  have d1 := cnt_bd d 1 d.length
  have d2 := cnt_bd d 2 d.length
  have d3 := def_len h2
  simp only [hfit] at hso hno
  unfold measL fitM at hso hno
  dsimp only at hso hno
  have hf : fits (cnt d 1 + cnt d 2) := by
    show fits (cntN d 1 d.length + cntN d 2 d.length)
    unfold fits; omega
  clear d1 d2 d3 hfit
  revert b1 b2 b3 b4 b5 b6 b7 hf hso hno
  generalize topS l = m1
  generalize lengthS l = m2
  generalize sweepS l = m3
  generalize taperS l = m4
  generalize cnt d 1 = m5
  generalize cnt d 2 = m6
  generalize cnt d 3 = m7
  intro b1 b2 b3 b4 b5 b6 b7 hso hno hf
  repeat' (first
 | ((with_reducible apply r_call); exact rfl; exact rfl; (first | exact c0 | exact c1 | exact c2 | exact b1 | exact b2 | exact b3 | exact b4 | exact b5 | exact b6 | exact b7); exact rfl; exact rfl)
 | ((with_reducible apply (r_in Tryz.func81 rfl Tryz.results81 (by kernel_rfl) Tryz.ntmps81)); exact rfl; exact rfl; exact rfl; exact rfl)
 | ((with_reducible apply (r_in Tryz.func80 rfl Tryz.results80 (by kernel_rfl) Tryz.ntmps80)); exact rfl; exact rfl; exact rfl; exact rfl)
 | (refine back_ret rfl ?_)
 | ((with_reducible apply r_makefn); exact rfl; exact rfl)
 | ((with_reducible apply aw_seq))
 | ((with_reducible apply aw_region))
 | ((with_reducible apply aw_block))
 | ((with_reducible apply thn_normal))
 | ((with_reducible apply aw_skip))
 | ((with_reducible apply aw_ret))
 | ((with_reducible apply ao_nil))
 | ((with_reducible apply r_move); exact rfl; exact rfl)
 | ((with_reducible apply r_assign); exact rfl; exact rfl)
 | ((with_reducible apply r_neq); exact rfl; exact rfl; exact rfl)
 | ((with_reducible apply r_add); exact rfl; exact rfl; exact (by first | assumption | (unfold fits; omega)); exact rfl)
 | ((with_reducible apply r_pick_f); exact rfl; exact rfl; exact rfl)
 | ((with_reducible apply r_len_f); exact rfl; exact inferInstance; exact rfl)
 | ((with_reducible apply r_store_p); exact rfl; exact rfl; exact rfl; exact rfl; exact rfl; exact rfl)
 | ((with_reducible apply r_alloc); exact rfl)
 | (((with_reducible apply r_guard); exact rfl; exact rfl; exact rfl; exact rfl) <;> intro hg <;> (first | (exact absurd hg (by decide)) | ((try simp only [decide_eq_true_eq, decide_eq_false_iff_not, Bool.not_eq_true', Bool.not_eq_false', Bool.not_true, Bool.not_false, Bool.not_not, Int.not_lt, Int.not_le, Nat.not_lt, Nat.not_le, gt_iff_lt, ge_iff_le, List.cons.injEq, and_true] at hg); first | (exact absurd trivial hg) | (exfalso; omega) | (have hT : True := hg; clear hT hg) | skip)))
 | (((with_reducible apply aw_cond); exact rfl) <;> intro hg <;> (first | (exact absurd hg (by decide)) | ((try simp only [decide_eq_true_eq, decide_eq_false_iff_not, Bool.not_eq_true', Bool.not_eq_false', Bool.not_true, Bool.not_false, Bool.not_not, Int.not_lt, Int.not_le, Nat.not_lt, Nat.not_le, gt_iff_lt, ge_iff_le, List.cons.injEq, and_true] at hg); first | (exact absurd trivial hg) | (exfalso; omega) | (have hT : True := hg; clear hT hg) | skip)))
 )
  refine aw_loopG (G := Nat) (fun (k : Nat) => k ≤ K.length ∧ ∀ i (hi : i < K.length), i < k → decide (K[i].len ≤ m1 ∧ K[i].lo ≤ m2 ∧ m2 ≤ K[i].hi ∧ m3 ≤ K[i].taper ∧ m4 ≤ K[i].sweep ∧ m5 + m6 ≤ K[i].knots ∧ m7 ≤ K[i].rot) = false) (fun (k : Nat) => K.length - k) (fun (k : Nat) => [(0, .c (LK K)), (1, .fn 107 [.ptr 0 0, .ptr 1 0, .ptr 2 0, .ptr 3 0, .ptr 4 0, .ptr 5 0]), (7, A K.length), (8, A k)]) (fun (k : Nat) => [(0, MC 3 m1), (1, MC 3 m2), (2, MC 3 m3), (3, MC 3 m4), (4, MC 3 (m5 + m6)), (5, MC 3 m7)]) 6 0 ?_ (by refine weak_mk rfl ?_ ?_ <;> repeat (first | exact envW_nil | exact heapW_nil | refine envW_cons rfl rfl ?_ | refine heapW_cons rfl rfl rfl ?_)) rfl ?_
  · exact ⟨Nat.zero_le _, fun i _ h => absurd h (Nat.not_lt_zero _)⟩
  rintro k hI
  try dsimp only at hI
  try dsimp only
  obtain ⟨hkk, hall⟩ := hI
  by_cases hkl : k < K.length
  · have hso := hso k hkl
    repeat' (first
 | ((with_reducible apply (r_inF Tryz.func107 rfl Tryz.results107 (by kernel_rfl) Tryz.ntmps107)); exact rfl; exact rfl; exact rfl; exact rfl; exact rfl)
 | (refine back_ret rfl ?_)
 | ((with_reducible apply aw_seq))
 | ((with_reducible apply aw_region))
 | ((with_reducible apply aw_block))
 | ((with_reducible apply thn_normal))
 | ((with_reducible apply thn_ret))
 | ((with_reducible apply inb_normal))
 | ((with_reducible apply inb_ret))
 | ((with_reducible apply aw_skip))
 | ((with_reducible apply aw_ret))
 | ((with_reducible apply ao_nil))
 | ((with_reducible apply r_move); exact rfl; exact rfl)
 | ((with_reducible apply r_assign); exact rfl; exact rfl)
 | ((with_reducible apply r_field_p); exact rfl; exact rfl)
 | ((with_reducible apply r_load_p); exact rfl; exact rfl; exact rfl; exact rfl)
 | ((with_reducible apply r_lss); exact rfl; exact rfl; exact rfl)
 | ((with_reducible apply r_leq); exact rfl; exact rfl; exact rfl)
 | ((with_reducible apply r_geq); exact rfl; exact rfl; exact rfl)
 | ((with_reducible apply r_add); exact rfl; exact rfl; exact (by first | assumption | (unfold fits; omega)); exact rfl)
 | ((with_reducible apply r_box_a); exact rfl; exact rfl)
 | ((with_reducible apply r_pick_t); exact rfl; exact rfl; exact rfl)
 | ((with_reducible apply r_pick_f); exact rfl; exact rfl; exact rfl)
 | ((with_reducible apply r_index_f); exact rfl; exact inferInstance; exact rfl; exact rfl; (first | assumption | omega); exact rfl)
 | ((with_reducible apply r_load_fa0); exact rfl; exact inferInstance; exact List.getElem?_eq_getElem (by first | assumption | omega); exact rfl; exact rfl; exact rfl)
 | (((with_reducible apply r_guard); exact rfl; exact rfl; exact rfl; exact rfl) <;> intro hg <;> (first | (exact absurd hg (by decide)) | ((try simp only [decide_eq_true_eq, decide_eq_false_iff_not, Bool.not_eq_true', Bool.not_eq_false', Bool.not_true, Bool.not_false, Bool.not_not, Int.not_lt, Int.not_le, Nat.not_lt, Nat.not_le, gt_iff_lt, ge_iff_le, List.cons.injEq, and_true] at hg); first | (exact absurd trivial hg) | (exfalso; omega) | (have hT : True := hg; clear hT hg) | skip)))
 | (((with_reducible apply aw_cond); exact rfl) <;> intro hg <;> (first | (exact absurd hg (by decide)) | ((try simp only [decide_eq_true_eq, decide_eq_false_iff_not, Bool.not_eq_true', Bool.not_eq_false', Bool.not_true, Bool.not_false, Bool.not_not, Int.not_lt, Int.not_le, Nat.not_lt, Nat.not_le, gt_iff_lt, ge_iff_le, List.cons.injEq, and_true] at hg); first | (exact absurd trivial hg) | (exfalso; omega) | (have hT : True := hg; clear hT hg) | skip)))
 )
    all_goals first
      | (rw [hso (decide_eq_true (by omega)) hall]; exact ret2 (.cons (.tmp rfl cl_c) (.cons (.tmp rfl cl_c) .nil)))
      | skip
    all_goals
      refine ⟨k + 1, ?_, ?_, by refine weak_mk rfl ?_ ?_ <;> repeat (first | exact envW_nil | exact heapW_nil | refine envW_cons rfl rfl ?_ | refine heapW_cons rfl rfl rfl ?_)⟩
      · show _ - (k + 1) < _ - k; omega
      · refine ⟨by show k + 1 ≤ _; omega, fun i hi hik => ?_⟩
        by_cases he : i = k
        · subst he; rw [decide_eq_false_iff_not]; omega
        · exact hall i hi (by omega)
  · rw [hno (fun j hj => hall j hj (by omega))]
    repeat' (first
 | (refine back_ret rfl ?_)
 | ((with_reducible apply aw_seq))
 | ((with_reducible apply aw_region))
 | ((with_reducible apply thn_normal))
 | ((with_reducible apply thn_ret))
 | ((with_reducible apply thn_exit))
 | ((with_reducible apply inb_exit))
 | ((with_reducible apply aw_exit))
 | ((with_reducible apply aw_ret))
 | ((with_reducible apply ao_nil))
 | ((with_reducible apply r_move); exact rfl; exact rfl)
 | ((with_reducible apply r_assign); exact rfl; exact rfl)
 | ((with_reducible apply r_lss); exact rfl; exact rfl; exact rfl)
 | (((with_reducible apply aw_cond); exact rfl) <;> intro hg <;> (first | (exact absurd hg (by decide)) | ((try simp only [decide_eq_true_eq, decide_eq_false_iff_not, Bool.not_eq_true', Bool.not_eq_false', Bool.not_true, Bool.not_false, Bool.not_not, Int.not_lt, Int.not_le, Nat.not_lt, Nat.not_le, gt_iff_lt, ge_iff_le, List.cons.injEq, and_true] at hg); first | (exact absurd trivial hg) | (exfalso; omega) | (have hT : True := hg; clear hT hg) | skip)))
 )
    exact ret2 (.cons (.tmp rfl cl_c) (.cons (.tmp rfl cl_c) .nil))
set_option maxHeartbeats 8000000 in
theorem rof_con (K : List Kl) (l : List Slc) (d : List Dfc) (hK : K.length ≤ maxLen) (hl : l.length ≤ maxLen) (hd : d.length ≤ maxLen) : Con Tryz.prog gl 53 [LK K, LL l, LD d] (ofV (ofS K l d)) := by
  have c0 := rkcheck_con (gl := gl) K hK
  have hK2 := hK
  unfold maxLen at hK2
  refine con_of Tryz.func53 rfl (by kernel_rfl) rfl ?_
  simp only [Tryz.ntmps53, Tryz.results53, argEnv, ofC, of1, List.map]
  by_cases hk : klChk K = 0
  rotate_left
  · rw [of_bad hk]
    repeat' (first
 | ((with_reducible apply r_call); exact rfl; exact rfl; exact c0; exact rfl; exact rfl)
 | ((with_reducible apply aw_seq))
 | ((with_reducible apply aw_region))
 | ((with_reducible apply thn_normal))
 | ((with_reducible apply thn_ret))
 | ((with_reducible apply aw_ret))
 | ((with_reducible apply ao_nil))
 | ((with_reducible apply r_move); exact rfl; exact rfl)
 | ((with_reducible apply r_assign); exact rfl; exact rfl)
 | ((with_reducible apply r_neq); exact rfl; exact rfl; exact rfl)
 | (((with_reducible apply aw_cond); exact rfl) <;> intro hg <;> (first | (exact absurd hg (by decide)) | ((try simp only [decide_eq_true_eq, decide_eq_false_iff_not, Bool.not_eq_true', Bool.not_eq_false', Bool.not_true, Bool.not_false, Bool.not_not, Int.not_lt, Int.not_le, Nat.not_lt, Nat.not_le, gt_iff_lt, ge_iff_le, List.cons.injEq, and_true] at hg); first | (exact absurd trivial hg) | (exfalso; omega) | (have hT : True := hg; clear hT hg) | skip)))
 )
    exact ret2 (.cons (.tmp rfl cl_c) (.cons (.tmp rfl cl_c) .nil))
  rw [hk] at c0
  repeat' (first
 | ((with_reducible apply r_call); exact rfl; exact rfl; exact c0; exact rfl; exact rfl)
 | ((with_reducible apply aw_seq))
 | ((with_reducible apply aw_region))
 | ((with_reducible apply aw_block))
 | ((with_reducible apply thn_normal))
 | ((with_reducible apply aw_skip))
 | ((with_reducible apply ao_nil))
 | ((with_reducible apply r_move); exact rfl; exact rfl)
 | ((with_reducible apply r_assign); exact rfl; exact rfl)
 | ((with_reducible apply r_neq); exact rfl; exact rfl; exact rfl)
 | (((with_reducible apply aw_cond); exact rfl) <;> intro hg <;> (first | (exact absurd hg (by decide)) | ((try simp only [decide_eq_true_eq, decide_eq_false_iff_not, Bool.not_eq_true', Bool.not_eq_false', Bool.not_true, Bool.not_false, Bool.not_not, Int.not_lt, Int.not_le, Nat.not_lt, Nat.not_le, gt_iff_lt, ge_iff_le, List.cons.injEq, and_true] at hg); first | (exact absurd trivial hg) | (exfalso; omega) | (have hT : True := hg; clear hT hg) | skip)))
 )
  refine aw_loopG (G := Nat) (fun (k : Nat) => k ≤ K.length ∧ ∀ i (hi : i < K.length), i < k → fitS l d K[i] = false) (fun (k : Nat) => K.length - k) (fun (k : Nat) => [(0, .c (LK K)), (1, .c (LL l)), (2, .c (LD d)), (8, A k)]) (fun (k : Nat) => []) 0 0 ?_ (by refine weak_mk rfl ?_ ?_ <;> repeat (first | exact envW_nil | exact heapW_nil | refine envW_cons rfl rfl ?_ | refine heapW_cons rfl rfl rfl ?_)) rfl ?_
  · exact ⟨Nat.zero_le _, fun i _ h => absurd h (Nat.not_lt_zero _)⟩
  rintro k hI
  try dsimp only at hI
  try dsimp only
  obtain ⟨hkk, hall⟩ := hI
  by_cases hkl : k < K.length
  · have hc := rfits_con (gl := gl) K[k] l d hl hd
    cases hq : fitS l d K[k] with
    | true =>
      rw [hq] at hc
      rw [of_some hk hkl hq hall]
      repeat' (first
 | ((with_reducible apply r_call); exact rfl; exact rfl; exact hc; exact rfl; exact rfl)
 | ((with_reducible apply aw_seq))
 | ((with_reducible apply aw_region))
 | ((with_reducible apply aw_block))
 | ((with_reducible apply thn_normal))
 | ((with_reducible apply thn_ret))
 | ((with_reducible apply inb_ret))
 | ((with_reducible apply aw_skip))
 | ((with_reducible apply aw_ret))
 | ((with_reducible apply ao_nil))
 | ((with_reducible apply r_move); exact rfl; exact rfl)
 | ((with_reducible apply r_assign); exact rfl; exact rfl)
 | ((with_reducible apply r_lss); exact rfl; exact rfl; exact rfl)
 | ((with_reducible apply r_len_f); exact rfl; exact inferInstance; exact rfl)
 | ((with_reducible apply r_index_f); exact rfl; exact inferInstance; exact rfl; exact rfl; (first | assumption | omega); exact rfl)
 | ((with_reducible apply r_load_fa0); exact rfl; exact inferInstance; exact List.getElem?_eq_getElem (by first | assumption | omega); exact rfl; exact rfl; exact rfl)
 | (((with_reducible apply aw_cond); exact rfl) <;> intro hg <;> (first | (exact absurd hg (by decide)) | ((try simp only [decide_eq_true_eq, decide_eq_false_iff_not, Bool.not_eq_true', Bool.not_eq_false', Bool.not_true, Bool.not_false, Bool.not_not, Int.not_lt, Int.not_le, Nat.not_lt, Nat.not_le, gt_iff_lt, ge_iff_le, List.cons.injEq, and_true] at hg); first | (exact absurd trivial hg) | (exfalso; omega) | (have hT : True := hg; clear hT hg) | skip)))
 )
      exact ret2 (.cons (.tmp rfl cl_c) (.cons (.tmp rfl cl_c) .nil))
    | false =>
      rw [hq] at hc
      repeat' (first
 | ((with_reducible apply r_call); exact rfl; exact rfl; exact hc; exact rfl; exact rfl)
 | ((with_reducible apply aw_seq))
 | ((with_reducible apply aw_region))
 | ((with_reducible apply aw_block))
 | ((with_reducible apply thn_normal))
 | ((with_reducible apply inb_normal))
 | ((with_reducible apply aw_skip))
 | ((with_reducible apply ao_nil))
 | ((with_reducible apply r_move); exact rfl; exact rfl)
 | ((with_reducible apply r_assign); exact rfl; exact rfl)
 | ((with_reducible apply r_lss); exact rfl; exact rfl; exact rfl)
 | ((with_reducible apply r_add); exact rfl; exact rfl; exact (by first | assumption | (unfold fits; omega)); exact rfl)
 | ((with_reducible apply r_len_f); exact rfl; exact inferInstance; exact rfl)
 | ((with_reducible apply r_index_f); exact rfl; exact inferInstance; exact rfl; exact rfl; (first | assumption | omega); exact rfl)
 | ((with_reducible apply r_load_fa0); exact rfl; exact inferInstance; exact List.getElem?_eq_getElem (by first | assumption | omega); exact rfl; exact rfl; exact rfl)
 | (((with_reducible apply aw_cond); exact rfl) <;> intro hg <;> (first | (exact absurd hg (by decide)) | ((try simp only [decide_eq_true_eq, decide_eq_false_iff_not, Bool.not_eq_true', Bool.not_eq_false', Bool.not_true, Bool.not_false, Bool.not_not, Int.not_lt, Int.not_le, Nat.not_lt, Nat.not_le, gt_iff_lt, ge_iff_le, List.cons.injEq, and_true] at hg); first | (exact absurd trivial hg) | (exfalso; omega) | (have hT : True := hg; clear hT hg) | skip)))
 )
      refine ⟨k + 1, ?_, ?_, by refine weak_mk rfl ?_ ?_ <;> repeat (first | exact envW_nil | exact heapW_nil | refine envW_cons rfl rfl ?_ | refine heapW_cons rfl rfl rfl ?_)⟩
      · show _ - (k + 1) < _ - k; omega
      · refine ⟨by show k + 1 ≤ _; omega, fun i hi hik => ?_⟩
        by_cases he : i = k
        · subst he; exact hq
        · exact hall i hi (by omega)
  · rw [of_none hk (fun j hj => hall j hj (by omega))]
    repeat' (first
 | ((with_reducible apply aw_seq))
 | ((with_reducible apply aw_region))
 | ((with_reducible apply thn_normal))
 | ((with_reducible apply thn_exit))
 | ((with_reducible apply inb_exit))
 | ((with_reducible apply aw_exit))
 | ((with_reducible apply aw_ret))
 | ((with_reducible apply ao_nil))
 | ((with_reducible apply r_move); exact rfl; exact rfl)
 | ((with_reducible apply r_assign); exact rfl; exact rfl)
 | ((with_reducible apply r_lss); exact rfl; exact rfl; exact rfl)
 | ((with_reducible apply r_len_f); exact rfl; exact inferInstance; exact rfl)
 | (((with_reducible apply aw_cond); exact rfl) <;> intro hg <;> (first | (exact absurd hg (by decide)) | ((try simp only [decide_eq_true_eq, decide_eq_false_iff_not, Bool.not_eq_true', Bool.not_eq_false', Bool.not_true, Bool.not_false, Bool.not_not, Int.not_lt, Int.not_le, Nat.not_lt, Nat.not_le, gt_iff_lt, ge_iff_le, List.cons.injEq, and_true] at hg); first | (exact absurd trivial hg) | (exfalso; omega) | (have hT : True := hg; clear hT hg) | skip)))
 )
    exact ret2 (.cons (.tmp rfl cl_c) (.cons (.tmp rfl cl_c) .nil))
end Go.Proofs.YtkhljpbkebnnmaaGreatDoor.Ge
/- Walks of classes: Price in both, and what the laws ask: few, short, looser. -/
namespace Go.Proofs.YtkhljpbkebnnmaaGreatDoor.Ge
set_option linter.unusedVariables false
set_option linter.unusedSimpArgs false
open Go.RowKit Go.Proofs.YtkhljpbkebnnmaaGreatDoor.Ev
variable {gl : List (Nat × List CV)}
theorem klGo_ok : ∀ (l p : List Kl), klGo p l = 0 → ∀ c ∈ l, inR c = true
  | [], _, _, c, hc => by cases hc
  | x :: l, p, h, c, hc => by
    unfold klGo at h
    split at h
    · cases h
    · split at h
      · cases h
      · split at h
        · cases h
        · rename_i h3
          rcases List.mem_cons.1 hc with rfl | hc
          · simpa using h3
          · exact klGo_ok l _ h c hc
theorem kl_ok {l : List Kl} (h : klChk l = 0) : ∀ c ∈ l, inR c = true := by
  unfold klChk at h
  split at h
  · cases h
  · exact klGo_ok l [] h
theorem price_bd {c : Kl} (h : inR c = true) : 0 ≤ c.price ∧ c.price ≤ 1000000 := by
  rw [inR_bits] at h
  simp only [Bool.and_eq_true, million, decide_eq_true_eq] at h
  exact h.1.2.2.2.2.2.2.2.1
theorem volS_bd (l : List Slc) : 0 ≤ volS l ∧ volS l ≤ 700000000000 := by
  unfold volS
  by_cases h : solChk l = 0
  · rw [valL_ok h]
    have v := sol_V h
    have := sumN_bd (f := fun i => lenD l i * areaV (secD l i)) (c := 28800000000) (n := l.length) (fun i hi => vol_bd v hi) _ (Nat.le_refl _)
    have h2 := v.n
    unfold volV
    omega
  · rw [valL_no h]; decide
def priceR (K : List Kl) (v : Int) (r : Int × Bool) : Int := if r.2 then ((K.getD r.1.toNat ⟨⟨#[]⟩, 0, 0, 0, 0, 0, 0, 0, 0⟩).price * v) / 1000000000 else 0
noncomputable def priceS (K : List Kl) (l : List Slc) (d : List Dfc) : Int := priceR K (volS l) (ofS K l d)
theorem of_cases (K : List Kl) (l : List Slc) (d : List Dfc) : ofS K l d = (0, false) ∨ ∃ i, ∃ hi : i < K.length, klChk K = 0 ∧ ofS K l d = ((i : Int), true) ∧ fitS l d K[i] = true ∧ ∀ j (hj : j < K.length), j < i → fitS l d K[j] = false := by
  unfold ofS ofN
  by_cases hk : klChk K = 0
  · rw [if_pos hk]
    cases hf : K.findIdx? (fitS l d) with
    | none => exact .inl rfl
    | some i =>
      obtain ⟨h1, h2, h3⟩ := (List.findIdx?_eq_some_iff_getElem).1 hf
      exact .inr ⟨i, h1, hk, rfl, h2, fun j hj hji => by simpa using h3 j hji⟩
  · rw [if_neg hk]; exact .inl rfl
theorem mulp_bd {p v : Int} (hp : 0 ≤ p ∧ p ≤ 1000000) (hv : 0 ≤ v ∧ v ≤ 700000000000) : 0 ≤ p * v ∧ p * v ≤ 700000000000000000 := mul_bd2 (m := 1000000) (k := 700000000000) hp hv
theorem priceS_some {K : List Kl} {l : List Slc} {d : List Dfc} {i : Nat} (hi : i < K.length) (h : ofS K l d = ((i : Int), true)) : priceS K l d = K[i].price * volS l / 1000000000 := by
  unfold priceS priceR
  rw [h]
  simp [List.getD_eq_getElem?_getD, hi]
theorem priceS_none {K : List Kl} {l : List Slc} {d : List Dfc} (h : ofS K l d = (0, false)) : priceS K l d = 0 := by
  unfold priceS priceR
  rw [h]; rfl
theorem tdivB {a : Int} (h : 0 ≤ a) : a.tdiv 1000000000 = a / 1000000000 := Int.tdiv_eq_ediv_of_nonneg h
set_option maxHeartbeats 8000000 in
theorem price_con (K : List Kl) (l : List Slc) (d : List Dfc) (hK : K.length ≤ maxLen) (hl : l.length ≤ maxLen) (hd : d.length ≤ maxLen) : Con Tryz.prog gl 29 [LK K, LL l, LD d] (I (priceS K l d)) := by
  have c0 := of_con (gl := gl) K l d hK hl hd
  have c1 := svolume_con (gl := gl) l hl
  have hv := volS_bd l
  have hK2 := hK
  unfold maxLen at hK2
  refine con_of Tryz.func29 rfl (by kernel_rfl) rfl ?_
  simp only [Tryz.ntmps29, Tryz.results29, argEnv, ofC, of1, List.map]
  rcases of_cases K l d with h | ⟨i, hi, hk, h, _, _⟩
  · rw [priceS_none h]
    rw [h] at c0
    change Con _ _ _ _ (.tup [I 0, .v (.bool false)]) at c0
    repeat' (first
 | ((with_reducible apply r_call); exact rfl; exact rfl; exact c0; exact rfl; exact rfl)
 | ((with_reducible apply aw_seq))
 | ((with_reducible apply aw_region))
 | ((with_reducible apply thn_normal))
 | ((with_reducible apply thn_ret))
 | ((with_reducible apply aw_ret))
 | ((with_reducible apply ao_nil))
 | ((with_reducible apply r_move); exact rfl; exact rfl)
 | ((with_reducible apply r_assign); exact rfl; exact rfl)
 | ((with_reducible apply r_not); exact rfl; exact rfl)
 | ((with_reducible apply r_extract); exact rfl; exact rfl; exact rfl)
 | (((with_reducible apply aw_cond); exact rfl) <;> intro hg <;> (first | (exact absurd hg (by decide)) | ((try simp only [decide_eq_true_eq, decide_eq_false_iff_not, Bool.not_eq_true', Bool.not_eq_false', Bool.not_true, Bool.not_false, Bool.not_not, Int.not_lt, Int.not_le, Nat.not_lt, Nat.not_le, gt_iff_lt, ge_iff_le, List.cons.injEq, and_true] at hg); first | (exact absurd trivial hg) | (exfalso; omega) | (have hT : True := hg; clear hT hg) | skip)))
 )
    all_goals exact ret_i rfl rfl
  · rw [priceS_some hi h]
    rw [h] at c0
    change Con _ _ _ _ (.tup [I (i : Int), .v (.bool true)]) at c0
    have hp := price_bd (kl_ok hk K[i] (List.getElem_mem _))
    have hm := mulp_bd hp hv
    have hq := tdivB hm.1
    revert c1 hv hm hq
    generalize volS l = v
    intro c1 hv hm hq
    have hf : fits (K[i].price * v) := by unfold fits; omega
    have hf2 : fits ((K[i].price * v).tdiv 1000000000) := by rw [hq]; unfold fits; omega
    repeat' (first
 | ((with_reducible apply r_call); exact rfl; exact rfl; (first | exact c0 | exact c1); exact rfl; exact rfl)
 | ((with_reducible apply r_quo); exact rfl; exact rfl; exact (by decide); exact hf2; exact rfl)
 | ((with_reducible apply aw_seq))
 | ((with_reducible apply aw_region))
 | ((with_reducible apply thn_normal))
 | ((with_reducible apply aw_skip))
 | ((with_reducible apply aw_ret))
 | ((with_reducible apply ao_nil))
 | ((with_reducible apply r_move); exact rfl; exact rfl)
 | ((with_reducible apply r_assign); exact rfl; exact rfl)
 | ((with_reducible apply r_mul); exact rfl; exact rfl; exact (by first | assumption | (unfold fits; omega)); exact rfl)
 | ((with_reducible apply r_not); exact rfl; exact rfl)
 | ((with_reducible apply r_index_f); exact rfl; exact inferInstance; exact rfl; exact rfl; (first | assumption | omega); exact rfl)
 | ((with_reducible apply r_load_f); exact rfl; exact inferInstance; exact List.getElem?_eq_getElem (by first | assumption | omega); exact rfl; exact rfl; exact rfl)
 | ((with_reducible apply r_field_e); exact rfl; exact rfl)
 | ((with_reducible apply r_extract); exact rfl; exact rfl; exact rfl)
 | (((with_reducible apply aw_cond); exact rfl) <;> intro hg <;> (first | (exact absurd hg (by decide)) | ((try simp only [decide_eq_true_eq, decide_eq_false_iff_not, Bool.not_eq_true', Bool.not_eq_false', Bool.not_true, Bool.not_false, Bool.not_not, Int.not_lt, Int.not_le, Nat.not_lt, Nat.not_le, gt_iff_lt, ge_iff_le, List.cons.injEq, and_true] at hg); first | (exact absurd trivial hg) | (exfalso; omega) | (have hT : True := hg; clear hT hg) | skip)))
 | (refine aw_drawq ?_ ?_; (kernel_rfl))
 | ((with_reducible apply ds_nil))
 )
    all_goals exact ret_i rfl hq
set_option maxHeartbeats 8000000 in
theorem rprice_con (K : List Kl) (l : List Slc) (d : List Dfc) (hK : K.length ≤ maxLen) (hl : l.length ≤ maxLen) (hd : d.length ≤ maxLen) : Con Tryz.prog gl 32 [LK K, LL l, LD d] (I (priceS K l d)) := by
  have c0 := rof_con (gl := gl) K l d hK hl hd
  have c1 := rsvolume_con (gl := gl) l hl
  have hv := volS_bd l
  have hK2 := hK
  unfold maxLen at hK2
  refine con_of Tryz.func32 rfl (by kernel_rfl) rfl ?_
  simp only [Tryz.ntmps32, Tryz.results32, argEnv, ofC, of1, List.map]
  rcases of_cases K l d with h | ⟨i, hi, hk, h, _, _⟩
  · rw [priceS_none h]
    rw [h] at c0
    change Con _ _ _ _ (.tup [I 0, .v (.bool false)]) at c0
    repeat' (first
 | ((with_reducible apply r_call); exact rfl; exact rfl; exact c0; exact rfl; exact rfl)
 | ((with_reducible apply aw_seq))
 | ((with_reducible apply aw_region))
 | ((with_reducible apply thn_normal))
 | ((with_reducible apply thn_ret))
 | ((with_reducible apply aw_ret))
 | ((with_reducible apply ao_nil))
 | ((with_reducible apply r_move); exact rfl; exact rfl)
 | ((with_reducible apply r_assign); exact rfl; exact rfl)
 | ((with_reducible apply r_not); exact rfl; exact rfl)
 | ((with_reducible apply r_extract); exact rfl; exact rfl; exact rfl)
 | (((with_reducible apply aw_cond); exact rfl) <;> intro hg <;> (first | (exact absurd hg (by decide)) | ((try simp only [decide_eq_true_eq, decide_eq_false_iff_not, Bool.not_eq_true', Bool.not_eq_false', Bool.not_true, Bool.not_false, Bool.not_not, Int.not_lt, Int.not_le, Nat.not_lt, Nat.not_le, gt_iff_lt, ge_iff_le, List.cons.injEq, and_true] at hg); first | (exact absurd trivial hg) | (exfalso; omega) | (have hT : True := hg; clear hT hg) | skip)))
 )
    all_goals exact ret_i rfl rfl
  · rw [priceS_some hi h]
    rw [h] at c0
    change Con _ _ _ _ (.tup [I (i : Int), .v (.bool true)]) at c0
    have hp := price_bd (kl_ok hk K[i] (List.getElem_mem _))
    have hm := mulp_bd hp hv
    have hq := tdivB hm.1
    revert c1 hv hm hq
    generalize volS l = v
    intro c1 hv hm hq
    have hf : fits (K[i].price * v) := by unfold fits; omega
    have hf2 : fits ((K[i].price * v).tdiv 1000000000) := by rw [hq]; unfold fits; omega
    repeat' (first
 | ((with_reducible apply r_call); exact rfl; exact rfl; (first | exact c0 | exact c1); exact rfl; exact rfl)
 | ((with_reducible apply r_quo); exact rfl; exact rfl; exact (by decide); exact hf2; exact rfl)
 | ((with_reducible apply aw_seq))
 | ((with_reducible apply aw_region))
 | ((with_reducible apply thn_normal))
 | ((with_reducible apply aw_skip))
 | ((with_reducible apply aw_ret))
 | ((with_reducible apply ao_nil))
 | ((with_reducible apply r_move); exact rfl; exact rfl)
 | ((with_reducible apply r_assign); exact rfl; exact rfl)
 | ((with_reducible apply r_mul); exact rfl; exact rfl; exact (by first | assumption | (unfold fits; omega)); exact rfl)
 | ((with_reducible apply r_not); exact rfl; exact rfl)
 | ((with_reducible apply r_index_f); exact rfl; exact inferInstance; exact rfl; exact rfl; (first | assumption | omega); exact rfl)
 | ((with_reducible apply r_load_f); exact rfl; exact inferInstance; exact List.getElem?_eq_getElem (by first | assumption | omega); exact rfl; exact rfl; exact rfl)
 | ((with_reducible apply r_field_e); exact rfl; exact rfl)
 | ((with_reducible apply r_extract); exact rfl; exact rfl; exact rfl)
 | (((with_reducible apply aw_cond); exact rfl) <;> intro hg <;> (first | (exact absurd hg (by decide)) | ((try simp only [decide_eq_true_eq, decide_eq_false_iff_not, Bool.not_eq_true', Bool.not_eq_false', Bool.not_true, Bool.not_false, Bool.not_not, Int.not_lt, Int.not_le, Nat.not_lt, Nat.not_le, gt_iff_lt, ge_iff_le, List.cons.injEq, and_true] at hg); first | (exact absurd trivial hg) | (exfalso; omega) | (have hT : True := hg; clear hT hg) | skip)))
 | (refine aw_drawq ?_ ?_; (kernel_rfl))
 | ((with_reducible apply ds_nil))
 )
    all_goals exact ret_i rfl hq
end Go.Proofs.YtkhljpbkebnnmaaGreatDoor.Ge
/- Walks of the laws on classes: sample, awake. -/
namespace Go.Proofs.YtkhljpbkebnnmaaGreatDoor.Ge
set_option linter.unusedVariables false
set_option linter.unusedSimpArgs false
open Go.RowKit Go.Proofs.YtkhljpbkebnnmaaGreatDoor.Ev
variable {gl : List (Nat × List CV)}
def row20 : List Span := List.replicate 20 (-100, 100)
def Sq : Sec := ⟨-10, row20⟩
theorem row_get (i : Nat) (h : i < row20.length) : row20[i] = (-100, 100) := List.eq_of_mem_replicate (List.getElem_mem h)
theorem Sq_chk : secChk Sq = 0 := (sc_ok ⟨by decide, ⟨by decide, by decide⟩, fun i h => by
  exact (congrArg rangeS (row_get i h)).trans rfl⟩ (by decide) (fun ⟨_, h⟩ => by
  have e : ∀ i (h : i < row20.length), emptyS row20[i] = false := fun i h => (congrArg emptyS (row_get i h)).trans rfl
  rcases h with h | h
  · exact absurd ((e _ _).symm.trans h) (by decide)
  · exact absurd ((e _ _).symm.trans h) (by decide)) (fun i h => by
  exact (congrArg okRow (row_get i h)).trans rfl)).symm
theorem Sq_area : areaS Sq = 40000 := by rw [areaS_ok Sq_chk]; rfl
theorem Sq_dia : diaS Sq = 225 := by
  unfold diaS
  rw [Sq_area]
  exact (show IsRoot (452 * 40000 / 355) 225 from ⟨by decide, by decide, by decide⟩).eq
def nmA : ByteArray := { data := #[97] }
def kA : Kl := ⟨nmA, 225, 3000, 3000, 0, 0, 0, 0, 100⟩
theorem nm_a : nameS nmA = true := name_yes ⟨by decide, by decide, rfl, fun i h1 h2 => absurd h2 (by show ¬ i < 1; omega)⟩
end Go.Proofs.YtkhljpbkebnnmaaGreatDoor.Ge
/- Walks of the laws on classes. -/
namespace Go.Proofs.YtkhljpbkebnnmaaGreatDoor.Ge
set_option linter.unusedVariables false
set_option linter.unusedSimpArgs false
open Go.RowKit Go.Proofs.YtkhljpbkebnnmaaGreatDoor.Ev
variable {gl : List (Nat × List CV)}
abbrev KQ (K : List Kl) : Prop := K.length ≤ maxLen
abbrev Lg := List Slc × List Dfc
abbrev lgV (x : Lg) : CV := .agg [LL x.1, LD x.2]
theorem defGo_iff : ∀ d : List Dfc, defGo d = 0 ↔ ∀ x ∈ d, dfChk x = 0
  | [] => by simp [defGo]
  | y :: l => by
    unfold defGo
    by_cases h : dfChk y = 0
    · rw [if_pos h, defGo_iff l]; simp [h]
    · rw [if_neg h]; simp [h]
theorem defChk_iff (d : List Dfc) : defChk d = 0 ↔ d.length ≤ 64 ∧ ∀ x ∈ d, dfChk x = 0 := by
  unfold defChk
  by_cases h : 64 < d.length
  · rw [if_pos h]; simp; omega
  · rw [if_neg h, defGo_iff]; exact ⟨fun hh => ⟨by omega, hh⟩, fun hh => hh.2⟩
end Go.Proofs.YtkhljpbkebnnmaaGreatDoor.Ge
