/- BS BD: texts laid together. -/
import Derived.Test.YtkhljpbkebnnmaaGreatDoorMrgB1
import Derived.Test.YtkhljpbkebnnmaaGreatDoorMrgC3
set_option maxRecDepth 100000
/- Walks of bucking: the reference's Line and Best. -/
namespace Go.Proofs.YtkhljpbkebnnmaaGreatDoor.Bu
set_option linter.unusedVariables false
set_option linter.unusedSimpArgs false
open Go.RowKit Go.Proofs.YtkhljpbkebnnmaaGreatDoor.Ev Go.Proofs.YtkhljpbkebnnmaaGreatDoor.Ge
variable {gl : List (Nat × List CV)}
set_option maxHeartbeats 16000000 in
theorem rline_con (p : Plan) (s : Lg) (hK : p.classes.length ≤ maxLen) (hl : s.1.length ≤ maxLen) (hd : s.2.length ≤ maxLen) : Con Tryz.prog gl 11 [planV p, lgV s] (lrC (lineS p s)) := by
  have c0 := rpcheck_con (gl := gl) p hK
  have c1 := rscheck_con (gl := gl) s.1 hl
  have c2 := rdcheck_con (gl := gl) s.2 hd
  have c3 := rslength_con (gl := gl) s.1 hl
  refine con_of Tryz.func11 rfl (by kernel_rfl) rfl ?_
  simp only [Tryz.ntmps11, Tryz.results11, argEnv, ofC, of1, List.map]
  by_cases h0 : planChk p = 0
  rotate_left
  · rw [ls_plan h0]
    repeat' (first
 | ((with_reducible apply r_call); exact rfl; exact rfl; exact c0; exact rfl; exact rfl)
 | ((with_reducible apply aw_seq))
 | ((with_reducible apply aw_region))
 | ((with_reducible apply thn_normal))
 | ((with_reducible apply thn_ret))
 | ((with_reducible apply aw_ret))
 | ((with_reducible apply ao_nil))
 | ((with_reducible apply r_move); exact rfl; exact rfl)
 | ((with_reducible apply r_assign); exact rfl; exact rfl)
 | ((with_reducible apply r_load_pa); exact rfl; exact rfl; exact rfl; exact rfl; exact rfl)
 | ((with_reducible apply r_neq); exact rfl; exact rfl; exact rfl)
 | ((with_reducible apply r_box_a); exact rfl; exact rfl)
 | ((with_reducible apply r_store_pa); exact rfl; exact rfl; exact rfl; exact rfl; exact rfl; exact rfl)
 | ((with_reducible apply r_build); exact rfl; exact rfl; exact rfl)
 | ((with_reducible apply r_alloc); exact rfl)
 | (((with_reducible apply aw_cond); exact rfl) <;> intro hg <;> (first | (exact absurd hg (by decide)) | ((try simp only [decide_eq_true_eq, decide_eq_false_iff_not, Bool.not_eq_true', Bool.not_eq_false', Bool.not_true, Bool.not_false, Bool.not_not, Int.not_lt, Int.not_le, Nat.not_lt, Nat.not_le, gt_iff_lt, ge_iff_le, List.cons.injEq, and_true] at hg); first | (exact absurd trivial hg) | (exfalso; omega) | (have hT : True := hg; clear hT hg) | skip)))
 )
    exact ret2 (.cons (.cell_a inferInstance rfl rfl rfl rfl (cl_cons cl_c (cl_cons cl_c (cl_cons cl_c (cl_cons cl_none (cl_cons cl_none (cl_cons cl_none (cl_cons cl_none cl_nil)))))))) (.cons (.tmp rfl cl_c) .nil))
  by_cases h1 : solChk s.1 = 0
  rotate_left
  · rw [ls_sol h0 h1]
    rw [h0] at c0
    repeat' (first
 | ((with_reducible apply r_call); exact rfl; exact rfl; (first | exact c0 | exact c1); exact rfl; exact rfl)
 | ((with_reducible apply aw_seq))
 | ((with_reducible apply aw_region))
 | ((with_reducible apply thn_normal))
 | ((with_reducible apply thn_ret))
 | ((with_reducible apply aw_skip))
 | ((with_reducible apply aw_ret))
 | ((with_reducible apply ao_nil))
 | ((with_reducible apply r_move); exact rfl; exact rfl)
 | ((with_reducible apply r_assign); exact rfl; exact rfl)
 | ((with_reducible apply r_field_p); exact rfl; exact rfl)
 | ((with_reducible apply r_load_p); exact rfl; exact rfl; exact rfl; exact rfl)
 | ((with_reducible apply r_load_pa); exact rfl; exact rfl; exact rfl; exact rfl; exact rfl)
 | ((with_reducible apply r_neq); exact rfl; exact rfl; exact rfl)
 | ((with_reducible apply r_box_a); exact rfl; exact rfl)
 | ((with_reducible apply r_store_pa); exact rfl; exact rfl; exact rfl; exact rfl; exact rfl; exact rfl)
 | ((with_reducible apply r_build); exact rfl; exact rfl; exact rfl)
 | ((with_reducible apply r_alloc); exact rfl)
 | (((with_reducible apply aw_cond); exact rfl) <;> intro hg <;> (first | (exact absurd hg (by decide)) | ((try simp only [decide_eq_true_eq, decide_eq_false_iff_not, Bool.not_eq_true', Bool.not_eq_false', Bool.not_true, Bool.not_false, Bool.not_not, Int.not_lt, Int.not_le, Nat.not_lt, Nat.not_le, gt_iff_lt, ge_iff_le, List.cons.injEq, and_true] at hg); first | (exact absurd trivial hg) | (exfalso; omega) | (have hT : True := hg; clear hT hg) | skip)))
 )
    exact ret2 (.cons (.cell_a inferInstance rfl rfl rfl rfl (cl_cons cl_c (cl_cons cl_c (cl_cons cl_c (cl_cons cl_none (cl_cons cl_none (cl_cons cl_none (cl_cons cl_none cl_nil)))))))) (.cons (.tmp rfl cl_c) .nil))
  by_cases h2 : defChk s.2 = 0
  rotate_left
  · rw [ls_def h0 h1 h2]
    rw [h0] at c0
    rw [h1] at c1
    repeat' (first
 | ((with_reducible apply r_call); exact rfl; exact rfl; (first | exact c0 | exact c1 | exact c2); exact rfl; exact rfl)
 | ((with_reducible apply aw_seq))
 | ((with_reducible apply aw_region))
 | ((with_reducible apply thn_normal))
 | ((with_reducible apply thn_ret))
 | ((with_reducible apply aw_skip))
 | ((with_reducible apply aw_ret))
 | ((with_reducible apply ao_nil))
 | ((with_reducible apply r_move); exact rfl; exact rfl)
 | ((with_reducible apply r_assign); exact rfl; exact rfl)
 | ((with_reducible apply r_field_p); exact rfl; exact rfl)
 | ((with_reducible apply r_load_p); exact rfl; exact rfl; exact rfl; exact rfl)
 | ((with_reducible apply r_load_pa); exact rfl; exact rfl; exact rfl; exact rfl; exact rfl)
 | ((with_reducible apply r_neq); exact rfl; exact rfl; exact rfl)
 | ((with_reducible apply r_box_a); exact rfl; exact rfl)
 | ((with_reducible apply r_store_pa); exact rfl; exact rfl; exact rfl; exact rfl; exact rfl; exact rfl)
 | ((with_reducible apply r_build); exact rfl; exact rfl; exact rfl)
 | ((with_reducible apply r_alloc); exact rfl)
 | (((with_reducible apply aw_cond); exact rfl) <;> intro hg <;> (first | (exact absurd hg (by decide)) | ((try simp only [decide_eq_true_eq, decide_eq_false_iff_not, Bool.not_eq_true', Bool.not_eq_false', Bool.not_true, Bool.not_false, Bool.not_not, Int.not_lt, Int.not_le, Nat.not_lt, Nat.not_le, gt_iff_lt, ge_iff_le, List.cons.injEq, and_true] at hg); first | (exact absurd trivial hg) | (exfalso; omega) | (have hT : True := hg; clear hT hg) | skip)))
 )
    exact ret2 (.cons (.cell_a inferInstance rfl rfl rfl rfl (cl_cons cl_c (cl_cons cl_c (cl_cons cl_c (cl_cons cl_none (cl_cons cl_none (cl_cons cl_none (cl_cons cl_none cl_nil)))))))) (.cons (.tmp rfl cl_c) .nil))
  have pk := plan_ok h0
  have hlb := length_bd s.1
  have hu := pk.unit
  have hq : (lengthS s.1).tdiv p.unit = lengthS s.1 / p.unit := Int.tdiv_eq_ediv_of_nonneg hlb.1
  have hu0 : 0 ≤ lengthS s.1 / p.unit := Int.ediv_nonneg hlb.1 (by omega)
  have hu1 : lengthS s.1 / p.unit ≤ 20000 := Int.le_trans (Int.ediv_le_self _ hlb.1) hlb.2
  have hls := ls_long (p := p) (s := s) h0 h1 h2
  have hlo := ls_ok (p := p) (s := s) h0 h1 h2
  rw [h0] at c0
  rw [h1] at c1
  rw [h2] at c2
  obtain ⟨u, eu⟩ : ∃ u, u = lengthS s.1 / p.unit := ⟨_, rfl⟩
  rw [← eu] at hq hu0 hu1 hls hlo
  obtain ⟨L, eL⟩ : ∃ L, L = lengthS s.1 := ⟨_, rfl⟩
  rw [← eL] at c3 hq
  have hf : fits (L.tdiv p.unit) := by rw [hq]; unfold fits; omega
  by_cases hlong : 2000 < u
  · rw [hls hlong]
    repeat' (first
 | ((with_reducible apply r_call); exact rfl; exact rfl; (first | exact c0 | exact c1 | exact c2 | exact c3); exact rfl; exact rfl)
 | ((with_reducible apply r_quo); exact rfl; exact rfl; exact (by omega); exact hf; exact rfl; rw [hq])
 | ((with_reducible apply aw_seq))
 | ((with_reducible apply aw_region))
 | ((with_reducible apply thn_normal))
 | ((with_reducible apply thn_ret))
 | ((with_reducible apply aw_skip))
 | ((with_reducible apply aw_ret))
 | ((with_reducible apply ao_nil))
 | ((with_reducible apply r_move); exact rfl; exact rfl)
 | ((with_reducible apply r_assign); exact rfl; exact rfl)
 | ((with_reducible apply r_field_p); exact rfl; exact rfl)
 | ((with_reducible apply r_load_p); exact rfl; exact rfl; exact rfl; exact rfl)
 | ((with_reducible apply r_load_pa); exact rfl; exact rfl; exact rfl; exact rfl; exact rfl)
 | ((with_reducible apply r_gtr); exact rfl; exact rfl; exact rfl)
 | ((with_reducible apply r_neq); exact rfl; exact rfl; exact rfl)
 | ((with_reducible apply r_box_a); exact rfl; exact rfl)
 | ((with_reducible apply r_store_pa); exact rfl; exact rfl; exact rfl; exact rfl; exact rfl; exact rfl)
 | ((with_reducible apply r_build); exact rfl; exact rfl; exact rfl)
 | ((with_reducible apply r_alloc); exact rfl)
 | (((with_reducible apply aw_cond); exact rfl) <;> intro hg <;> (first | (exact absurd hg (by decide)) | ((try simp only [decide_eq_true_eq, decide_eq_false_iff_not, Bool.not_eq_true', Bool.not_eq_false', Bool.not_true, Bool.not_false, Bool.not_not, Int.not_lt, Int.not_le, Nat.not_lt, Nat.not_le, gt_iff_lt, ge_iff_le, List.cons.injEq, and_true] at hg); first | (exact absurd trivial hg) | (exfalso; omega) | (have hT : True := hg; clear hT hg) | skip)))
 | (refine aw_drawq ?_ ?_; (kernel_rfl))
 | ((with_reducible apply ds_nil))
 )
    exact ret2 (.cons (.cell_a inferInstance rfl rfl rfl rfl (cl_cons cl_c (cl_cons cl_c (cl_cons cl_c (cl_cons cl_none (cl_cons cl_none (cl_cons cl_none (cl_cons cl_none cl_nil)))))))) (.cons (.tmp rfl cl_c) .nil))
  rw [hlo hlong]
  have hln := pk.len
  have hut : u = (u.toNat : Int) := (Int.toNat_of_nonneg hu0).symm
  have hut2 : u.toNat ≤ 2000 := by omega
  obtain ⟨zs, ezs⟩ : ∃ zs, zs = List.replicate u.toNat (0 : Int) := ⟨_, rfl⟩
  repeat' (first
 | (refine aw_drawA 12 ?_ rfl aop_alloc rfl ?_; (kernel_rfl); (simp only [List.take_succ_cons, List.take_zero, List.drop_succ_cons, List.drop_zero]))
 | ((with_reducible apply ds_nilA); exact rfl)
 | ((with_reducible apply r_lit0q); exact rfl)
 | ((with_reducible apply (r_append0q (enc := Cu.inC) (l2 := p.lens))); exact rfl; exact rfl; exact inferInstance; exact (by omega); exact (by omega); exact rfl)
 | ((with_reducible apply r_makeq (enc := Cu.inC) (0 : Int) u.toNat); exact inferInstance; exact rfl; exact rfl; exact rfl; exact hut; exact hut; omega; omega; exact rfl)
 | ((with_reducible apply r_call); exact rfl; exact rfl; (first | exact c0 | exact c1 | exact c2 | exact c3); exact rfl; exact rfl)
 | ((with_reducible apply r_quo); exact rfl; exact rfl; exact (by omega); exact hf; exact rfl; rw [hq])
 | ((with_reducible apply aw_seq))
 | ((with_reducible apply aw_region))
 | ((with_reducible apply aw_block))
 | ((with_reducible apply thn_normal))
 | ((with_reducible apply aw_skip))
 | ((with_reducible apply ao_nil))
 | ((with_reducible apply r_move); exact rfl; exact rfl)
 | ((with_reducible apply r_assign); exact rfl; exact rfl)
 | ((with_reducible apply r_field_p); exact rfl; exact rfl)
 | ((with_reducible apply r_load_p); exact rfl; exact rfl; exact rfl; exact rfl)
 | ((with_reducible apply r_load_pa); exact rfl; exact rfl; exact rfl; exact rfl; exact rfl)
 | ((with_reducible apply r_gtr); exact rfl; exact rfl; exact rfl)
 | ((with_reducible apply r_neq); exact rfl; exact rfl; exact rfl)
 | ((with_reducible apply r_box_a); exact rfl; exact rfl)
 | ((with_reducible apply r_store_pa); exact rfl; exact rfl; exact rfl; exact rfl; exact rfl; exact rfl)
 | ((with_reducible apply r_build); exact rfl; exact rfl; exact rfl)
 | ((with_reducible apply r_alloc); exact rfl)
 | (((with_reducible apply aw_cond); exact rfl) <;> intro hg <;> (first | (exact absurd hg (by decide)) | ((try simp only [decide_eq_true_eq, decide_eq_false_iff_not, Bool.not_eq_true', Bool.not_eq_false', Bool.not_true, Bool.not_false, Bool.not_not, Int.not_lt, Int.not_le, Nat.not_lt, Nat.not_le, gt_iff_lt, ge_iff_le, List.cons.injEq, and_true] at hg); first | (exact absurd trivial hg) | (exfalso; omega) | (have hT : True := hg; clear hT hg) | skip)))
 | (refine aw_drawq ?_ ?_; (kernel_rfl))
 | ((with_reducible apply ds_nil))
 )
  rw [← ezs]
  refine aw_nilcell 3 4 23 1 rfl rfl rfl rfl ?_
  refine aw_loopG (G := Nat) (fun (j : Nat) => j ≤ p.lens.length) (fun (j : Nat) => p.lens.length - j) (fun (j : Nat) => [(2, .ptr 0 0), (3, .ptr 1 0), (4, .ptr 2 0), (9, A u), (10, .ptr 3 0), (11, A j)]) (fun (j : Nat) => [(0, some (.cells 25 (planA p))), (1, some (.cells 29 [.c (LL s.1), .c (LD s.2)])), (2, some (.cells 36 nil7)), (3, some (.cells 36 [A u, A p.kerf, A 1, .c (Cu.LI p.lens), .vec 4 j, .c (Cu.LI zs), .c (Cu.LI zs)])), (4, some (.vec 23 1 (((p.lens.take j).map (rowL p s u)).flatMap Cu.rowC)))]) 5 0 ?_ (by refine weak_mk rfl ?_ ?_ <;> repeat (first | exact envW_nil | exact heapW_nil | refine envW_cons rfl rfl ?_ | refine heapW_cons rfl rfl rfl ?_)) rfl ?_
  · exact Nat.zero_le _
  rintro j hI
  try dsimp only at hI
  try dsimp only
  have hrl : ((p.lens.take j).map (rowL p s u)).length = j := by simp; omega
  by_cases hjl : j < p.lens.length
  · have hn := pk.one j hjl
    have hrs := rows_succ p s u j hjl
    have hgn2 : p.lens[j]? = some p.lens[j] := List.getElem?_eq_getElem hjl
    repeat' (first
 | ((with_reducible apply aw_seq))
 | ((with_reducible apply aw_region))
 | ((with_reducible apply aw_block))
 | ((with_reducible apply thn_normal))
 | ((with_reducible apply aw_skip))
 | ((with_reducible apply ao_nil))
 | ((with_reducible apply r_move); exact rfl; exact rfl)
 | ((with_reducible apply r_assign); exact rfl; exact rfl)
 | ((with_reducible apply r_field_p); exact rfl; exact rfl)
 | ((with_reducible apply r_load_p); exact rfl; exact rfl; exact rfl; exact rfl)
 | ((with_reducible apply r_lss); exact rfl; exact rfl; exact rfl)
 | ((with_reducible apply r_len_f); exact rfl; exact inferInstance; exact rfl)
 | (((with_reducible apply aw_cond); exact rfl) <;> intro hg <;> (first | (exact absurd hg (by decide)) | ((try simp only [decide_eq_true_eq, decide_eq_false_iff_not, Bool.not_eq_true', Bool.not_eq_false', Bool.not_true, Bool.not_false, Bool.not_not, Int.not_lt, Int.not_le, Nat.not_lt, Nat.not_le, gt_iff_lt, ge_iff_le, List.cons.injEq, and_true] at hg); first | (exact absurd trivial hg) | (exfalso; omega) | (have hT : True := hg; clear hT hg) | skip)))
 )
    refine aw_nilvec 12 3 1 rfl rfl ?_
    refine aw_loopG (G := Nat) (fun (k : Nat) => (k = 0 ∨ (k : Int) + p.lens[j] ≤ u + 1)) (fun (k : Nat) => (u + 1 - k).toNat) (fun (k : Nat) => [(2, .ptr 0 0), (3, .ptr 1 0), (4, .ptr 2 0), (9, A u), (10, .ptr 3 0), (11, A j), (12, .vec 5 k), (13, A k)]) (fun (k : Nat) => [(0, some (.cells 25 (planA p))), (1, some (.cells 29 [.c (LL s.1), .c (LD s.2)])), (2, some (.cells 36 nil7)), (3, some (.cells 36 [A u, A p.kerf, A 1, .c (Cu.LI p.lens), .vec 4 j, .c (Cu.LI zs), .c (Cu.LI zs)])), (4, some (.vec 23 1 (((p.lens.take j).map (rowL p s u)).flatMap Cu.rowC))), (5, some (.vec 3 1 ((rowN p s p.lens[j] k).flatMap Cu.inC)))]) 6 0 ?_ (by refine weak_mk rfl ?_ ?_ <;> repeat (first | exact envW_nil | exact heapW_nil | refine envW_cons rfl rfl ?_ | refine heapW_cons rfl rfl rfl ?_)) rfl ?_
    · exact .inl rfl
    rintro k hI
    try dsimp only at hI
    try dsimp only
    by_cases hk : (k : Int) + p.lens[j] ≤ u
    · have cp := rpart_con (gl := gl) p s k p.lens[j] (by omega) (by omega) hu hl h2
      obtain ⟨g1, g2⟩ := part_len s ((k : Int) * p.unit, ((k : Int) + p.lens[j]) * p.unit) h2
      have cpr := rprice_con (gl := gl) p.classes (partS s ((k : Int) * p.unit, ((k : Int) + p.lens[j]) * p.unit)).1 (partS s ((k : Int) * p.unit, ((k : Int) + p.lens[j]) * p.unit)).2 hK g1 g2
      have hgn := rowN_succ p s p.lens[j] k
      unfold gainS at hgn
      generalize priceS p.classes (partS s ((k : Int) * p.unit, ((k : Int) + p.lens[j]) * p.unit)).1 (partS s ((k : Int) * p.unit, ((k : Int) + p.lens[j]) * p.unit)).2 = g at cpr hgn
      generalize partS s ((k : Int) * p.unit, ((k : Int) + p.lens[j]) * p.unit) = pt at cp cpr
      repeat' (first
 | (refine aw_drawA 9 ?_ rfl aop_alloc rfl ?_; (kernel_rfl); (simp only [List.take_succ_cons, List.take_zero, List.drop_succ_cons, List.drop_zero]))
 | ((with_reducible apply ds_nilA); exact rfl)
 | ((with_reducible apply r_call); exact rfl; exact rfl; (first | exact cp | exact cpr); exact rfl; exact rfl)
 | ((with_reducible apply (r_push (enc := Cu.inC) (x0 := g))); exact rfl; exact rfl; exact inferInstance; exact (rowN_len _ _ _ _); exact rfl; exact rfl; exact rfl; exact (by omega); exact (by omega); exact rfl)
 | ((with_reducible apply aw_seq))
 | ((with_reducible apply aw_region))
 | ((with_reducible apply aw_block))
 | ((with_reducible apply thn_normal))
 | ((with_reducible apply inb_normal))
 | ((with_reducible apply aw_skip))
 | ((with_reducible apply ao_nil))
 | ((with_reducible apply r_move); exact rfl; exact rfl)
 | ((with_reducible apply r_assign); exact rfl; exact rfl)
 | ((with_reducible apply r_field_p); exact rfl; exact rfl)
 | ((with_reducible apply r_load_p); exact rfl; exact rfl; exact rfl; exact rfl)
 | ((with_reducible apply r_load_pa); exact rfl; exact rfl; exact rfl; exact rfl; exact rfl)
 | ((with_reducible apply r_leq); exact rfl; exact rfl; exact rfl)
 | ((with_reducible apply r_add); exact rfl; exact rfl; exact (by first | assumption | (unfold fits; omega)); exact rfl)
 | ((with_reducible apply r_index_f); exact rfl; exact inferInstance; exact rfl; exact rfl; (first | assumption | omega); exact rfl)
 | ((with_reducible apply r_load_f0); exact rfl; exact inferInstance; exact List.getElem?_eq_getElem (by first | assumption | omega); exact rfl; exact rfl)
 | ((with_reducible apply r_store_pa); exact rfl; exact rfl; exact rfl; exact rfl; exact rfl; exact rfl)
 | (((with_reducible apply aw_cond); exact rfl) <;> intro hg <;> (first | (exact absurd hg (by decide)) | ((try simp only [decide_eq_true_eq, decide_eq_false_iff_not, Bool.not_eq_true', Bool.not_eq_false', Bool.not_true, Bool.not_false, Bool.not_not, Int.not_lt, Int.not_le, Nat.not_lt, Nat.not_le, gt_iff_lt, ge_iff_le, List.cons.injEq, and_true] at hg); first | (exact absurd trivial hg) | (exfalso; omega) | (have hT : True := hg; clear hT hg) | skip)))
 | ((with_reducible apply r_lit); exact rfl; exact rfl; exact rfl; exact rfl; exact rfl; exact rfl; exact rfl)
 )
      rw [← hgn]
      refine ⟨k + 1, ?_, ?_, by refine weak_mk rfl ?_ ?_ <;> repeat (first | exact envW_nil | exact heapW_nil | refine envW_cons rfl rfl ?_ | refine heapW_cons rfl rfl rfl ?_)⟩
      · show (u + 1 - ((k + 1 : Nat) : Int)).toNat < (u + 1 - k).toNat; omega
      · exact .inr (by show ((k + 1 : Nat) : Int) + p.lens[j] ≤ u + 1; omega)
    · have hrow : rowN p s p.lens[j] k = rowL p s u p.lens[j] := by unfold rowL; congr 1; omega
      repeat' (first
 | ((with_reducible apply (r_freeze 95)); exact rfl; exact rfl; exact (by rw [flat_len EncL.len, rowN_len]))
 | ((with_reducible apply r_litq); exact rfl; exact rfl; exact rfl; exact rfl; exact rfl; exact rfl; exact rfl)
 | ((with_reducible apply (r_appendl (enc := Cu.rowC) (l2 := [rowN p s p.lens[j] k]))); exact rfl; exact rfl; exact inferInstance; exact hrl; exact rfl; exact (by show j + 1 < _; omega); exact (by show (j + 1) * _ ≤ _; omega); exact rfl)
 | ((with_reducible apply aw_seq))
 | ((with_reducible apply aw_region))
 | ((with_reducible apply thn_normal))
 | ((with_reducible apply thn_exit))
 | ((with_reducible apply inb_normal))
 | ((with_reducible apply inb_exit))
 | ((with_reducible apply aw_exit))
 | ((with_reducible apply ao_nil))
 | ((with_reducible apply r_move); exact rfl; exact rfl)
 | ((with_reducible apply r_assign); exact rfl; exact rfl)
 | ((with_reducible apply r_field_p); exact rfl; exact rfl)
 | ((with_reducible apply r_load_p); exact rfl; exact rfl; exact rfl; exact rfl)
 | ((with_reducible apply r_leq); exact rfl; exact rfl; exact rfl)
 | ((with_reducible apply r_add); exact rfl; exact rfl; exact (by first | assumption | (unfold fits; omega)); exact rfl)
 | ((with_reducible apply r_index_f); exact rfl; exact inferInstance; exact rfl; exact rfl; (first | assumption | omega); exact rfl)
 | ((with_reducible apply r_load_f0); exact rfl; exact inferInstance; exact List.getElem?_eq_getElem (by first | assumption | omega); exact rfl; exact rfl)
 | ((with_reducible apply r_store_p); exact rfl; exact rfl; exact rfl; exact rfl; exact rfl; exact rfl)
 | (((with_reducible apply aw_cond); exact rfl) <;> intro hg <;> (first | (exact absurd hg (by decide)) | ((try simp only [decide_eq_true_eq, decide_eq_false_iff_not, Bool.not_eq_true', Bool.not_eq_false', Bool.not_true, Bool.not_false, Bool.not_not, Int.not_lt, Int.not_le, Nat.not_lt, Nat.not_le, gt_iff_lt, ge_iff_le, List.cons.injEq, and_true] at hg); first | (exact absurd trivial hg) | (exfalso; omega) | (have hT : True := hg; clear hT hg) | skip)))
 )
      rw [hrow, ← hrs]
      refine ⟨j + 1, ?_, ?_, by refine weak_mk rfl ?_ ?_ <;> repeat (first | exact envW_nil | exact heapW_nil | refine envW_cons rfl rfl ?_ | refine heapW_cons rfl rfl rfl ?_)⟩
      · show _ - (j + 1) < _ - j; omega
      · show j + 1 ≤ _; omega
  · obtain rfl : j = p.lens.length := by omega
    rw [List.take_length] at hrl ⊢
    rw [ezs]
    repeat' (first
 | ((with_reducible apply aw_seq))
 | ((with_reducible apply aw_region))
 | ((with_reducible apply thn_normal))
 | ((with_reducible apply thn_exit))
 | ((with_reducible apply inb_exit))
 | ((with_reducible apply aw_exit))
 | ((with_reducible apply aw_ret))
 | ((with_reducible apply ao_nil))
 | ((with_reducible apply r_move); exact rfl; exact rfl)
 | ((with_reducible apply r_assign); exact rfl; exact rfl)
 | ((with_reducible apply r_field_p); exact rfl; exact rfl)
 | ((with_reducible apply r_load_p); exact rfl; exact rfl; exact rfl; exact rfl)
 | ((with_reducible apply r_load_pa); exact rfl; exact rfl; exact rfl; exact rfl; exact rfl)
 | ((with_reducible apply r_lss); exact rfl; exact rfl; exact rfl)
 | ((with_reducible apply r_len_f); exact rfl; exact inferInstance; exact rfl)
 | ((with_reducible apply r_store_pa); exact rfl; exact rfl; exact rfl; exact rfl; exact rfl; exact rfl)
 | (((with_reducible apply aw_cond); exact rfl) <;> intro hg <;> (first | (exact absurd hg (by decide)) | ((try simp only [decide_eq_true_eq, decide_eq_false_iff_not, Bool.not_eq_true', Bool.not_eq_false', Bool.not_true, Bool.not_false, Bool.not_not, Int.not_lt, Int.not_le, Nat.not_lt, Nat.not_le, gt_iff_lt, ge_iff_le, List.cons.injEq, and_true] at hg); first | (exact absurd trivial hg) | (exfalso; omega) | (have hT : True := hg; clear hT hg) | skip)))
 )
    exact ret2 (.cons (.cell_a inferInstance rfl rfl rfl rfl (cl_cons cl_c (cl_cons cl_c (cl_cons cl_c (cl_cons cl_c (cl_cons (cl_vec rfl ((flat_len EncL.len _).trans (congrArg (· * 1) hrl))) (cl_cons cl_c (cl_cons cl_c cl_nil)))))))) (.cons (.tmp rfl cl_c) .nil))
end Go.Proofs.YtkhljpbkebnnmaaGreatDoor.Bu
/- Walks of bucking: Logs, sum. -/
namespace Go.Proofs.YtkhljpbkebnnmaaGreatDoor.Bu
set_option linter.unusedVariables false
set_option linter.unusedSimpArgs false
open Go.RowKit Go.Proofs.YtkhljpbkebnnmaaGreatDoor.Ev Go.Proofs.YtkhljpbkebnnmaaGreatDoor.Ge
variable {gl : List (Nat × List CV)}
noncomputable def logOf (p : Plan) (s : Lg) (x : Cu.Piece) : Lg := partS s (x.2 * p.unit, (x.2 + p.lens.getD x.1.toNat 0) * p.unit)
noncomputable def logsS (p : Plan) (s : Lg) (l : List Cu.Piece) : List Lg × Int :=
  if (lineS p s).2 ≠ 0 then ([], (lineS p s).2) else if (Cu.cutsS (lineS p s).1 l).1 ≠ 0 then ([], (Cu.cutsS (lineS p s).1 l).1) else (l.map (logOf p s), 0)
abbrev lgsC (r : List Lg × Int) : CV := .tup [LStem r.1, I r.2]
theorem lg_err {p : Plan} {s : Lg} {l : List Cu.Piece} {e : Int} (he : ¬ e = 0) (h : lineS p s = (Cu.zeroL, e)) : logsS p s l = ([], e) := by unfold logsS; rw [h, if_pos he]
theorem lg_cut {p : Plan} {s : Lg} {l : List Cu.Piece} {u e : Int} {D C : List Span} (h : lineS p s = (lineOf p s u, 0)) (hc : Cu.cutsS (lineOf p s u) l = (e, D, C)) (he : ¬ e = 0) : logsS p s l = ([], e) := by
  unfold logsS; rw [h, if_neg (fun hh => hh rfl), hc, if_pos he]
theorem lg_ok {p : Plan} {s : Lg} {l : List Cu.Piece} {u : Int} {D C : List Span} (h : lineS p s = (lineOf p s u, 0)) (hc : Cu.cutsS (lineOf p s u) l = (0, D, C)) : logsS p s l = (l.map (logOf p s), 0) := by
  unfold logsS; rw [h, if_neg (fun hh => hh rfl), hc, if_neg (fun hh => hh rfl)]
theorem piece_in {p : Plan} {s : Lg} {u : Int} (ok : LnOk p s u) {l : List Cu.Piece} {D C : List Span} (hc : Cu.cutsS (lineOf p s u) l = (0, D, C)) : ∀ j (h : j < l.length), 0 ≤ l[j].1 ∧ ∃ hk : l[j].1.toNat < p.lens.length, p.lens.getD l[j].1.toNat 0 = p.lens[l[j].1.toNat] ∧ 0 ≤ l[j].2 ∧ l[j].2 + p.lens[l[j].1.toNat] ≤ u := by
  intro j hj
  obtain ⟨h1, h2⟩ := Cu.cutsS_ok hc
  have v := Cu.valid_of h1
  obtain ⟨_, _, _, h3⟩ := Cu.cuts_ok v h2
  obtain ⟨e, he⟩ := h3 _ (List.getElem_mem hj)
  obtain ⟨q1, q2, q3, q4, _⟩ := Cu.perm0 (l := lineOf p s u) (e := e) (s := l[j].1) (p := l[j].2) he
  have q2' : l[j].1 < (p.lens.length : Int) := q2
  have hk : l[j].1.toNat < p.lens.length := by omega
  have hg : p.lens.getD l[j].1.toNat 0 = p.lens[l[j].1.toNat] := by simp [List.getD_eq_getElem?_getD, hk]
  have q4' : l[j].2 ≤ u - p.lens.getD l[j].1.toNat 0 := q4
  rw [hg] at q4'
  exact ⟨q1, hk, hg, q3, by omega⟩
set_option maxHeartbeats 16000000 in
theorem blogs_con (p : Plan) (s : Lg) (l : List Cu.Piece) (hK : p.classes.length ≤ maxLen) (hl : s.1.length ≤ maxLen) (hd : s.2.length ≤ maxLen) (hp : l.length ≤ 100000) : Con Tryz.prog gl 18 [planV p, lgV s, Cu.LP l] (lgsC (logsS p s l)) := by
  have c0 := bline_con (gl := gl) p s hK hl hd
  refine con_of Tryz.func18 rfl (by kernel_rfl) rfl ?_
  simp only [Tryz.ntmps18, Tryz.results18, argEnv, ofC, of1, List.map]
  rcases line_cases p s with ⟨e, he, h⟩ | ⟨u, ok, h⟩
  · rw [lg_err he h]
    rw [h] at c0
    change Con _ _ _ _ (.tup [.agg [I 0, I 0, I 0, .lst 1 [], .lst 1 [], .lst 1 [], .lst 1 []], I e]) at c0
    repeat' (first
 | ((with_reducible apply r_call); exact rfl; exact rfl; exact c0; exact rfl; exact rfl)
 | ((with_reducible apply aw_seq))
 | ((with_reducible apply aw_region))
 | ((with_reducible apply thn_normal))
 | ((with_reducible apply thn_ret))
 | ((with_reducible apply aw_ret))
 | ((with_reducible apply ao_nil))
 | ((with_reducible apply r_move); exact rfl; exact rfl)
 | ((with_reducible apply r_assign); exact rfl; exact rfl)
 | ((with_reducible apply r_load_pa); exact rfl; exact rfl; exact rfl; exact rfl; exact rfl)
 | ((with_reducible apply r_neq); exact rfl; exact rfl; exact rfl)
 | ((with_reducible apply r_box_a); exact rfl; exact rfl)
 | ((with_reducible apply r_store_pa); exact rfl; exact rfl; exact rfl; exact rfl; exact rfl; exact rfl)
 | ((with_reducible apply r_extract); exact rfl; exact rfl; exact rfl)
 | ((with_reducible apply r_alloc); exact rfl)
 | (((with_reducible apply aw_cond); exact rfl) <;> intro hg <;> (first | (exact absurd hg (by decide)) | ((try simp only [decide_eq_true_eq, decide_eq_false_iff_not, Bool.not_eq_true', Bool.not_eq_false', Bool.not_true, Bool.not_false, Bool.not_not, Int.not_lt, Int.not_le, Nat.not_lt, Nat.not_le, gt_iff_lt, ge_iff_le, List.cons.injEq, and_true] at hg); first | (exact absurd trivial hg) | (exfalso; omega) | (have hT : True := hg; clear hT hg) | skip)))
 )
    exact ret2 (.cons (.tmp rfl cl_none) (.cons (.tmp rfl cl_c) .nil))
  rw [h] at c0
  have c1 := Cu.cuts_con (gl := gl) (lineOf p s u) l hp
  rcases hc : Cu.cutsS (lineOf p s u) l with ⟨e, D, C⟩
  rw [hc] at c1
  change Con _ _ _ _ (.tup [Cu.LS D, Cu.LS C, I e]) at c1
  change Con _ _ _ _ (.tup [.agg (Cu.lineL (lineOf p s u)), I 0]) at c0
  by_cases he : e = 0
  rotate_left
  · rw [lg_cut h hc he]
    repeat' (first
 | ((with_reducible apply r_call); exact rfl; exact rfl; (first | exact c0 | exact c1); exact rfl; exact rfl)
 | ((with_reducible apply aw_seq))
 | ((with_reducible apply aw_region))
 | ((with_reducible apply thn_normal))
 | ((with_reducible apply thn_ret))
 | ((with_reducible apply aw_skip))
 | ((with_reducible apply aw_ret))
 | ((with_reducible apply ao_nil))
 | ((with_reducible apply r_move); exact rfl; exact rfl)
 | ((with_reducible apply r_assign); exact rfl; exact rfl)
 | ((with_reducible apply r_load_pa); exact rfl; exact rfl; exact rfl; exact rfl; exact rfl)
 | ((with_reducible apply r_neq); exact rfl; exact rfl; exact rfl)
 | ((with_reducible apply r_box_a); exact rfl; exact rfl)
 | ((with_reducible apply r_store_pa); exact rfl; exact rfl; exact rfl; exact rfl; exact rfl; exact rfl)
 | ((with_reducible apply r_extract); exact rfl; exact rfl; exact rfl)
 | ((with_reducible apply r_alloc); exact rfl)
 | (((with_reducible apply aw_cond); exact rfl) <;> intro hg <;> (first | (exact absurd hg (by decide)) | ((try simp only [decide_eq_true_eq, decide_eq_false_iff_not, Bool.not_eq_true', Bool.not_eq_false', Bool.not_true, Bool.not_false, Bool.not_not, Int.not_lt, Int.not_le, Nat.not_lt, Nat.not_le, gt_iff_lt, ge_iff_le, List.cons.injEq, and_true] at hg); first | (exact absurd trivial hg) | (exfalso; omega) | (have hT : True := hg; clear hT hg) | skip)))
 )
    exact ret2 (.cons (.tmp rfl cl_none) (.cons (.tmp rfl cl_c) .nil))
  subst he
  rw [lg_ok h hc]
  have hin := piece_in ok hc
  have hu := ok.pk.unit
  have hone := ok.pk.one
  have huu := ok.ub
  repeat' (first
 | ((with_reducible apply r_call); exact rfl; exact rfl; (first | exact c0 | exact c1); exact rfl; exact rfl)
 | ((with_reducible apply aw_seq))
 | ((with_reducible apply aw_region))
 | ((with_reducible apply aw_block))
 | ((with_reducible apply thn_normal))
 | ((with_reducible apply aw_skip))
 | ((with_reducible apply ao_nil))
 | ((with_reducible apply r_move); exact rfl; exact rfl)
 | ((with_reducible apply r_assign); exact rfl; exact rfl)
 | ((with_reducible apply r_load_pa); exact rfl; exact rfl; exact rfl; exact rfl; exact rfl)
 | ((with_reducible apply r_neq); exact rfl; exact rfl; exact rfl)
 | ((with_reducible apply r_box_a); exact rfl; exact rfl)
 | ((with_reducible apply r_len_f); exact rfl; exact inferInstance; exact rfl)
 | ((with_reducible apply r_store_pa); exact rfl; exact rfl; exact rfl; exact rfl; exact rfl; exact rfl)
 | ((with_reducible apply r_extract); exact rfl; exact rfl; exact rfl)
 | ((with_reducible apply r_alloc); exact rfl)
 | (((with_reducible apply aw_cond); exact rfl) <;> intro hg <;> (first | (exact absurd hg (by decide)) | ((try simp only [decide_eq_true_eq, decide_eq_false_iff_not, Bool.not_eq_true', Bool.not_eq_false', Bool.not_true, Bool.not_false, Bool.not_not, Int.not_lt, Int.not_le, Nat.not_lt, Nat.not_le, gt_iff_lt, ge_iff_le, List.cons.injEq, and_true] at hg); first | (exact absurd trivial hg) | (exfalso; omega) | (have hT : True := hg; clear hT hg) | skip)))
 )
  refine aw_nilvec 13 42 2 rfl rfl ?_
  refine aw_loopG (G := Nat) (fun (j : Nat) => j ≤ l.length) (fun (j : Nat) => l.length - j) (fun (j : Nat) => [(3, .ptr 0 0), (4, .ptr 1 0), (13, .vec 3 j), (35, .c (Cu.LP l)), (36, A l.length), (37, A j)]) (fun (j : Nat) => [(0, some (.cells 40 (planA p))), (1, some (.cells 42 [.c (LL s.1), .c (LD s.2)])), (3, some (.vec 42 2 (((l.take j).map (logOf p s)).flatMap stC)))]) 4 0 ?_ (by refine weak_mk rfl ?_ ?_ <;> repeat (first | exact envW_nil | exact heapW_nil | refine envW_cons rfl rfl ?_ | refine heapW_cons rfl rfl rfl ?_)) rfl ?_
  · exact Nat.zero_le _
  rintro j hI
  try dsimp only at hI
  try dsimp only
  have hml : ((l.take j).map (logOf p s)).length = j := by simp; omega
  by_cases hjl : j < l.length
  · obtain ⟨i1, i2, i3, i4, i5⟩ := hin j hjl
    have i6 := hone _ i2
    have cp := part_con (gl := gl) p s l[j].2 p.lens[l[j].1.toNat] (by omega) (by omega) hu hl ok.dfs
    have hst : (l.take (j + 1)).map (logOf p s) = (l.take j).map (logOf p s) ++ [partS s (l[j].2 * p.unit, (l[j].2 + p.lens[l[j].1.toNat]) * p.unit)] := by
      rw [List.take_succ_eq_append_getElem hjl, List.map_append, List.map_singleton]
      unfold logOf; rw [i3]
    generalize partS s (l[j].2 * p.unit, (l[j].2 + p.lens[l[j].1.toNat]) * p.unit) = g at cp hst
    repeat' (first
 | (refine aw_drawt 13 ?_ ?_; (kernel_rfl); (simp only [List.take_succ_cons, List.take_zero, List.drop_succ_cons, List.drop_zero]))
 | ((with_reducible apply r_call); exact rfl; exact rfl; exact cp; exact rfl; exact rfl)
 | ((with_reducible apply r_litq); exact rfl; exact rfl; exact rfl; exact rfl; exact rfl; exact rfl; exact rfl)
 | ((with_reducible apply (r_appendl (enc := stC) (l2 := [g]))); exact rfl; exact rfl; exact inferInstance; exact hml; exact rfl; exact (by show j + 1 < _; omega); exact (by show (j + 1) * _ ≤ _; omega); exact rfl)
 | ((with_reducible apply aw_seq))
 | ((with_reducible apply aw_region))
 | ((with_reducible apply aw_block))
 | ((with_reducible apply thn_normal))
 | ((with_reducible apply inb_normal))
 | ((with_reducible apply aw_skip))
 | ((with_reducible apply ao_nil))
 | ((with_reducible apply r_move); exact rfl; exact rfl)
 | ((with_reducible apply r_assign); exact rfl; exact rfl)
 | ((with_reducible apply r_field_p); exact rfl; exact rfl)
 | ((with_reducible apply r_load_p); exact rfl; exact rfl; exact rfl; exact rfl)
 | ((with_reducible apply r_load_pa); exact rfl; exact rfl; exact rfl; exact rfl; exact rfl)
 | ((with_reducible apply r_lss); exact rfl; exact rfl; exact rfl)
 | ((with_reducible apply r_add); exact rfl; exact rfl; exact (by first | assumption | (unfold fits; omega)); exact rfl)
 | ((with_reducible apply r_index_f); exact rfl; exact inferInstance; exact rfl; exact rfl; (first | assumption | omega); exact rfl)
 | ((with_reducible apply r_index_f); exact rfl; exact inferInstance; exact rfl; exact (Int.toNat_of_nonneg (by omega)).symm; (first | assumption | omega); exact rfl)
 | ((with_reducible apply r_load_f0); exact rfl; exact inferInstance; exact List.getElem?_eq_getElem (by first | assumption | omega); exact rfl; exact rfl)
 | ((with_reducible apply r_load_fa0); exact rfl; exact inferInstance; exact List.getElem?_eq_getElem (by first | assumption | omega); exact rfl; exact rfl; exact rfl)
 | ((with_reducible apply r_store_pa); exact rfl; exact rfl; exact rfl; exact rfl; exact rfl; exact rfl)
 | ((with_reducible apply r_alloc); exact rfl)
 | (((with_reducible apply aw_cond); exact rfl) <;> intro hg <;> (first | (exact absurd hg (by decide)) | ((try simp only [decide_eq_true_eq, decide_eq_false_iff_not, Bool.not_eq_true', Bool.not_eq_false', Bool.not_true, Bool.not_false, Bool.not_not, Int.not_lt, Int.not_le, Nat.not_lt, Nat.not_le, gt_iff_lt, ge_iff_le, List.cons.injEq, and_true] at hg); first | (exact absurd trivial hg) | (exfalso; omega) | (have hT : True := hg; clear hT hg) | skip)))
 | ((with_reducible apply ds_nil))
 )
    rw [← hst]
    refine ⟨j + 1, ?_, ?_, by refine weak_mk rfl ?_ ?_ <;> repeat (first | exact envW_nil | exact heapW_nil | refine envW_cons rfl rfl ?_ | refine heapW_cons rfl rfl rfl ?_)⟩
    · show _ - (j + 1) < _ - j; omega
    · show j + 1 ≤ _; omega
  · obtain rfl : j = l.length := by omega
    rw [List.take_length] at hml ⊢
    repeat' (first
 | ((with_reducible apply aw_seq))
 | ((with_reducible apply aw_region))
 | ((with_reducible apply thn_normal))
 | ((with_reducible apply thn_exit))
 | ((with_reducible apply inb_exit))
 | ((with_reducible apply aw_exit))
 | ((with_reducible apply aw_ret))
 | ((with_reducible apply ao_nil))
 | ((with_reducible apply r_move); exact rfl; exact rfl)
 | ((with_reducible apply r_assign); exact rfl; exact rfl)
 | ((with_reducible apply r_lss); exact rfl; exact rfl; exact rfl)
 | (((with_reducible apply aw_cond); exact rfl) <;> intro hg <;> (first | (exact absurd hg (by decide)) | ((try simp only [decide_eq_true_eq, decide_eq_false_iff_not, Bool.not_eq_true', Bool.not_eq_false', Bool.not_true, Bool.not_false, Bool.not_not, Int.not_lt, Int.not_le, Nat.not_lt, Nat.not_le, gt_iff_lt, ge_iff_le, List.cons.injEq, and_true] at hg); first | (exact absurd trivial hg) | (exfalso; omega) | (have hT : True := hg; clear hT hg) | skip)))
 )
    exact ret2 (.cons (.tmp rfl (cl_vec rfl (by rw [flat_len EncL.len, hml]))) (.cons (.tmp rfl cl_c) .nil))
noncomputable def sumP (K : List Kl) (l : List Lg) : Int := (l.map (fun x => priceS K x.1 x.2)).sum
end Go.Proofs.YtkhljpbkebnnmaaGreatDoor.Bu
