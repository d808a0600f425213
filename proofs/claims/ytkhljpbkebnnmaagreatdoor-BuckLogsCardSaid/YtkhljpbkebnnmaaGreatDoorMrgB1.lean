/- BB BR BC: texts laid together. -/
import Derived.Test.YtkhljpbkebnnmaaGreatDoorMrgB0
import Derived.Test.YtkhljpbkebnnmaaGreatDoorMrgC2
import Derived.Test.YtkhljpbkebnnmaaGreatDoorMrgE5
import Derived.Test.YtkhljpbkebnnmaaGreatDoorMrgC3
set_option maxRecDepth 100000
/- Walks of bucking: Line. -/
namespace Go.Proofs.YtkhljpbkebnnmaaGreatDoor.Bu
set_option linter.unusedVariables false
set_option linter.unusedSimpArgs false
open Go.RowKit Go.Proofs.YtkhljpbkebnnmaaGreatDoor.Ev Go.Proofs.YtkhljpbkebnnmaaGreatDoor.Ge
variable {gl : List (Nat × List CV)}
noncomputable def gainS (p : Plan) (s : Lg) (q n : Int) : Int := priceS p.classes (partS s (q * p.unit, (q + n) * p.unit)).1 (partS s (q * p.unit, (q + n) * p.unit)).2
noncomputable def rowN (p : Plan) (s : Lg) (n : Int) (k : Nat) : List Int := (List.range k).map (fun q : Nat => gainS p s q n)
noncomputable def rowL (p : Plan) (s : Lg) (u n : Int) : List Int := rowN p s n (max 0 (u - n + 1)).toNat
noncomputable def lineOf (p : Plan) (s : Lg) (u : Int) : Cu.Line := ⟨u, p.kerf, 1, p.lens, p.lens.map (rowL p s u), List.replicate u.toNat 0, List.replicate u.toNat 0⟩
noncomputable def lineS (p : Plan) (s : Lg) : Cu.Line × Int :=
  open Classical in
  if planChk p ≠ 0 then (Cu.zeroL, planChk p) else if solChk s.1 ≠ 0 then (Cu.zeroL, solChk s.1) else if defChk s.2 ≠ 0 then (Cu.zeroL, defChk s.2) else if 2000 < lengthS s.1 / p.unit then (Cu.zeroL, 9) else (lineOf p s (lengthS s.1 / p.unit), 0)
abbrev lrC (r : Cu.Line × Int) : CV := .tup [Cu.lineC r.1, I r.2]
theorem ls_plan {p : Plan} {s : Lg} (h : ¬ planChk p = 0) : lineS p s = (Cu.zeroL, planChk p) := by unfold lineS; rw [if_pos h]
theorem ls_sol {p : Plan} {s : Lg} (h : planChk p = 0) (h2 : ¬ solChk s.1 = 0) : lineS p s = (Cu.zeroL, solChk s.1) := by unfold lineS; rw [if_neg (fun hh => hh h), if_pos h2]
theorem ls_def {p : Plan} {s : Lg} (h : planChk p = 0) (h2 : solChk s.1 = 0) (h3 : ¬ defChk s.2 = 0) : lineS p s = (Cu.zeroL, defChk s.2) := by unfold lineS; rw [if_neg (fun hh => hh h), if_neg (fun hh => hh h2), if_pos h3]
theorem ls_long {p : Plan} {s : Lg} (h : planChk p = 0) (h2 : solChk s.1 = 0) (h3 : defChk s.2 = 0) (h4 : 2000 < lengthS s.1 / p.unit) : lineS p s = (Cu.zeroL, 9) := by unfold lineS; rw [if_neg (fun hh => hh h), if_neg (fun hh => hh h2), if_neg (fun hh => hh h3), if_pos h4]
theorem ls_ok {p : Plan} {s : Lg} (h : planChk p = 0) (h2 : solChk s.1 = 0) (h3 : defChk s.2 = 0) (h4 : ¬ 2000 < lengthS s.1 / p.unit) : lineS p s = (lineOf p s (lengthS s.1 / p.unit), 0) := by unfold lineS; rw [if_neg (fun hh => hh h), if_neg (fun hh => hh h2), if_neg (fun hh => hh h3), if_neg h4]
theorem length_bd (l : List Slc) : 0 ≤ lengthS l ∧ lengthS l ≤ 20000 := by
  have := pos_bd (valL_V l) (Nat.le_refl _)
  unfold lengthS; omega
theorem rowN_len (p : Plan) (s : Lg) (n : Int) (k : Nat) : (rowN p s n k).length = k := by simp [rowN]
theorem rowN_succ (p : Plan) (s : Lg) (n : Int) (k : Nat) : rowN p s n (k + 1) = rowN p s n k ++ [gainS p s k n] := by simp [rowN, List.range_succ]
theorem part_len (s : Lg) (Z : Span) (hd : defChk s.2 = 0) : (partS s Z).1.length ≤ maxLen ∧ (partS s Z).2.length ≤ maxLen := by
  have h1 := cutS_len s.1 Z
  have h2 := defCut_len s.2 Z
  have h3 := (def_z hd).1
  unfold partS maxLen
  dsimp only
  omega
abbrev nil7 : List AV := [A 0, A 0, A 0, .c (.v (.slice none 0 0)), .c (.v (.slice none 0 0)), .c (.v (.slice none 0 0)), .c (.v (.slice none 0 0))]
theorem rows_succ (p : Plan) (s : Lg) (u : Int) (j : Nat) (hj : j < p.lens.length) : (p.lens.take (j + 1)).map (rowL p s u) = (p.lens.take j).map (rowL p s u) ++ [rowL p s u p.lens[j]] := by
  rw [List.take_succ_eq_append_getElem hj, List.map_append]; rfl
set_option maxHeartbeats 16000000 in
theorem bline_con (p : Plan) (s : Lg) (hK : p.classes.length ≤ maxLen) (hl : s.1.length ≤ maxLen) (hd : s.2.length ≤ maxLen) : Con Tryz.prog gl 8 [planV p, lgV s] (lrC (lineS p s)) := by
  have c0 := pcheck_con (gl := gl) p hK
  have c1 := scheck_con (gl := gl) s.1 hl
  have c2 := dcheck_con (gl := gl) s.2 hd
  have c3 := slength_con (gl := gl) s.1 hl
  refine con_of Tryz.func8 rfl (by kernel_rfl) rfl ?_
  simp only [Tryz.ntmps8, Tryz.results8, argEnv, ofC, of1, List.map]
  by_cases h0 : planChk p = 0
  rotate_left
  · rw [ls_plan h0]
    repeat' (first
 | ((with_reducible apply r_call); exact rfl; exact rfl; exact c0; exact rfl; exact rfl)
 | ((with_reducible apply aw_seq))
 | ((with_reducible apply aw_region))
 | ((with_reducible apply thn_normal))
 | ((with_reducible apply thn_ret))
 | ((with_reducible apply aw_ret))
 | ((with_reducible apply ao_nil))
 | ((with_reducible apply r_move); exact rfl; exact rfl)
 | ((with_reducible apply r_assign); exact rfl; exact rfl)
 | ((with_reducible apply r_load_pa); exact rfl; exact rfl; exact rfl; exact rfl; exact rfl)
 | ((with_reducible apply r_neq); exact rfl; exact rfl; exact rfl)
 | ((with_reducible apply r_box_a); exact rfl; exact rfl)
 | ((with_reducible apply r_store_pa); exact rfl; exact rfl; exact rfl; exact rfl; exact rfl; exact rfl)
 | ((with_reducible apply r_build); exact rfl; exact rfl; exact rfl)
 | ((with_reducible apply r_alloc); exact rfl)
 | (((with_reducible apply aw_cond); exact rfl) <;> intro hg <;> (first | (exact absurd hg (by decide)) | ((try simp only [decide_eq_true_eq, decide_eq_false_iff_not, Bool.not_eq_true', Bool.not_eq_false', Bool.not_true, Bool.not_false, Bool.not_not, Int.not_lt, Int.not_le, Nat.not_lt, Nat.not_le, gt_iff_lt, ge_iff_le, List.cons.injEq, and_true] at hg); first | (exact absurd trivial hg) | (exfalso; omega) | (have hT : True := hg; clear hT hg) | skip)))
 )
    exact ret2 (.cons (.cell_a inferInstance rfl rfl rfl rfl (cl_cons cl_c (cl_cons cl_c (cl_cons cl_c (cl_cons cl_none (cl_cons cl_none (cl_cons cl_none (cl_cons cl_none cl_nil)))))))) (.cons (.tmp rfl cl_c) .nil))
  by_cases h1 : solChk s.1 = 0
  rotate_left
  · rw [ls_sol h0 h1]
    rw [h0] at c0
    repeat' (first
 | ((with_reducible apply r_call); exact rfl; exact rfl; (first | exact c0 | exact c1); exact rfl; exact rfl)
 | ((with_reducible apply aw_seq))
 | ((with_reducible apply aw_region))
 | ((with_reducible apply thn_normal))
 | ((with_reducible apply thn_ret))
 | ((with_reducible apply aw_skip))
 | ((with_reducible apply aw_ret))
 | ((with_reducible apply ao_nil))
 | ((with_reducible apply r_move); exact rfl; exact rfl)
 | ((with_reducible apply r_assign); exact rfl; exact rfl)
 | ((with_reducible apply r_field_p); exact rfl; exact rfl)
 | ((with_reducible apply r_load_p); exact rfl; exact rfl; exact rfl; exact rfl)
 | ((with_reducible apply r_load_pa); exact rfl; exact rfl; exact rfl; exact rfl; exact rfl)
 | ((with_reducible apply r_neq); exact rfl; exact rfl; exact rfl)
 | ((with_reducible apply r_box_a); exact rfl; exact rfl)
 | ((with_reducible apply r_store_pa); exact rfl; exact rfl; exact rfl; exact rfl; exact rfl; exact rfl)
 | ((with_reducible apply r_build); exact rfl; exact rfl; exact rfl)
 | ((with_reducible apply r_alloc); exact rfl)
 | (((with_reducible apply aw_cond); exact rfl) <;> intro hg <;> (first | (exact absurd hg (by decide)) | ((try simp only [decide_eq_true_eq, decide_eq_false_iff_not, Bool.not_eq_true', Bool.not_eq_false', Bool.not_true, Bool.not_false, Bool.not_not, Int.not_lt, Int.not_le, Nat.not_lt, Nat.not_le, gt_iff_lt, ge_iff_le, List.cons.injEq, and_true] at hg); first | (exact absurd trivial hg) | (exfalso; omega) | (have hT : True := hg; clear hT hg) | skip)))
 )
    exact ret2 (.cons (.cell_a inferInstance rfl rfl rfl rfl (cl_cons cl_c (cl_cons cl_c (cl_cons cl_c (cl_cons cl_none (cl_cons cl_none (cl_cons cl_none (cl_cons cl_none cl_nil)))))))) (.cons (.tmp rfl cl_c) .nil))
  by_cases h2 : defChk s.2 = 0
  rotate_left
  · rw [ls_def h0 h1 h2]
    rw [h0] at c0
    rw [h1] at c1
    repeat' (first
 | ((with_reducible apply r_call); exact rfl; exact rfl; (first | exact c0 | exact c1 | exact c2); exact rfl; exact rfl)
 | ((with_reducible apply aw_seq))
 | ((with_reducible apply aw_region))
 | ((with_reducible apply thn_normal))
 | ((with_reducible apply thn_ret))
 | ((with_reducible apply aw_skip))
 | ((with_reducible apply aw_ret))
 | ((with_reducible apply ao_nil))
 | ((with_reducible apply r_move); exact rfl; exact rfl)
 | ((with_reducible apply r_assign); exact rfl; exact rfl)
 | ((with_reducible apply r_field_p); exact rfl; exact rfl)
 | ((with_reducible apply r_load_p); exact rfl; exact rfl; exact rfl; exact rfl)
 | ((with_reducible apply r_load_pa); exact rfl; exact rfl; exact rfl; exact rfl; exact rfl)
 | ((with_reducible apply r_neq); exact rfl; exact rfl; exact rfl)
 | ((with_reducible apply r_box_a); exact rfl; exact rfl)
 | ((with_reducible apply r_store_pa); exact rfl; exact rfl; exact rfl; exact rfl; exact rfl; exact rfl)
 | ((with_reducible apply r_build); exact rfl; exact rfl; exact rfl)
 | ((with_reducible apply r_alloc); exact rfl)
 | (((with_reducible apply aw_cond); exact rfl) <;> intro hg <;> (first | (exact absurd hg (by decide)) | ((try simp only [decide_eq_true_eq, decide_eq_false_iff_not, Bool.not_eq_true', Bool.not_eq_false', Bool.not_true, Bool.not_false, Bool.not_not, Int.not_lt, Int.not_le, Nat.not_lt, Nat.not_le, gt_iff_lt, ge_iff_le, List.cons.injEq, and_true] at hg); first | (exact absurd trivial hg) | (exfalso; omega) | (have hT : True := hg; clear hT hg) | skip)))
 )
    exact ret2 (.cons (.cell_a inferInstance rfl rfl rfl rfl (cl_cons cl_c (cl_cons cl_c (cl_cons cl_c (cl_cons cl_none (cl_cons cl_none (cl_cons cl_none (cl_cons cl_none cl_nil)))))))) (.cons (.tmp rfl cl_c) .nil))
  have pk := plan_ok h0
  have hlb := length_bd s.1
  have hu := pk.unit
  have hq : (lengthS s.1).tdiv p.unit = lengthS s.1 / p.unit := Int.tdiv_eq_ediv_of_nonneg hlb.1
  have hu0 : 0 ≤ lengthS s.1 / p.unit := Int.ediv_nonneg hlb.1 (by omega)
  have hu1 : lengthS s.1 / p.unit ≤ 20000 := Int.le_trans (Int.ediv_le_self _ hlb.1) hlb.2
  have hls := ls_long (p := p) (s := s) h0 h1 h2
  have hlo := ls_ok (p := p) (s := s) h0 h1 h2
  rw [h0] at c0
  rw [h1] at c1
  rw [h2] at c2
  obtain ⟨u, eu⟩ : ∃ u, u = lengthS s.1 / p.unit := ⟨_, rfl⟩
  rw [← eu] at hq hu0 hu1 hls hlo
  obtain ⟨L, eL⟩ : ∃ L, L = lengthS s.1 := ⟨_, rfl⟩
  rw [← eL] at c3 hq
  have hf : fits (L.tdiv p.unit) := by rw [hq]; unfold fits; omega
  by_cases hlong : 2000 < u
  · rw [hls hlong]
    repeat' (first
 | ((with_reducible apply r_call); exact rfl; exact rfl; (first | exact c0 | exact c1 | exact c2 | exact c3); exact rfl; exact rfl)
 | ((with_reducible apply r_quo); exact rfl; exact rfl; exact (by omega); exact hf; exact rfl; rw [hq])
 | ((with_reducible apply aw_seq))
 | ((with_reducible apply aw_region))
 | ((with_reducible apply thn_normal))
 | ((with_reducible apply thn_ret))
 | ((with_reducible apply aw_skip))
 | ((with_reducible apply aw_ret))
 | ((with_reducible apply ao_nil))
 | ((with_reducible apply r_move); exact rfl; exact rfl)
 | ((with_reducible apply r_assign); exact rfl; exact rfl)
 | ((with_reducible apply r_field_p); exact rfl; exact rfl)
 | ((with_reducible apply r_load_p); exact rfl; exact rfl; exact rfl; exact rfl)
 | ((with_reducible apply r_load_pa); exact rfl; exact rfl; exact rfl; exact rfl; exact rfl)
 | ((with_reducible apply r_gtr); exact rfl; exact rfl; exact rfl)
 | ((with_reducible apply r_neq); exact rfl; exact rfl; exact rfl)
 | ((with_reducible apply r_box_a); exact rfl; exact rfl)
 | ((with_reducible apply r_store_pa); exact rfl; exact rfl; exact rfl; exact rfl; exact rfl; exact rfl)
 | ((with_reducible apply r_build); exact rfl; exact rfl; exact rfl)
 | ((with_reducible apply r_alloc); exact rfl)
 | (((with_reducible apply aw_cond); exact rfl) <;> intro hg <;> (first | (exact absurd hg (by decide)) | ((try simp only [decide_eq_true_eq, decide_eq_false_iff_not, Bool.not_eq_true', Bool.not_eq_false', Bool.not_true, Bool.not_false, Bool.not_not, Int.not_lt, Int.not_le, Nat.not_lt, Nat.not_le, gt_iff_lt, ge_iff_le, List.cons.injEq, and_true] at hg); first | (exact absurd trivial hg) | (exfalso; omega) | (have hT : True := hg; clear hT hg) | skip)))
 | (refine aw_drawq ?_ ?_; (kernel_rfl))
 | ((with_reducible apply ds_nil))
 )
    exact ret2 (.cons (.cell_a inferInstance rfl rfl rfl rfl (cl_cons cl_c (cl_cons cl_c (cl_cons cl_c (cl_cons cl_none (cl_cons cl_none (cl_cons cl_none (cl_cons cl_none cl_nil)))))))) (.cons (.tmp rfl cl_c) .nil))
  rw [hlo hlong]
  have hln := pk.len
  have c4 := Cu.clone_con (gl := gl) p.lens (by omega)
  repeat' (first
 | (refine aw_drawA 7 ?_ rfl aop_alloc rfl ?_; (kernel_rfl); (simp only [List.take_succ_cons, List.take_zero, List.drop_succ_cons, List.drop_zero]))
 | ((with_reducible apply ds_nilA); exact rfl)
 | ((with_reducible apply r_call); exact rfl; exact rfl; (first | exact c0 | exact c1 | exact c2 | exact c3 | exact c4); exact rfl; exact rfl)
 | ((with_reducible apply r_quo); exact rfl; exact rfl; exact (by omega); exact hf; exact rfl; rw [hq])
 | ((with_reducible apply aw_seq))
 | ((with_reducible apply aw_region))
 | ((with_reducible apply aw_block))
 | ((with_reducible apply thn_normal))
 | ((with_reducible apply aw_skip))
 | ((with_reducible apply ao_nil))
 | ((with_reducible apply r_move); exact rfl; exact rfl)
 | ((with_reducible apply r_assign); exact rfl; exact rfl)
 | ((with_reducible apply r_field_p); exact rfl; exact rfl)
 | ((with_reducible apply r_load_p); exact rfl; exact rfl; exact rfl; exact rfl)
 | ((with_reducible apply r_load_pa); exact rfl; exact rfl; exact rfl; exact rfl; exact rfl)
 | ((with_reducible apply r_gtr); exact rfl; exact rfl; exact rfl)
 | ((with_reducible apply r_neq); exact rfl; exact rfl; exact rfl)
 | ((with_reducible apply r_box_a); exact rfl; exact rfl)
 | ((with_reducible apply r_len_f); exact rfl; exact inferInstance; exact rfl)
 | ((with_reducible apply r_store_pa); exact rfl; exact rfl; exact rfl; exact rfl; exact rfl; exact rfl)
 | ((with_reducible apply r_build); exact rfl; exact rfl; exact rfl)
 | ((with_reducible apply r_alloc); exact rfl)
 | (((with_reducible apply aw_cond); exact rfl) <;> intro hg <;> (first | (exact absurd hg (by decide)) | ((try simp only [decide_eq_true_eq, decide_eq_false_iff_not, Bool.not_eq_true', Bool.not_eq_false', Bool.not_true, Bool.not_false, Bool.not_not, Int.not_lt, Int.not_le, Nat.not_lt, Nat.not_le, gt_iff_lt, ge_iff_le, List.cons.injEq, and_true] at hg); first | (exact absurd trivial hg) | (exfalso; omega) | (have hT : True := hg; clear hT hg) | skip)))
 | (refine aw_drawq ?_ ?_; (kernel_rfl))
 | ((with_reducible apply ds_nil))
 )
  refine aw_nilcell 3 4 23 1 rfl rfl rfl rfl ?_
  refine aw_loopG (G := Nat) (fun (j : Nat) => j ≤ p.lens.length) (fun (j : Nat) => p.lens.length - j) (fun (j : Nat) => [(2, .ptr 0 0), (3, .ptr 1 0), (4, .ptr 2 0), (9, A u), (10, .ptr 3 0), (53, .c (LI p.lens)), (54, A p.lens.length), (55, A j)]) (fun (j : Nat) => [(0, some (.cells 40 (planA p))), (1, some (.cells 42 [.c (LL s.1), .c (LD s.2)])), (2, some (.cells 36 nil7)), (3, some (.cells 36 [A u, A p.kerf, A 1, .c (Cu.LI p.lens), .vec 4 j, .c (.v (.slice none 0 0)), .c (.v (.slice none 0 0))])), (4, some (.vec 23 1 (((p.lens.take j).map (rowL p s u)).flatMap Cu.rowC)))]) 5 0 ?_ (by refine weak_mk rfl ?_ ?_ <;> repeat (first | exact envW_nil | exact heapW_nil | refine envW_cons rfl rfl ?_ | refine heapW_cons rfl rfl rfl ?_)) rfl ?_
  · exact Nat.zero_le _
  rintro j hI
  try dsimp only at hI
  try dsimp only
  have hrl : ((p.lens.take j).map (rowL p s u)).length = j := by simp; omega
  by_cases hjl : j < p.lens.length
  · have hn := pk.one j hjl
    have hrs := rows_succ p s u j hjl
    obtain ⟨n, en⟩ : ∃ n, n = p.lens[j] := ⟨_, rfl⟩
    rw [← en] at hn hrs
    repeat' (first
 | (rw [← en])
 | ((with_reducible apply aw_seq))
 | ((with_reducible apply aw_region))
 | ((with_reducible apply aw_block))
 | ((with_reducible apply thn_normal))
 | ((with_reducible apply aw_skip))
 | ((with_reducible apply ao_nil))
 | ((with_reducible apply r_assign); exact rfl; exact rfl)
 | ((with_reducible apply r_lss); exact rfl; exact rfl; exact rfl)
 | ((with_reducible apply r_index_f); exact rfl; exact inferInstance; exact rfl; exact rfl; (first | assumption | omega); exact rfl)
 | ((with_reducible apply r_load_f0); exact rfl; exact inferInstance; exact List.getElem?_eq_getElem (by first | assumption | omega); exact rfl; exact rfl)
 | (((with_reducible apply aw_cond); exact rfl) <;> intro hg <;> (first | (exact absurd hg (by decide)) | ((try simp only [decide_eq_true_eq, decide_eq_false_iff_not, Bool.not_eq_true', Bool.not_eq_false', Bool.not_true, Bool.not_false, Bool.not_not, Int.not_lt, Int.not_le, Nat.not_lt, Nat.not_le, gt_iff_lt, ge_iff_le, List.cons.injEq, and_true] at hg); first | (exact absurd trivial hg) | (exfalso; omega) | (have hT : True := hg; clear hT hg) | skip)))
 )
    refine aw_nilvec 13 3 1 rfl rfl ?_
    refine aw_loopG (G := Nat) (fun (k : Nat) => (k = 0 ∨ (k : Int) + n ≤ u + 1)) (fun (k : Nat) => (u + 1 - k).toNat) (fun (k : Nat) => [(2, .ptr 0 0), (3, .ptr 1 0), (4, .ptr 2 0), (9, A u), (10, .ptr 3 0), (53, .c (LI p.lens)), (54, A p.lens.length), (55, A j), (12, A n), (13, .vec 5 k), (14, A k)]) (fun (k : Nat) => [(0, some (.cells 40 (planA p))), (1, some (.cells 42 [.c (LL s.1), .c (LD s.2)])), (2, some (.cells 36 nil7)), (3, some (.cells 36 [A u, A p.kerf, A 1, .c (Cu.LI p.lens), .vec 4 j, .c (.v (.slice none 0 0)), .c (.v (.slice none 0 0))])), (4, some (.vec 23 1 (((p.lens.take j).map (rowL p s u)).flatMap Cu.rowC))), (5, some (.vec 3 1 ((rowN p s n k).flatMap Cu.inC)))]) 6 0 ?_ (by refine weak_mk rfl ?_ ?_ <;> repeat (first | exact envW_nil | exact heapW_nil | refine envW_cons rfl rfl ?_ | refine heapW_cons rfl rfl rfl ?_)) rfl ?_
    · exact .inl rfl
    rintro k hI
    try dsimp only at hI
    try dsimp only
    by_cases hk : (k : Int) + n ≤ u
    · have cp := part_con (gl := gl) p s k n (by omega) (by omega) hu hl h2
      obtain ⟨g1, g2⟩ := part_len s ((k : Int) * p.unit, ((k : Int) + n) * p.unit) h2
      have cpr := price_con (gl := gl) p.classes (partS s ((k : Int) * p.unit, ((k : Int) + n) * p.unit)).1 (partS s ((k : Int) * p.unit, ((k : Int) + n) * p.unit)).2 hK g1 g2
      have hgn := rowN_succ p s n k
      unfold gainS at hgn
      generalize priceS p.classes (partS s ((k : Int) * p.unit, ((k : Int) + n) * p.unit)).1 (partS s ((k : Int) * p.unit, ((k : Int) + n) * p.unit)).2 = g at cpr hgn
      repeat' (first
 | ((with_reducible apply r_call); exact rfl; exact rfl; (first | exact cp | exact cpr); exact rfl; exact rfl)
 | ((with_reducible apply (r_push (enc := Cu.inC) (x0 := g))); exact rfl; exact rfl; exact inferInstance; exact (rowN_len _ _ _ _); exact rfl; exact rfl; exact rfl; exact (by omega); exact (by omega); exact rfl)
 | ((with_reducible apply aw_seq))
 | ((with_reducible apply aw_region))
 | ((with_reducible apply aw_block))
 | ((with_reducible apply thn_normal))
 | ((with_reducible apply inb_normal))
 | ((with_reducible apply aw_skip))
 | ((with_reducible apply ao_nil))
 | ((with_reducible apply r_move); exact rfl; exact rfl)
 | ((with_reducible apply r_assign); exact rfl; exact rfl)
 | ((with_reducible apply r_field_p); exact rfl; exact rfl)
 | ((with_reducible apply r_load_p); exact rfl; exact rfl; exact rfl; exact rfl)
 | ((with_reducible apply r_load_pa); exact rfl; exact rfl; exact rfl; exact rfl; exact rfl)
 | ((with_reducible apply r_leq); exact rfl; exact rfl; exact rfl)
 | ((with_reducible apply r_add); exact rfl; exact rfl; exact (by first | assumption | (unfold fits; omega)); exact rfl)
 | ((with_reducible apply r_store_pa); exact rfl; exact rfl; exact rfl; exact rfl; exact rfl; exact rfl)
 | ((with_reducible apply r_alloc); exact rfl)
 | (((with_reducible apply aw_cond); exact rfl) <;> intro hg <;> (first | (exact absurd hg (by decide)) | ((try simp only [decide_eq_true_eq, decide_eq_false_iff_not, Bool.not_eq_true', Bool.not_eq_false', Bool.not_true, Bool.not_false, Bool.not_not, Int.not_lt, Int.not_le, Nat.not_lt, Nat.not_le, gt_iff_lt, ge_iff_le, List.cons.injEq, and_true] at hg); first | (exact absurd trivial hg) | (exfalso; omega) | (have hT : True := hg; clear hT hg) | skip)))
 | ((with_reducible apply r_lit); exact rfl; exact rfl; exact rfl; exact rfl; exact rfl; exact rfl; exact rfl)
 )
      rw [← hgn]
      refine ⟨k + 1, ?_, ?_, by refine weak_mk rfl ?_ ?_ <;> repeat (first | exact envW_nil | exact heapW_nil | refine envW_cons rfl rfl ?_ | refine heapW_cons rfl rfl rfl ?_)⟩
      · show (u + 1 - ((k + 1 : Nat) : Int)).toNat < (u + 1 - k).toNat; omega
      · exact .inr (by show ((k + 1 : Nat) : Int) + n ≤ u + 1; omega)
    · have hrow : rowN p s n k = rowL p s u n := by unfold rowL; congr 1; omega
      repeat' (first
 | ((with_reducible apply (r_freeze 83)); exact rfl; exact rfl; exact (by rw [flat_len EncL.len, rowN_len]))
 | ((with_reducible apply r_litq); exact rfl; exact rfl; exact rfl; exact rfl; exact rfl; exact rfl; exact rfl)
 | ((with_reducible apply (r_appendl (enc := Cu.rowC) (l2 := [rowN p s n k]))); exact rfl; exact rfl; exact inferInstance; exact hrl; exact rfl; exact (by show j + 1 < _; omega); exact (by show (j + 1) * _ ≤ _; omega); exact rfl)
 | ((with_reducible apply aw_seq))
 | ((with_reducible apply aw_region))
 | ((with_reducible apply thn_normal))
 | ((with_reducible apply thn_exit))
 | ((with_reducible apply inb_normal))
 | ((with_reducible apply inb_exit))
 | ((with_reducible apply aw_exit))
 | ((with_reducible apply ao_nil))
 | ((with_reducible apply r_move); exact rfl; exact rfl)
 | ((with_reducible apply r_field_p); exact rfl; exact rfl)
 | ((with_reducible apply r_load_p); exact rfl; exact rfl; exact rfl; exact rfl)
 | ((with_reducible apply r_leq); exact rfl; exact rfl; exact rfl)
 | ((with_reducible apply r_add); exact rfl; exact rfl; exact (by first | assumption | (unfold fits; omega)); exact rfl)
 | ((with_reducible apply r_store_p); exact rfl; exact rfl; exact rfl; exact rfl; exact rfl; exact rfl)
 | (((with_reducible apply aw_cond); exact rfl) <;> intro hg <;> (first | (exact absurd hg (by decide)) | ((try simp only [decide_eq_true_eq, decide_eq_false_iff_not, Bool.not_eq_true', Bool.not_eq_false', Bool.not_true, Bool.not_false, Bool.not_not, Int.not_lt, Int.not_le, Nat.not_lt, Nat.not_le, gt_iff_lt, ge_iff_le, List.cons.injEq, and_true] at hg); first | (exact absurd trivial hg) | (exfalso; omega) | (have hT : True := hg; clear hT hg) | skip)))
 )
      rw [hrow, ← hrs]
      refine ⟨j + 1, ?_, ?_, by refine weak_mk rfl ?_ ?_ <;> repeat (first | exact envW_nil | exact heapW_nil | refine envW_cons rfl rfl ?_ | refine heapW_cons rfl rfl rfl ?_)⟩
      · show _ - (j + 1) < _ - j; omega
      · show j + 1 ≤ _; omega
  · obtain rfl : j = p.lens.length := by omega
    rw [List.take_length] at hrl ⊢
    repeat' (first
 | ((with_reducible apply r_make (enc := Cu.inC) (0 : Int) u.toNat); exact inferInstance; exact rfl; exact rfl; exact rfl; exact (Int.toNat_of_nonneg hu0).symm; exact (Int.toNat_of_nonneg hu0).symm; omega; omega; exact rfl)
 | ((with_reducible apply aw_seq))
 | ((with_reducible apply aw_region))
 | ((with_reducible apply thn_normal))
 | ((with_reducible apply thn_exit))
 | ((with_reducible apply inb_exit))
 | ((with_reducible apply aw_exit))
 | ((with_reducible apply aw_ret))
 | ((with_reducible apply ao_nil))
 | ((with_reducible apply r_move); exact rfl; exact rfl)
 | ((with_reducible apply r_assign); exact rfl; exact rfl)
 | ((with_reducible apply r_field_p); exact rfl; exact rfl)
 | ((with_reducible apply r_load_pa); exact rfl; exact rfl; exact rfl; exact rfl; exact rfl)
 | ((with_reducible apply r_lss); exact rfl; exact rfl; exact rfl)
 | ((with_reducible apply r_store_p); exact rfl; exact rfl; exact rfl; exact rfl; exact rfl; exact rfl)
 | ((with_reducible apply r_store_pa); exact rfl; exact rfl; exact rfl; exact rfl; exact rfl; exact rfl)
 | (((with_reducible apply aw_cond); exact rfl) <;> intro hg <;> (first | (exact absurd hg (by decide)) | ((try simp only [decide_eq_true_eq, decide_eq_false_iff_not, Bool.not_eq_true', Bool.not_eq_false', Bool.not_true, Bool.not_false, Bool.not_not, Int.not_lt, Int.not_le, Nat.not_lt, Nat.not_le, gt_iff_lt, ge_iff_le, List.cons.injEq, and_true] at hg); first | (exact absurd trivial hg) | (exfalso; omega) | (have hT : True := hg; clear hT hg) | skip)))
 )
    exact ret2 (.cons (.cell_a inferInstance rfl rfl rfl rfl (cl_cons cl_c (cl_cons cl_c (cl_cons cl_c (cl_cons cl_c (cl_cons (cl_vec rfl ((flat_len EncL.len _).trans (congrArg (· * 1) hrl))) (cl_cons (cl_vec rfl (by rw [flat_len EncL.len]; show (List.replicate u.toNat (0 : Int)).length * 1 = _; rw [List.length_replicate])) (cl_cons (cl_vec rfl (by rw [flat_len EncL.len]; show (List.replicate u.toNat (0 : Int)).length * 1 = _; rw [List.length_replicate])) cl_nil)))))))) (.cons (.tmp rfl cl_c) .nil))
end Go.Proofs.YtkhljpbkebnnmaaGreatDoor.Bu
/- Walks of bucking: the reference's part of a stem. -/
namespace Go.Proofs.YtkhljpbkebnnmaaGreatDoor.Bu
set_option linter.unusedVariables false
set_option linter.unusedSimpArgs false
open Go.RowKit Go.Proofs.YtkhljpbkebnnmaaGreatDoor.Ev Go.Proofs.YtkhljpbkebnnmaaGreatDoor.Ge
variable {gl : List (Nat × List CV)}
theorem def_xy {d : List Dfc} (h : defChk d = 0) : ∀ i (hi : i < d.length), (-600 ≤ d[i].x.1 ∧ d[i].x.1 ≤ 600 ∧ -600 ≤ d[i].x.2 ∧ d[i].x.2 ≤ 600) ∧ (-600 ≤ d[i].y.1 ∧ d[i].y.1 ≤ 600 ∧ -600 ≤ d[i].y.2 ∧ d[i].y.2 ≤ 600) := by
  obtain ⟨h1, h2⟩ := (defChk_iff d).1 h
  intro i hi
  have := h2 _ (List.getElem_mem hi)
  unfold dfChk at this
  split at this
  · cases this
  · split at this
    · cases this
    · split at this
      · rename_i h3
        unfold dfRange inB at h3
        simp only [Bool.and_eq_true, decide_eq_true_eq] at h3
        omega
      · cases this
theorem r3meet_con (a b : Span) : Con Tryz.prog gl 85 [spV a, spV b] (spV (meetS a b)) := by
  obtain ⟨a, a'⟩ := a
  obtain ⟨b, b'⟩ := b
  unfold meetS
  dsimp only
  refine con_of Tryz.func85 rfl (by kernel_rfl) rfl ?_
  simp only [Tryz.ntmps85, Tryz.results85, argEnv, ofC, of1, List.map]
  by_cases h : min a' b' ≤ max a b
  · rw [if_pos h]
    repeat' (first
 | ((with_reducible apply aw_seq))
 | ((with_reducible apply aw_region))
 | ((with_reducible apply thn_normal))
 | ((with_reducible apply thn_ret))
 | ((with_reducible apply aw_ret))
 | ((with_reducible apply ao_nil))
 | ((with_reducible apply r_field_p); exact rfl; exact rfl)
 | ((with_reducible apply r_load_p); exact rfl; exact rfl; exact rfl; exact rfl)
 | ((with_reducible apply r_geq); exact rfl; exact rfl; exact rfl)
 | ((with_reducible apply r_max); exact rfl; exact rfl; exact rfl)
 | ((with_reducible apply r_min); exact rfl; exact rfl; exact rfl)
 | ((with_reducible apply r_box_a); exact rfl; exact rfl)
 | ((with_reducible apply r_store_pa); exact rfl; exact rfl; exact rfl; exact rfl; exact rfl; exact rfl)
 | ((with_reducible apply r_build); exact rfl; exact rfl; exact rfl)
 | ((with_reducible apply r_alloc); exact rfl)
 | (((with_reducible apply aw_cond); exact rfl) <;> intro hg <;> (first | (exact absurd hg (by decide)) | ((try simp only [decide_eq_true_eq, decide_eq_false_iff_not, Bool.not_eq_true', Bool.not_eq_false', Bool.not_true, Bool.not_false, Bool.not_not, Int.not_lt, Int.not_le, Nat.not_lt, Nat.not_le, gt_iff_lt, ge_iff_le, List.cons.injEq, and_true] at hg); first | (exact absurd trivial hg) | (exfalso; omega) | (have hT : True := hg; clear hT hg) | skip)))
 )
    exact ret1 (.cell_a inferInstance rfl rfl rfl rfl (cl_cons cl_c (cl_cons cl_c cl_nil)))
  · rw [if_neg h]
    repeat' (first
 | ((with_reducible apply aw_seq))
 | ((with_reducible apply aw_region))
 | ((with_reducible apply thn_normal))
 | ((with_reducible apply aw_skip))
 | ((with_reducible apply aw_ret))
 | ((with_reducible apply ao_nil))
 | ((with_reducible apply r_field_p); exact rfl; exact rfl)
 | ((with_reducible apply r_load_p); exact rfl; exact rfl; exact rfl; exact rfl)
 | ((with_reducible apply r_load_pa); exact rfl; exact rfl; exact rfl; exact rfl; exact rfl)
 | ((with_reducible apply r_geq); exact rfl; exact rfl; exact rfl)
 | ((with_reducible apply r_max); exact rfl; exact rfl; exact rfl)
 | ((with_reducible apply r_min); exact rfl; exact rfl; exact rfl)
 | ((with_reducible apply r_box_a); exact rfl; exact rfl)
 | ((with_reducible apply r_store_pa); exact rfl; exact rfl; exact rfl; exact rfl; exact rfl; exact rfl)
 | ((with_reducible apply r_build); exact rfl; exact rfl; exact rfl)
 | ((with_reducible apply r_alloc); exact rfl)
 | (((with_reducible apply aw_cond); exact rfl) <;> intro hg <;> (first | (exact absurd hg (by decide)) | ((try simp only [decide_eq_true_eq, decide_eq_false_iff_not, Bool.not_eq_true', Bool.not_eq_false', Bool.not_true, Bool.not_false, Bool.not_not, Int.not_lt, Int.not_le, Nat.not_lt, Nat.not_le, gt_iff_lt, ge_iff_le, List.cons.injEq, and_true] at hg); first | (exact absurd trivial hg) | (exfalso; omega) | (have hT : True := hg; clear hT hg) | skip)))
 )
    exact ret1 (.cell_a inferInstance rfl rfl rfl rfl (cl_cons cl_c (cl_cons cl_c cl_nil)))
theorem rby_con (a b n : Int) (h : -100000000 ≤ a ∧ a ≤ 100000000 ∧ -100000000 ≤ b ∧ b ≤ 100000000 ∧ -100000000 ≤ n ∧ n ≤ 100000000) : Con Tryz.prog gl 110 [.agg [I a, I b], I n] (.agg [I (a + n), I (b + n)]) := by
  refine con_of Tryz.func110 rfl (by kernel_rfl) rfl ?_
  simp only [Tryz.ntmps110, Tryz.results110, argEnv, ofC, of1, List.map]
  repeat' (first
 | ((with_reducible apply aw_seq))
 | ((with_reducible apply aw_region))
 | ((with_reducible apply thn_normal))
 | ((with_reducible apply aw_ret))
 | ((with_reducible apply ao_nil))
 | ((with_reducible apply r_move); exact rfl; exact rfl)
 | ((with_reducible apply r_field_p); exact rfl; exact rfl)
 | ((with_reducible apply r_load_p); exact rfl; exact rfl; exact rfl; exact rfl)
 | ((with_reducible apply r_add); exact rfl; exact rfl; exact (by first | assumption | (unfold fits; omega)); exact rfl)
 | ((with_reducible apply r_box_a); exact rfl; exact rfl)
 | ((with_reducible apply r_store_pa); exact rfl; exact rfl; exact rfl; exact rfl; exact rfl; exact rfl)
 | ((with_reducible apply r_build); exact rfl; exact rfl; exact rfl)
 | ((with_reducible apply r_alloc); exact rfl)
 )
  exact ret1 (.cell_a inferInstance rfl rfl rfl rfl (cl_cons cl_c (cl_cons cl_c cl_nil)))
theorem rmove_con (x y : Span) (a b n : Int) (hx : -600 ≤ x.1 ∧ x.1 ≤ 600 ∧ -600 ≤ x.2 ∧ x.2 ≤ 600) (hy : -600 ≤ y.1 ∧ y.1 ≤ 600 ∧ -600 ≤ y.2 ∧ y.2 ≤ 600) (h : -100000000 ≤ a ∧ a ≤ 100000000 ∧ -100000000 ≤ b ∧ b ≤ 100000000 ∧ -100000000 ≤ n ∧ n ≤ 100000000) : Con Tryz.prog gl 86 [.agg [I x.1, I x.2, I y.1, I y.2, I a, I b], I 0, I 0, I n] (.agg [I x.1, I x.2, I y.1, I y.2, I (a + n), I (b + n)]) := by
  obtain ⟨x, x'⟩ := x
  obtain ⟨y, y'⟩ := y
  dsimp only at hx hy ⊢
  have c1 := rby_con (gl := gl) x x' 0 (by omega)
  have c2 := rby_con (gl := gl) y y' 0 (by omega)
  have c3 := rby_con (gl := gl) a b n h
  rw [Int.add_zero, Int.add_zero] at c1 c2
  refine con_of Tryz.func86 rfl (by kernel_rfl) rfl ?_
  simp only [Tryz.ntmps86, Tryz.results86, argEnv, ofC, of1, List.map]
  repeat' (first
 | (refine aw_drawt 13 ?_ ?_; (kernel_rfl); (simp only [List.take_succ_cons, List.take_zero, List.drop_succ_cons, List.drop_zero]))
 | ((with_reducible apply r_call); exact rfl; exact rfl; (first | exact c1 | exact c2 | exact c3); exact rfl; exact rfl)
 | ((with_reducible apply aw_seq))
 | ((with_reducible apply aw_region))
 | ((with_reducible apply thn_normal))
 | ((with_reducible apply aw_ret))
 | ((with_reducible apply ao_nil))
 | ((with_reducible apply r_move); exact rfl; exact rfl)
 | ((with_reducible apply r_field_p); exact rfl; exact rfl)
 | ((with_reducible apply r_load_pa); exact rfl; exact rfl; exact rfl; exact rfl; exact rfl)
 | ((with_reducible apply r_box_a); exact rfl; exact rfl)
 | ((with_reducible apply r_store_pa); exact rfl; exact rfl; exact rfl; exact rfl; exact rfl; exact rfl)
 | ((with_reducible apply r_build); exact rfl; exact rfl; exact rfl)
 | ((with_reducible apply r_alloc); exact rfl)
 | ((with_reducible apply ds_nil))
 )
  all_goals exact ret1 (.cell_a inferInstance rfl rfl rfl rfl (cl_cons cl_c (cl_cons cl_c (cl_cons cl_c (cl_cons cl_c (cl_cons cl_c (cl_cons cl_c cl_nil)))))))
set_option maxHeartbeats 8000000 in
theorem rPart_con (s : Lg) (z1 z2 : Int) (hz : 0 ≤ z1 ∧ z1 ≤ 4000000 ∧ 0 ≤ z2 ∧ z2 ≤ 4000000) (hl : s.1.length ≤ maxLen) (hd : defChk s.2 = 0) : Con Tryz.prog gl 52 [lgV s, .agg [I z1, I z2]] (lgV (partS s (z1, z2))) := by
  obtain ⟨l, d⟩ := s
  obtain ⟨d1, d2⟩ := def_z hd
  have d3 := def_xy hd
  unfold partS
  dsimp only at hl d1 d2 d3 ⊢
  have hc := rscut_con (gl := gl) l hl (z1, z2) (by unfold fits; dsimp only; omega)
  refine con_of Tryz.func52 rfl (by kernel_rfl) rfl ?_
  simp only [Tryz.ntmps52, Tryz.results52, argEnv, ofC, of1, List.map]
  repeat' (first
 | ((with_reducible apply r_call); exact rfl; exact rfl; exact hc; exact rfl; exact rfl)
 | ((with_reducible apply aw_seq))
 | ((with_reducible apply aw_region))
 | ((with_reducible apply aw_block))
 | ((with_reducible apply thn_normal))
 | ((with_reducible apply ao_nil))
 | ((with_reducible apply r_assign); exact rfl; exact rfl)
 | ((with_reducible apply r_field_p); exact rfl; exact rfl)
 | ((with_reducible apply r_load_p); exact rfl; exact rfl; exact rfl; exact rfl)
 | ((with_reducible apply r_load_pa); exact rfl; exact rfl; exact rfl; exact rfl; exact rfl)
 | ((with_reducible apply r_box_a); exact rfl; exact rfl)
 | ((with_reducible apply r_store_pa); exact rfl; exact rfl; exact rfl; exact rfl; exact rfl; exact rfl)
 | ((with_reducible apply r_build); exact rfl; exact rfl; exact rfl)
 | ((with_reducible apply r_alloc); exact rfl)
 )
  refine aw_nilcell 3 1 91 7 rfl rfl rfl rfl ?_
  refine aw_loopG (G := Nat × List Dfc) (fun ((j, acc) : Nat × List Dfc) => j ≤ d.length ∧ acc.length ≤ j ∧ acc = defCut (d.take j) (z1, z2)) (fun ((j, acc) : Nat × List Dfc) => d.length - j) (fun ((j, acc) : Nat × List Dfc) => [(2, .ptr 0 0), (3, .ptr 1 0), (4, .ptr 2 0), (5, .ptr 3 0), (6, A j)]) (fun ((j, acc) : Nat × List Dfc) => [(0, some (.cells 29 [.c (LL l), .c (LD d)])), (1, some (.cells 68 [A z1, A z2])), (2, some (.cells 29 [.c (.v (.slice none 0 0)), .c (.v (.slice none 0 0))])), (3, some (.cells 29 [.c (LL (cutS l (z1, z2))), .vec 4 acc.length])), (4, some (.vec 91 7 (acc.flatMap dfC)))]) 5 (0, []) ?_ (by refine weak_mk rfl ?_ ?_ <;> repeat (first | exact envW_nil | exact heapW_nil | refine envW_cons rfl rfl ?_ | refine heapW_cons rfl rfl rfl ?_)) rfl ?_
  · exact ⟨Nat.zero_le _, Nat.zero_le _, rfl⟩
  rintro ⟨j, acc⟩ hI
  try dsimp only at hI
  try dsimp only
  obtain ⟨hj, hal, hacc⟩ := hI
  by_cases hjl : j < d.length
  · have hb := d2 j hjl
    obtain ⟨hbx, hby⟩ := d3 j hjl
    have hm := r3meet_con (gl := gl) d[j].z (z1, z2)
    unfold meetS at hm
    dsimp only at hm
    by_cases hlt : max d[j].z.1 z1 < min d[j].z.2 z2
    · rw [if_neg (by omega)] at hm
      have hy := defCut_yes (Z := (z1, z2)) hjl hlt
      dsimp only at hy
      have hma1 : 0 ≤ max d[j].z.1 z1 ∧ max d[j].z.1 z1 ≤ 4000000 ∧ 0 ≤ min d[j].z.2 z2 ∧ min d[j].z.2 z2 ≤ 4000000 := by omega
      generalize hma : max d[j].z.1 z1 = ma at hm hlt hy hma1
      generalize hmb : min d[j].z.2 z2 = mb at hm hlt hy hma1
      have hmv : Con Tryz.prog gl 86 [.agg [I d[j].x.1, I d[j].x.2, I d[j].y.1, I d[j].y.2, I ma, I mb], I 0, I 0, I (-z1)] (.agg [I d[j].x.1, I d[j].x.2, I d[j].y.1, I d[j].y.2, I (ma - z1), I (mb - z1)]) := rmove_con d[j].x d[j].y ma mb (-z1) hbx hby (by omega)
      repeat' (first
 | ((with_reducible apply r_call); exact rfl; exact rfl; (first | exact hm | exact hmv); exact rfl; exact rfl)
 | ((with_reducible apply (r_push (enc := dfC) (x0 := (⟨d[j].kind, d[j].x, d[j].y, (ma - z1, mb - z1)⟩ : Dfc)))); exact rfl; exact rfl; exact inferInstance; exact rfl; exact rfl; exact rfl; exact rfl; exact (by omega); exact (by omega); exact rfl)
 | ((with_reducible apply aw_seq))
 | ((with_reducible apply aw_region))
 | ((with_reducible apply aw_block))
 | ((with_reducible apply thn_normal))
 | ((with_reducible apply inb_normal))
 | ((with_reducible apply aw_skip))
 | ((with_reducible apply ao_nil))
 | ((with_reducible apply r_move); exact rfl; exact rfl)
 | ((with_reducible apply r_assign); exact rfl; exact rfl)
 | ((with_reducible apply r_field_p); exact rfl; exact rfl)
 | ((with_reducible apply r_load_p); exact rfl; exact rfl; exact rfl; exact rfl)
 | ((with_reducible apply r_load_pa); exact rfl; exact rfl; exact rfl; exact rfl; exact rfl)
 | ((with_reducible apply r_lss); exact rfl; exact rfl; exact rfl)
 | ((with_reducible apply r_add); exact rfl; exact rfl; exact (by first | assumption | (unfold fits; omega)); exact rfl)
 | ((with_reducible apply r_len_f); exact rfl; exact inferInstance; exact rfl)
 | ((with_reducible apply r_index_f); exact rfl; exact inferInstance; exact rfl; exact rfl; (first | assumption | omega); exact rfl)
 | ((with_reducible apply r_load_fa0); exact rfl; exact inferInstance; exact List.getElem?_eq_getElem (by first | assumption | omega); exact rfl; exact rfl; exact rfl)
 | ((with_reducible apply r_store_p); exact rfl; exact rfl; exact rfl; exact rfl; exact rfl; exact rfl)
 | ((with_reducible apply r_store_pa); exact rfl; exact rfl; exact rfl; exact rfl; exact rfl; exact rfl)
 | ((with_reducible apply r_alloc); exact rfl)
 | (((with_reducible apply aw_cond); exact rfl) <;> intro hg <;> (first | (exact absurd hg (by decide)) | ((try simp only [decide_eq_true_eq, decide_eq_false_iff_not, Bool.not_eq_true', Bool.not_eq_false', Bool.not_true, Bool.not_false, Bool.not_not, Int.not_lt, Int.not_le, Nat.not_lt, Nat.not_le, gt_iff_lt, ge_iff_le, List.cons.injEq, and_true] at hg); first | (exact absurd trivial hg) | (exfalso; omega) | (have hT : True := hg; clear hT hg) | skip)))
 | ((with_reducible apply r_lit); exact rfl; exact rfl; exact rfl; exact rfl; exact rfl; exact rfl; exact rfl)
 | ((with_reducible apply r_neg); exact rfl; exact (by first | assumption | (unfold fits; omega)); exact rfl)
 )
      have e2 : acc.length + 1 = (acc ++ [(⟨d[j].kind, d[j].x, d[j].y, (ma - z1, mb - z1)⟩ : Dfc)]).length := by simp
      rw [e2]
      refine ⟨(j + 1, acc ++ [⟨d[j].kind, d[j].x, d[j].y, (ma - z1, mb - z1)⟩]), ?_, ?_, by refine weak_mk rfl ?_ ?_ <;> repeat (first | exact envW_nil | exact heapW_nil | refine envW_cons rfl rfl ?_ | refine heapW_cons rfl rfl rfl ?_)⟩
      · show _ - (j + 1) < _ - j; omega
      · refine ⟨by show j + 1 ≤ _; omega, by show (acc ++ [_]).length ≤ j + 1; simp; omega, ?_⟩
        show acc ++ [_] = defCut (d.take (j + 1)) (z1, z2)
        rw [hy, hacc]
    · rw [if_pos (by omega)] at hm
      repeat' (first
 | ((with_reducible apply r_call); exact rfl; exact rfl; exact hm; exact rfl; exact rfl)
 | ((with_reducible apply aw_seq))
 | ((with_reducible apply aw_region))
 | ((with_reducible apply aw_block))
 | ((with_reducible apply thn_normal))
 | ((with_reducible apply inb_normal))
 | ((with_reducible apply aw_skip))
 | ((with_reducible apply ao_nil))
 | ((with_reducible apply r_move); exact rfl; exact rfl)
 | ((with_reducible apply r_assign); exact rfl; exact rfl)
 | ((with_reducible apply r_field_p); exact rfl; exact rfl)
 | ((with_reducible apply r_load_p); exact rfl; exact rfl; exact rfl; exact rfl)
 | ((with_reducible apply r_load_pa); exact rfl; exact rfl; exact rfl; exact rfl; exact rfl)
 | ((with_reducible apply r_lss); exact rfl; exact rfl; exact rfl)
 | ((with_reducible apply r_add); exact rfl; exact rfl; exact (by first | assumption | (unfold fits; omega)); exact rfl)
 | ((with_reducible apply r_len_f); exact rfl; exact inferInstance; exact rfl)
 | ((with_reducible apply r_index_f); exact rfl; exact inferInstance; exact rfl; exact rfl; (first | assumption | omega); exact rfl)
 | ((with_reducible apply r_load_fa0); exact rfl; exact inferInstance; exact List.getElem?_eq_getElem (by first | assumption | omega); exact rfl; exact rfl; exact rfl)
 | ((with_reducible apply r_store_pa); exact rfl; exact rfl; exact rfl; exact rfl; exact rfl; exact rfl)
 | ((with_reducible apply r_alloc); exact rfl)
 | (((with_reducible apply aw_cond); exact rfl) <;> intro hg <;> (first | (exact absurd hg (by decide)) | ((try simp only [decide_eq_true_eq, decide_eq_false_iff_not, Bool.not_eq_true', Bool.not_eq_false', Bool.not_true, Bool.not_false, Bool.not_not, Int.not_lt, Int.not_le, Nat.not_lt, Nat.not_le, gt_iff_lt, ge_iff_le, List.cons.injEq, and_true] at hg); first | (exact absurd trivial hg) | (exfalso; omega) | (have hT : True := hg; clear hT hg) | skip)))
 )
      refine ⟨(j + 1, acc), ?_, ?_, by refine weak_mk rfl ?_ ?_ <;> repeat (first | exact envW_nil | exact heapW_nil | refine envW_cons rfl rfl ?_ | refine heapW_cons rfl rfl rfl ?_)⟩
      · show _ - (j + 1) < _ - j; omega
      · exact ⟨by show j + 1 ≤ _; omega, by show acc.length ≤ j + 1; omega, by show acc = defCut (d.take (j + 1)) (z1, z2); rw [defCut_no hjl hlt]; exact hacc⟩
  · have e : defCut d (z1, z2) = acc := by rw [hacc, List.take_of_length_le (by omega)]
    rw [e]
    repeat' (first
 | ((with_reducible apply aw_seq))
 | ((with_reducible apply aw_region))
 | ((with_reducible apply thn_normal))
 | ((with_reducible apply thn_exit))
 | ((with_reducible apply inb_exit))
 | ((with_reducible apply aw_exit))
 | ((with_reducible apply aw_ret))
 | ((with_reducible apply ao_nil))
 | ((with_reducible apply r_move); exact rfl; exact rfl)
 | ((with_reducible apply r_field_p); exact rfl; exact rfl)
 | ((with_reducible apply r_load_p); exact rfl; exact rfl; exact rfl; exact rfl)
 | ((with_reducible apply r_load_pa); exact rfl; exact rfl; exact rfl; exact rfl; exact rfl)
 | ((with_reducible apply r_lss); exact rfl; exact rfl; exact rfl)
 | ((with_reducible apply r_len_f); exact rfl; exact inferInstance; exact rfl)
 | ((with_reducible apply r_store_pa); exact rfl; exact rfl; exact rfl; exact rfl; exact rfl; exact rfl)
 | (((with_reducible apply aw_cond); exact rfl) <;> intro hg <;> (first | (exact absurd hg (by decide)) | ((try simp only [decide_eq_true_eq, decide_eq_false_iff_not, Bool.not_eq_true', Bool.not_eq_false', Bool.not_true, Bool.not_false, Bool.not_not, Int.not_lt, Int.not_le, Nat.not_lt, Nat.not_le, gt_iff_lt, ge_iff_le, List.cons.injEq, and_true] at hg); first | (exact absurd trivial hg) | (exfalso; omega) | (have hT : True := hg; clear hT hg) | skip)))
 )
    exact ret1 (.cell_a inferInstance rfl rfl rfl rfl (cl_cons cl_c (cl_cons (cl_vec rfl (flat_len EncL.len _)) cl_nil)))
set_option maxHeartbeats 8000000 in
theorem rpart_con (p : Plan) (s : Lg) (q n : Int) (hq : 0 ≤ q ∧ q ≤ 2000) (hn : 0 ≤ n ∧ n ≤ 2000) (hu : 1 ≤ p.unit ∧ p.unit ≤ 1000) (hl : s.1.length ≤ maxLen) (hd : defChk s.2 = 0) : Con Tryz.prog gl 31 [planV p, lgV s, I q, I n] (lgV (partS s (q * p.unit, (q + n) * p.unit))) := by
  obtain ⟨K, ls, u, kf⟩ := p
  have m1 := mul_fit (a := q) (u := u) (by omega) hu
  have m2 := mul_fit (a := q + n) (u := u) (by omega) hu
  have c0 := rPart_con (gl := gl) s (q * u) ((q + n) * u) (by omega) hl hd
  dsimp only
  generalize partS s (q * u, (q + n) * u) = r at c0 ⊢
  generalize hz1 : q * u = z1 at m1 c0
  generalize hz2 : (q + n) * u = z2 at m2 c0
  have f1 : fits (q * u) := by rw [hz1]; unfold fits; omega
  have f2 : fits ((q + n) * u) := by rw [hz2]; unfold fits; omega
  refine con_of Tryz.func31 rfl (by kernel_rfl) rfl ?_
  simp only [Tryz.ntmps31, Tryz.results31, argEnv, ofC, of1, List.map]
  repeat' (first
 | ((with_reducible apply r_mul); exact rfl; exact rfl; (first | exact f1 | exact f2); exact rfl; (first | rw [hz1] | rw [hz2]))
 | ((with_reducible apply r_call); exact rfl; exact rfl; exact c0; exact rfl; exact rfl)
 | ((with_reducible apply aw_seq))
 | ((with_reducible apply aw_region))
 | ((with_reducible apply thn_normal))
 | ((with_reducible apply aw_ret))
 | ((with_reducible apply ao_nil))
 | ((with_reducible apply r_move); exact rfl; exact rfl)
 | ((with_reducible apply r_field_p); exact rfl; exact rfl)
 | ((with_reducible apply r_load_p); exact rfl; exact rfl; exact rfl; exact rfl)
 | ((with_reducible apply r_load_pa); exact rfl; exact rfl; exact rfl; exact rfl; exact rfl)
 | ((with_reducible apply r_add); exact rfl; exact rfl; exact (by first | assumption | (unfold fits; omega)); exact rfl)
 | ((with_reducible apply r_box_a); exact rfl; exact rfl)
 | ((with_reducible apply r_store_pa); exact rfl; exact rfl; exact rfl; exact rfl; exact rfl; exact rfl)
 | ((with_reducible apply r_build); exact rfl; exact rfl; exact rfl)
 | ((with_reducible apply r_alloc); exact rfl)
 )
  exact ret1 (.cell_a inferInstance rfl rfl rfl rfl (cl_cons cl_c (cl_cons cl_c cl_nil)))
end Go.Proofs.YtkhljpbkebnnmaaGreatDoor.Bu
/- Walks of bucking: Best, Logs, sum, light. -/
namespace Go.Proofs.YtkhljpbkebnnmaaGreatDoor.Bu
set_option linter.unusedVariables false
set_option linter.unusedSimpArgs false
open Go.RowKit Go.Proofs.YtkhljpbkebnnmaaGreatDoor.Ev Go.Proofs.YtkhljpbkebnnmaaGreatDoor.Ge
variable {gl : List (Nat × List CV)}
theorem priceS_bd (K : List Kl) (l : List Slc) (d : List Dfc) : 0 ≤ priceS K l d ∧ priceS K l d ≤ 700000000 := by
  rcases of_cases K l d with h | ⟨i, hi, hk, h, _, _⟩
  · rw [priceS_none h]; decide
  · rw [priceS_some hi h]
    have hp := price_bd (kl_ok hk K[i] (List.getElem_mem _))
    have hm := mulp_bd hp (volS_bd l)
    omega
theorem rowL_len (p : Plan) (s : Lg) (u n : Int) : (rowL p s u n).length = (max 0 (u - n + 1)).toNat := rowN_len ..
theorem rowL_get (p : Plan) (s : Lg) (u n : Int) (k : Nat) (h : k < (rowL p s u n).length) : (rowL p s u n)[k] = gainS p s k n := by simp [rowL, rowN]
theorem rowL_small (p : Plan) (s : Lg) (u n : Int) : Cu.smallL (rowL p s u n) = true := by
  unfold Cu.smallL
  refine all_of (fun i hi => ?_)
  rw [rowL_get]
  have := priceS_bd p.classes (partS s ((i : Int) * p.unit, ((i : Int) + n) * p.unit)).1 (partS s ((i : Int) * p.unit, ((i : Int) + n) * p.unit)).2
  unfold Cu.smallN gainS
  rw [decide_eq_true (by omega), decide_eq_true (by omega)]; rfl
theorem zeros_small (n : Nat) : Cu.smallL (List.replicate n 0) = true := by
  unfold Cu.smallL
  refine all_of (fun i hi => ?_)
  rw [List.getElem_replicate]; rfl
theorem line_chk {p : Plan} (pk : PlanOk p) (s : Lg) {u : Int} (hu : 0 ≤ u ∧ u ≤ 2000) : Cu.chk (lineOf p s u) = 0 := by
  have hk := pk.kerf
  have hm : Cu.measS (lineOf p s u) = 0 := by
    unfold Cu.measS
    rw [if_neg (by unfold Cu.headBad lineOf; dsimp only; omega), if_neg (by unfold lineOf; dsimp only; have := pk.len; omega), if_pos]
    show p.lens.all Cu.sizeOk = true
    refine all_of (fun i hi => ?_)
    have := pk.one i hi
    unfold Cu.sizeOk
    rw [decide_eq_true this.1, decide_eq_true this.2]; rfl
  unfold Cu.chk
  rw [if_neg (fun hh => hh hm), if_pos]
  · rw [if_pos]
    show ((p.lens.map (rowL p s u)).all Cu.smallL && Cu.smallL (List.replicate u.toNat 0) && Cu.smallL (List.replicate u.toNat 0)) = true
    rw [zeros_small, Bool.and_true, Bool.and_true]
    refine all_of (fun i hi => ?_)
    rw [List.getElem_map]; exact rowL_small ..
  · refine ⟨by simp [lineOf], by show ((List.replicate u.toNat (0 : Int)).length : Int) = u; simp; omega, by show ((List.replicate u.toNat (0 : Int)).length : Int) = u; simp; omega, fun i hi h1 h2 => ?_⟩
    exact ((congrArg (fun r : List Int => (r.length : Int)) (List.getElem_map (rowL p s u) (l := p.lens) (i := i) (h := h1))).trans (by show ((rowL p s u (p.lens[i]'h2)).length : Int) = max 0 (u - (p.lens[i]'h2) + 1); rw [rowL_len]; omega))
structure LnOk (p : Plan) (s : Lg) (u : Int) : Prop where
  pk : PlanOk p
  sol : solChk s.1 = 0
  dfs : defChk s.2 = 0
  ub : 0 ≤ u ∧ u ≤ 2000
  ue : u = lengthS s.1 / p.unit
theorem line_cases (p : Plan) (s : Lg) : (∃ e, ¬ e = 0 ∧ lineS p s = (Cu.zeroL, e)) ∨ ∃ u, LnOk p s u ∧ lineS p s = (lineOf p s u, 0) := by
  by_cases h0 : planChk p = 0
  · by_cases h1 : solChk s.1 = 0
    · by_cases h2 : defChk s.2 = 0
      · have pk := plan_ok h0
        have hlb := length_bd s.1
        have hu := pk.unit
        have hu0 : 0 ≤ lengthS s.1 / p.unit := Int.ediv_nonneg hlb.1 (by omega)
        by_cases h3 : 2000 < lengthS s.1 / p.unit
        · exact .inl ⟨9, by decide, ls_long h0 h1 h2 h3⟩
        · exact .inr ⟨_, ⟨pk, h1, h2, ⟨hu0, by omega⟩, rfl⟩, ls_ok h0 h1 h2 h3⟩
      · exact .inl ⟨_, h2, ls_def h0 h1 h2⟩
    · exact .inl ⟨_, h1, ls_sol h0 h1⟩
  · exact .inl ⟨_, h0, ls_plan h0⟩
noncomputable def bbS (p : Plan) (s : Lg) : List Cu.Piece × Int × Int := if (lineS p s).2 ≠ 0 then ([], 0, (lineS p s).2) else Cu.bestS (lineS p s).1
theorem bb_err {p : Plan} {s : Lg} {e : Int} (he : ¬ e = 0) (h : lineS p s = (Cu.zeroL, e)) : bbS p s = ([], 0, e) := by unfold bbS; rw [h, if_pos he]
theorem bb_ok {p : Plan} {s : Lg} {u : Int} (h : lineS p s = (lineOf p s u, 0)) : bbS p s = Cu.bestS (lineOf p s u) := by unfold bbS; rw [h, if_neg (fun hh => hh rfl)]
set_option maxHeartbeats 8000000 in
theorem bbest_con (p : Plan) (s : Lg) (hK : p.classes.length ≤ maxLen) (hl : s.1.length ≤ maxLen) (hd : s.2.length ≤ maxLen) : Con Tryz.prog Cu.G 15 [planV p, lgV s] (Cu.bestC (bbS p s)) := by
  have c0 := bline_con (gl := Cu.G) p s hK hl hd
  refine con_of Tryz.func15 rfl (by kernel_rfl) rfl ?_
  simp only [Tryz.ntmps15, Tryz.results15, argEnv, ofC, of1, List.map]
  rcases line_cases p s with ⟨e, he, h⟩ | ⟨u, ok, h⟩
  · rw [bb_err he h]
    rw [h] at c0
    change Con _ _ _ _ (.tup [.agg [I 0, I 0, I 0, .lst 1 [], .lst 1 [], .lst 1 [], .lst 1 []], I e]) at c0
    repeat' (first
 | ((with_reducible apply r_call); exact rfl; exact rfl; exact c0; exact rfl; exact rfl)
 | ((with_reducible apply aw_seq))
 | ((with_reducible apply aw_region))
 | ((with_reducible apply thn_normal))
 | ((with_reducible apply thn_ret))
 | ((with_reducible apply aw_ret))
 | ((with_reducible apply ao_nil))
 | ((with_reducible apply r_move); exact rfl; exact rfl)
 | ((with_reducible apply r_assign); exact rfl; exact rfl)
 | ((with_reducible apply r_load_pa); exact rfl; exact rfl; exact rfl; exact rfl; exact rfl)
 | ((with_reducible apply r_neq); exact rfl; exact rfl; exact rfl)
 | ((with_reducible apply r_box_a); exact rfl; exact rfl)
 | ((with_reducible apply r_store_pa); exact rfl; exact rfl; exact rfl; exact rfl; exact rfl; exact rfl)
 | ((with_reducible apply r_extract); exact rfl; exact rfl; exact rfl)
 | ((with_reducible apply r_alloc); exact rfl)
 | (((with_reducible apply aw_cond); exact rfl) <;> intro hg <;> (first | (exact absurd hg (by decide)) | ((try simp only [decide_eq_true_eq, decide_eq_false_iff_not, Bool.not_eq_true', Bool.not_eq_false', Bool.not_true, Bool.not_false, Bool.not_not, Int.not_lt, Int.not_le, Nat.not_lt, Nat.not_le, gt_iff_lt, ge_iff_le, List.cons.injEq, and_true] at hg); first | (exact absurd trivial hg) | (exfalso; omega) | (have hT : True := hg; clear hT hg) | skip)))
 )
    exact ret2 (.cons (.tmp rfl cl_none) (.cons (.tmp rfl cl_c) (.cons (.tmp rfl cl_c) .nil)))
  · rw [bb_ok h]
    rw [h] at c0
    have c1 := Cu.best_con (lineOf p s u)
    rcases hb : Cu.bestS (lineOf p s u) with ⟨r1, r2, r3⟩
    rw [hb] at c1
    change Con _ _ _ _ (.tup [Cu.LP r1, I r2, I r3]) at c1
    change Con _ _ _ _ (.tup [.agg (Cu.lineL (lineOf p s u)), I 0]) at c0
    repeat' (first
 | ((with_reducible apply r_call); exact rfl; exact rfl; (first | exact c0 | exact c1); exact rfl; exact rfl)
 | ((with_reducible apply aw_seq))
 | ((with_reducible apply aw_region))
 | ((with_reducible apply thn_normal))
 | ((with_reducible apply aw_skip))
 | ((with_reducible apply aw_ret))
 | ((with_reducible apply ao_nil))
 | ((with_reducible apply r_move); exact rfl; exact rfl)
 | ((with_reducible apply r_assign); exact rfl; exact rfl)
 | ((with_reducible apply r_load_pa); exact rfl; exact rfl; exact rfl; exact rfl; exact rfl)
 | ((with_reducible apply r_neq); exact rfl; exact rfl; exact rfl)
 | ((with_reducible apply r_box_a); exact rfl; exact rfl)
 | ((with_reducible apply r_store_pa); exact rfl; exact rfl; exact rfl; exact rfl; exact rfl; exact rfl)
 | ((with_reducible apply r_extract); exact rfl; exact rfl; exact rfl)
 | ((with_reducible apply r_alloc); exact rfl)
 | (((with_reducible apply aw_cond); exact rfl) <;> intro hg <;> (first | (exact absurd hg (by decide)) | ((try simp only [decide_eq_true_eq, decide_eq_false_iff_not, Bool.not_eq_true', Bool.not_eq_false', Bool.not_true, Bool.not_false, Bool.not_not, Int.not_lt, Int.not_le, Nat.not_lt, Nat.not_le, gt_iff_lt, ge_iff_le, List.cons.injEq, and_true] at hg); first | (exact absurd trivial hg) | (exfalso; omega) | (have hT : True := hg; clear hT hg) | skip)))
 )
    exact ret2 (.cons (.tmp rfl cl_c) (.cons (.tmp rfl cl_c) (.cons (.tmp rfl cl_c) .nil)))
end Go.Proofs.YtkhljpbkebnnmaaGreatDoor.Bu
