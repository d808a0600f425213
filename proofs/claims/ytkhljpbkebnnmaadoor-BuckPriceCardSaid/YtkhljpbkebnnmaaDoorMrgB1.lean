/- BB BC BD: texts laid together. -/
import Derived.Test.YtkhljpbkebnnmaaDoorMrgB0
import Derived.Test.YtkhljpbkebnnmaaDoorMrgC1
import Derived.Test.YtkhljpbkebnnmaaDoorMrgC3
/- Walks of bucking: Line. -/
namespace Go.Proofs.YtkhljpbkebnnmaaDoor.Bu
set_option linter.unusedVariables false
set_option linter.unusedSimpArgs false
open Go.RowKit Go.Proofs.YtkhljpbkebnnmaaDoor.Ev Go.Proofs.YtkhljpbkebnnmaaDoor.Ge
variable {gl : List (Nat × List CV)}

noncomputable def gainS (p : Plan) (s : Lg) (q n : Int) : Int := priceS p.classes (partS s (q * p.unit, (q + n) * p.unit)).1 (partS s (q * p.unit, (q + n) * p.unit)).2
noncomputable def rowN (p : Plan) (s : Lg) (n : Int) (k : Nat) : List Int := (List.range k).map (fun q : Nat => gainS p s q n)
noncomputable def rowL (p : Plan) (s : Lg) (u n : Int) : List Int := rowN p s n (max 0 (u - n + 1)).toNat
noncomputable def lineOf (p : Plan) (s : Lg) (u : Int) : Cu.Line := ⟨u, p.kerf, 1, p.lens, p.lens.map (rowL p s u), List.replicate u.toNat 0, List.replicate u.toNat 0⟩
noncomputable def lineS (p : Plan) (s : Lg) : Cu.Line × Int :=
  open Classical in
  if planChk p ≠ 0 then (Cu.zeroL, planChk p) else if solChk s.1 ≠ 0 then (Cu.zeroL, solChk s.1) else if defChk s.2 ≠ 0 then (Cu.zeroL, defChk s.2) else if 2000 < lengthS s.1 / p.unit then (Cu.zeroL, 9) else (lineOf p s (lengthS s.1 / p.unit), 0)
abbrev lrC (r : Cu.Line × Int) : CV := .tup [Cu.lineC r.1, I r.2]
theorem ls_plan {p : Plan} {s : Lg} (h : ¬ planChk p = 0) : lineS p s = (Cu.zeroL, planChk p) := by unfold lineS; rw [if_pos h]
theorem ls_sol {p : Plan} {s : Lg} (h : planChk p = 0) (h2 : ¬ solChk s.1 = 0) : lineS p s = (Cu.zeroL, solChk s.1) := by unfold lineS; rw [if_neg (fun hh => hh h), if_pos h2]
theorem ls_def {p : Plan} {s : Lg} (h : planChk p = 0) (h2 : solChk s.1 = 0) (h3 : ¬ defChk s.2 = 0) : lineS p s = (Cu.zeroL, defChk s.2) := by unfold lineS; rw [if_neg (fun hh => hh h), if_neg (fun hh => hh h2), if_pos h3]
theorem ls_long {p : Plan} {s : Lg} (h : planChk p = 0) (h2 : solChk s.1 = 0) (h3 : defChk s.2 = 0) (h4 : 2000 < lengthS s.1 / p.unit) : lineS p s = (Cu.zeroL, 9) := by unfold lineS; rw [if_neg (fun hh => hh h), if_neg (fun hh => hh h2), if_neg (fun hh => hh h3), if_pos h4]
theorem ls_ok {p : Plan} {s : Lg} (h : planChk p = 0) (h2 : solChk s.1 = 0) (h3 : defChk s.2 = 0) (h4 : ¬ 2000 < lengthS s.1 / p.unit) : lineS p s = (lineOf p s (lengthS s.1 / p.unit), 0) := by unfold lineS; rw [if_neg (fun hh => hh h), if_neg (fun hh => hh h2), if_neg (fun hh => hh h3), if_neg h4]
theorem length_bd (l : List Slc) : 0 ≤ lengthS l ∧ lengthS l ≤ 20000 := by
  have := pos_bd (valL_V l) (Nat.le_refl _)
  unfold lengthS; omega
theorem rowN_len (p : Plan) (s : Lg) (n : Int) (k : Nat) : (rowN p s n k).length = k := by simp [rowN]
theorem rowN_succ (p : Plan) (s : Lg) (n : Int) (k : Nat) : rowN p s n (k + 1) = rowN p s n k ++ [gainS p s k n] := by simp [rowN, List.range_succ]
theorem part_len (s : Lg) (Z : Span) (hd : defChk s.2 = 0) : (partS s Z).1.length ≤ maxLen ∧ (partS s Z).2.length ≤ maxLen := by
  have h1 := cutS_len s.1 Z
  have h2 := defCut_len s.2 Z
  have h3 := (def_z hd).1
  unfold partS maxLen
  dsimp only
  omega
abbrev nil7 : List AV := [A 0, A 0, A 0, .c (.v (.slice none 0 0)), .c (.v (.slice none 0 0)), .c (.v (.slice none 0 0)), .c (.v (.slice none 0 0))]
theorem rows_succ (p : Plan) (s : Lg) (u : Int) (j : Nat) (hj : j < p.lens.length) : (p.lens.take (j + 1)).map (rowL p s u) = (p.lens.take j).map (rowL p s u) ++ [rowL p s u p.lens[j]] := by
  rw [List.take_succ_eq_append_getElem hj, List.map_append]; rfl
set_option maxRecDepth 100000 in
set_option maxHeartbeats 16000000 in
theorem bline_con (p : Plan) (s : Lg) (hK : p.classes.length ≤ maxLen) (hl : s.1.length ≤ maxLen) (hd : s.2.length ≤ maxLen) : Con Tryd.prog gl 7 [planV p, lgV s] (lrC (lineS p s)) := by
  have c0 := pcheck_con (gl := gl) p hK
  have c1 := scheck_con (gl := gl) s.1 hl
  have c2 := dcheck_con (gl := gl) s.2 hd
  have c3 := slength_con (gl := gl) s.1 hl
  refine con_of Tryd.func7 rfl (by kernel_rfl) rfl ?_
  simp only [Tryd.ntmps7, Tryd.results7, argEnv, ofC, of1, List.map]
  by_cases h0 : planChk p = 0
  rotate_left
  · rw [ls_plan h0]
    repeat' (first
 | ((with_reducible apply r_call); exact rfl; exact rfl; exact c0; exact rfl; exact rfl)
 | ((with_reducible apply aw_seq))
 | ((with_reducible apply aw_region))
 | ((with_reducible apply thn_normal))
 | ((with_reducible apply thn_ret))
 | ((with_reducible apply aw_ret))
 | ((with_reducible apply ao_nil))
 | ((with_reducible apply r_move); exact rfl; exact rfl)
 | ((with_reducible apply r_assign); exact rfl; exact rfl)
 | ((with_reducible apply r_load_pa); exact rfl; exact rfl; exact rfl; exact rfl; exact rfl)
 | ((with_reducible apply r_neq); exact rfl; exact rfl; exact rfl)
 | ((with_reducible apply r_box_a); exact rfl; exact rfl)
 | ((with_reducible apply r_store_pa); exact rfl; exact rfl; exact rfl; exact rfl; exact rfl; exact rfl)
 | ((with_reducible apply r_build); exact rfl; exact rfl; exact rfl)
 | ((with_reducible apply r_alloc); exact rfl)
 | (((with_reducible apply aw_cond); exact rfl) <;> intro hg <;> (first | (exact absurd hg (by decide)) | ((try simp only [decide_eq_true_eq, decide_eq_false_iff_not, Bool.not_eq_true', Bool.not_eq_false', Bool.not_true, Bool.not_false, Bool.not_not, Int.not_lt, Int.not_le, Nat.not_lt, Nat.not_le, gt_iff_lt, ge_iff_le, List.cons.injEq, and_true] at hg); first | (exact absurd trivial hg) | (exfalso; omega) | (have hT : True := hg; clear hT hg) | skip)))
      )
    exact ret2 (.cons (.cell_a inferInstance rfl rfl rfl rfl (cl_cons cl_c (cl_cons cl_c (cl_cons cl_c (cl_cons cl_none (cl_cons cl_none (cl_cons cl_none (cl_cons cl_none cl_nil)))))))) (.cons (.tmp rfl cl_c) .nil))
  by_cases h1 : solChk s.1 = 0
  rotate_left
  · rw [ls_sol h0 h1]
    rw [h0] at c0
    repeat' (first
 | ((with_reducible apply r_call); exact rfl; exact rfl; (first | exact c0 | exact c1); exact rfl; exact rfl)
 | ((with_reducible apply aw_seq))
 | ((with_reducible apply aw_region))
 | ((with_reducible apply thn_normal))
 | ((with_reducible apply thn_ret))
 | ((with_reducible apply aw_skip))
 | ((with_reducible apply aw_ret))
 | ((with_reducible apply ao_nil))
 | ((with_reducible apply r_move); exact rfl; exact rfl)
 | ((with_reducible apply r_assign); exact rfl; exact rfl)
 | ((with_reducible apply r_field_p); exact rfl; exact rfl)
 | ((with_reducible apply r_load_p); exact rfl; exact rfl; exact rfl; exact rfl)
 | ((with_reducible apply r_load_pa); exact rfl; exact rfl; exact rfl; exact rfl; exact rfl)
 | ((with_reducible apply r_neq); exact rfl; exact rfl; exact rfl)
 | ((with_reducible apply r_box_a); exact rfl; exact rfl)
 | ((with_reducible apply r_store_pa); exact rfl; exact rfl; exact rfl; exact rfl; exact rfl; exact rfl)
 | ((with_reducible apply r_build); exact rfl; exact rfl; exact rfl)
 | ((with_reducible apply r_alloc); exact rfl)
 | (((with_reducible apply aw_cond); exact rfl) <;> intro hg <;> (first | (exact absurd hg (by decide)) | ((try simp only [decide_eq_true_eq, decide_eq_false_iff_not, Bool.not_eq_true', Bool.not_eq_false', Bool.not_true, Bool.not_false, Bool.not_not, Int.not_lt, Int.not_le, Nat.not_lt, Nat.not_le, gt_iff_lt, ge_iff_le, List.cons.injEq, and_true] at hg); first | (exact absurd trivial hg) | (exfalso; omega) | (have hT : True := hg; clear hT hg) | skip)))
      )
    exact ret2 (.cons (.cell_a inferInstance rfl rfl rfl rfl (cl_cons cl_c (cl_cons cl_c (cl_cons cl_c (cl_cons cl_none (cl_cons cl_none (cl_cons cl_none (cl_cons cl_none cl_nil)))))))) (.cons (.tmp rfl cl_c) .nil))
  by_cases h2 : defChk s.2 = 0
  rotate_left
  · rw [ls_def h0 h1 h2]
    rw [h0] at c0
    rw [h1] at c1
    repeat' (first
 | ((with_reducible apply r_call); exact rfl; exact rfl; (first | exact c0 | exact c1 | exact c2); exact rfl; exact rfl)
 | ((with_reducible apply aw_seq))
 | ((with_reducible apply aw_region))
 | ((with_reducible apply thn_normal))
 | ((with_reducible apply thn_ret))
 | ((with_reducible apply aw_skip))
 | ((with_reducible apply aw_ret))
 | ((with_reducible apply ao_nil))
 | ((with_reducible apply r_move); exact rfl; exact rfl)
 | ((with_reducible apply r_assign); exact rfl; exact rfl)
 | ((with_reducible apply r_field_p); exact rfl; exact rfl)
 | ((with_reducible apply r_load_p); exact rfl; exact rfl; exact rfl; exact rfl)
 | ((with_reducible apply r_load_pa); exact rfl; exact rfl; exact rfl; exact rfl; exact rfl)
 | ((with_reducible apply r_neq); exact rfl; exact rfl; exact rfl)
 | ((with_reducible apply r_box_a); exact rfl; exact rfl)
 | ((with_reducible apply r_store_pa); exact rfl; exact rfl; exact rfl; exact rfl; exact rfl; exact rfl)
 | ((with_reducible apply r_build); exact rfl; exact rfl; exact rfl)
 | ((with_reducible apply r_alloc); exact rfl)
 | (((with_reducible apply aw_cond); exact rfl) <;> intro hg <;> (first | (exact absurd hg (by decide)) | ((try simp only [decide_eq_true_eq, decide_eq_false_iff_not, Bool.not_eq_true', Bool.not_eq_false', Bool.not_true, Bool.not_false, Bool.not_not, Int.not_lt, Int.not_le, Nat.not_lt, Nat.not_le, gt_iff_lt, ge_iff_le, List.cons.injEq, and_true] at hg); first | (exact absurd trivial hg) | (exfalso; omega) | (have hT : True := hg; clear hT hg) | skip)))
      )
    exact ret2 (.cons (.cell_a inferInstance rfl rfl rfl rfl (cl_cons cl_c (cl_cons cl_c (cl_cons cl_c (cl_cons cl_none (cl_cons cl_none (cl_cons cl_none (cl_cons cl_none cl_nil)))))))) (.cons (.tmp rfl cl_c) .nil))
  have pk := plan_ok h0
  have hlb := length_bd s.1
  have hu := pk.unit
  have hq : (lengthS s.1).tdiv p.unit = lengthS s.1 / p.unit := Int.tdiv_eq_ediv_of_nonneg hlb.1
  have hu0 : 0 ≤ lengthS s.1 / p.unit := Int.ediv_nonneg hlb.1 (by omega)
  have hu1 : lengthS s.1 / p.unit ≤ 20000 := Int.le_trans (Int.ediv_le_self _ hlb.1) hlb.2
  have hls := ls_long (p := p) (s := s) h0 h1 h2
  have hlo := ls_ok (p := p) (s := s) h0 h1 h2
  rw [h0] at c0
  rw [h1] at c1
  rw [h2] at c2
  obtain ⟨u, eu⟩ : ∃ u, u = lengthS s.1 / p.unit := ⟨_, rfl⟩
  rw [← eu] at hq hu0 hu1 hls hlo
  obtain ⟨L, eL⟩ : ∃ L, L = lengthS s.1 := ⟨_, rfl⟩
  rw [← eL] at c3 hq
  have hf : fits (L.tdiv p.unit) := by rw [hq]; unfold fits; omega
  by_cases hlong : 2000 < u
  · rw [hls hlong]
    repeat' (first
 | ((with_reducible apply r_call); exact rfl; exact rfl; (first | exact c0 | exact c1 | exact c2 | exact c3); exact rfl; exact rfl)
 | ((with_reducible apply r_quo); exact rfl; exact rfl; exact (by omega); exact hf; exact rfl; rw [hq])
 | ((with_reducible apply aw_seq))
 | ((with_reducible apply aw_region))
 | ((with_reducible apply thn_normal))
 | ((with_reducible apply thn_ret))
 | ((with_reducible apply aw_skip))
 | ((with_reducible apply aw_ret))
 | ((with_reducible apply ao_nil))
 | ((with_reducible apply r_move); exact rfl; exact rfl)
 | ((with_reducible apply r_assign); exact rfl; exact rfl)
 | ((with_reducible apply r_field_p); exact rfl; exact rfl)
 | ((with_reducible apply r_load_p); exact rfl; exact rfl; exact rfl; exact rfl)
 | ((with_reducible apply r_load_pa); exact rfl; exact rfl; exact rfl; exact rfl; exact rfl)
 | ((with_reducible apply r_gtr); exact rfl; exact rfl; exact rfl)
 | ((with_reducible apply r_neq); exact rfl; exact rfl; exact rfl)
 | ((with_reducible apply r_box_a); exact rfl; exact rfl)
 | ((with_reducible apply r_store_pa); exact rfl; exact rfl; exact rfl; exact rfl; exact rfl; exact rfl)
 | ((with_reducible apply r_build); exact rfl; exact rfl; exact rfl)
 | ((with_reducible apply r_alloc); exact rfl)
 | (((with_reducible apply aw_cond); exact rfl) <;> intro hg <;> (first | (exact absurd hg (by decide)) | ((try simp only [decide_eq_true_eq, decide_eq_false_iff_not, Bool.not_eq_true', Bool.not_eq_false', Bool.not_true, Bool.not_false, Bool.not_not, Int.not_lt, Int.not_le, Nat.not_lt, Nat.not_le, gt_iff_lt, ge_iff_le, List.cons.injEq, and_true] at hg); first | (exact absurd trivial hg) | (exfalso; omega) | (have hT : True := hg; clear hT hg) | skip)))
 | (refine aw_drawq ?_ ?_; (kernel_rfl))
 | ((with_reducible apply ds_nil))
      )
    exact ret2 (.cons (.cell_a inferInstance rfl rfl rfl rfl (cl_cons cl_c (cl_cons cl_c (cl_cons cl_c (cl_cons cl_none (cl_cons cl_none (cl_cons cl_none (cl_cons cl_none cl_nil)))))))) (.cons (.tmp rfl cl_c) .nil))
  rw [hlo hlong]
  have hln := pk.len
  have c4 := Cu.clone_con (gl := gl) p.lens (by omega)
  repeat' (first
 | (refine aw_drawA 7 ?_ rfl aop_alloc rfl ?_; (kernel_rfl); (simp only [List.take_succ_cons, List.take_zero, List.drop_succ_cons, List.drop_zero]))
 | ((with_reducible apply ds_nilA); exact rfl)
 | ((with_reducible apply r_call); exact rfl; exact rfl; (first | exact c0 | exact c1 | exact c2 | exact c3 | exact c4); exact rfl; exact rfl)
 | ((with_reducible apply r_quo); exact rfl; exact rfl; exact (by omega); exact hf; exact rfl; rw [hq])
 | ((with_reducible apply aw_seq))
 | ((with_reducible apply aw_region))
 | ((with_reducible apply aw_block))
 | ((with_reducible apply thn_normal))
 | ((with_reducible apply aw_skip))
 | ((with_reducible apply ao_nil))
 | ((with_reducible apply r_move); exact rfl; exact rfl)
 | ((with_reducible apply r_assign); exact rfl; exact rfl)
 | ((with_reducible apply r_field_p); exact rfl; exact rfl)
 | ((with_reducible apply r_load_p); exact rfl; exact rfl; exact rfl; exact rfl)
 | ((with_reducible apply r_load_pa); exact rfl; exact rfl; exact rfl; exact rfl; exact rfl)
 | ((with_reducible apply r_gtr); exact rfl; exact rfl; exact rfl)
 | ((with_reducible apply r_neq); exact rfl; exact rfl; exact rfl)
 | ((with_reducible apply r_box_a); exact rfl; exact rfl)
 | ((with_reducible apply r_len_f); exact rfl; exact inferInstance; exact rfl)
 | ((with_reducible apply r_store_pa); exact rfl; exact rfl; exact rfl; exact rfl; exact rfl; exact rfl)
 | ((with_reducible apply r_build); exact rfl; exact rfl; exact rfl)
 | ((with_reducible apply r_alloc); exact rfl)
 | (((with_reducible apply aw_cond); exact rfl) <;> intro hg <;> (first | (exact absurd hg (by decide)) | ((try simp only [decide_eq_true_eq, decide_eq_false_iff_not, Bool.not_eq_true', Bool.not_eq_false', Bool.not_true, Bool.not_false, Bool.not_not, Int.not_lt, Int.not_le, Nat.not_lt, Nat.not_le, gt_iff_lt, ge_iff_le, List.cons.injEq, and_true] at hg); first | (exact absurd trivial hg) | (exfalso; omega) | (have hT : True := hg; clear hT hg) | skip)))
 | (refine aw_drawq ?_ ?_; (kernel_rfl))
 | ((with_reducible apply ds_nil))
    )
  refine aw_nilcell 3 4 23 1 rfl rfl rfl rfl ?_
  refine aw_loopG (G := Nat) (fun (j : Nat) => j ≤ p.lens.length) (fun (j : Nat) => p.lens.length - j) (fun (j : Nat) => [(2, .ptr 0 0), (3, .ptr 1 0), (4, .ptr 2 0), (9, A u), (10, .ptr 3 0), (53, .c (LI p.lens)), (54, A p.lens.length), (55, A j)]) (fun (j : Nat) => [(0, some (.cells 41 (planA p))), (1, some (.cells 43 [.c (LL s.1), .c (LD s.2)])), (2, some (.cells 37 nil7)), (3, some (.cells 37 [A u, A p.kerf, A 1, .c (Cu.LI p.lens), .vec 4 j, .c (.v (.slice none 0 0)), .c (.v (.slice none 0 0))])), (4, some (.vec 23 1 (((p.lens.take j).map (rowL p s u)).flatMap Cu.rowC)))]) 5 0 ?_ (by refine weak_mk rfl ?_ ?_ <;> repeat (first | exact envW_nil | exact heapW_nil | refine envW_cons rfl rfl ?_ | refine heapW_cons rfl rfl rfl ?_)) rfl ?_
  · exact Nat.zero_le _
  rintro j hI
  try dsimp only at hI
  try dsimp only
  have hrl : ((p.lens.take j).map (rowL p s u)).length = j := by simp; omega
  by_cases hjl : j < p.lens.length
  · have hn := pk.one j hjl
    have hrs := rows_succ p s u j hjl
    obtain ⟨n, en⟩ : ∃ n, n = p.lens[j] := ⟨_, rfl⟩
    rw [← en] at hn hrs
    repeat' (first
 | (rw [← en])
 | ((with_reducible apply aw_seq))
 | ((with_reducible apply aw_region))
 | ((with_reducible apply aw_block))
 | ((with_reducible apply thn_normal))
 | ((with_reducible apply aw_skip))
 | ((with_reducible apply ao_nil))
 | ((with_reducible apply r_assign); exact rfl; exact rfl)
 | ((with_reducible apply r_lss); exact rfl; exact rfl; exact rfl)
 | ((with_reducible apply r_index_f); exact rfl; exact inferInstance; exact rfl; exact rfl; (first | assumption | omega); exact rfl)
 | ((with_reducible apply r_load_f0); exact rfl; exact inferInstance; exact List.getElem?_eq_getElem (by first | assumption | omega); exact rfl; exact rfl)
 | (((with_reducible apply aw_cond); exact rfl) <;> intro hg <;> (first | (exact absurd hg (by decide)) | ((try simp only [decide_eq_true_eq, decide_eq_false_iff_not, Bool.not_eq_true', Bool.not_eq_false', Bool.not_true, Bool.not_false, Bool.not_not, Int.not_lt, Int.not_le, Nat.not_lt, Nat.not_le, gt_iff_lt, ge_iff_le, List.cons.injEq, and_true] at hg); first | (exact absurd trivial hg) | (exfalso; omega) | (have hT : True := hg; clear hT hg) | skip)))
      )
    refine aw_nilvec 13 3 1 rfl rfl ?_
    refine aw_loopG (G := Nat) (fun (k : Nat) => (k = 0 ∨ (k : Int) + n ≤ u + 1)) (fun (k : Nat) => (u + 1 - k).toNat) (fun (k : Nat) => [(2, .ptr 0 0), (3, .ptr 1 0), (4, .ptr 2 0), (9, A u), (10, .ptr 3 0), (53, .c (LI p.lens)), (54, A p.lens.length), (55, A j), (12, A n), (13, .vec 5 k), (14, A k)]) (fun (k : Nat) => [(0, some (.cells 41 (planA p))), (1, some (.cells 43 [.c (LL s.1), .c (LD s.2)])), (2, some (.cells 37 nil7)), (3, some (.cells 37 [A u, A p.kerf, A 1, .c (Cu.LI p.lens), .vec 4 j, .c (.v (.slice none 0 0)), .c (.v (.slice none 0 0))])), (4, some (.vec 23 1 (((p.lens.take j).map (rowL p s u)).flatMap Cu.rowC))), (5, some (.vec 3 1 ((rowN p s n k).flatMap Cu.inC)))]) 6 0 ?_ (by refine weak_mk rfl ?_ ?_ <;> repeat (first | exact envW_nil | exact heapW_nil | refine envW_cons rfl rfl ?_ | refine heapW_cons rfl rfl rfl ?_)) rfl ?_
    · exact .inl rfl
    rintro k hI
    try dsimp only at hI
    try dsimp only
    by_cases hk : (k : Int) + n ≤ u
    · have cp := part_con (gl := gl) p s k n (by omega) (by omega) hu hl h2
      obtain ⟨g1, g2⟩ := part_len s ((k : Int) * p.unit, ((k : Int) + n) * p.unit) h2
      have cpr := price_con (gl := gl) p.classes (partS s ((k : Int) * p.unit, ((k : Int) + n) * p.unit)).1 (partS s ((k : Int) * p.unit, ((k : Int) + n) * p.unit)).2 hK g1 g2
      have hgn := rowN_succ p s n k
      unfold gainS at hgn
      generalize priceS p.classes (partS s ((k : Int) * p.unit, ((k : Int) + n) * p.unit)).1 (partS s ((k : Int) * p.unit, ((k : Int) + n) * p.unit)).2 = g at cpr hgn
      repeat' (first
 | ((with_reducible apply r_call); exact rfl; exact rfl; (first | exact cp | exact cpr); exact rfl; exact rfl)
 | ((with_reducible apply (r_push (enc := Cu.inC) (x0 := g))); exact rfl; exact rfl; exact inferInstance; exact (rowN_len _ _ _ _); exact rfl; exact rfl; exact rfl; exact (by omega); exact (by omega); exact rfl)
 | ((with_reducible apply aw_seq))
 | ((with_reducible apply aw_region))
 | ((with_reducible apply aw_block))
 | ((with_reducible apply thn_normal))
 | ((with_reducible apply inb_normal))
 | ((with_reducible apply aw_skip))
 | ((with_reducible apply ao_nil))
 | ((with_reducible apply r_move); exact rfl; exact rfl)
 | ((with_reducible apply r_assign); exact rfl; exact rfl)
 | ((with_reducible apply r_field_p); exact rfl; exact rfl)
 | ((with_reducible apply r_load_p); exact rfl; exact rfl; exact rfl; exact rfl)
 | ((with_reducible apply r_load_pa); exact rfl; exact rfl; exact rfl; exact rfl; exact rfl)
 | ((with_reducible apply r_leq); exact rfl; exact rfl; exact rfl)
 | ((with_reducible apply r_add); exact rfl; exact rfl; exact (by first | assumption | (unfold fits; omega)); exact rfl)
 | ((with_reducible apply r_store_pa); exact rfl; exact rfl; exact rfl; exact rfl; exact rfl; exact rfl)
 | ((with_reducible apply r_alloc); exact rfl)
 | (((with_reducible apply aw_cond); exact rfl) <;> intro hg <;> (first | (exact absurd hg (by decide)) | ((try simp only [decide_eq_true_eq, decide_eq_false_iff_not, Bool.not_eq_true', Bool.not_eq_false', Bool.not_true, Bool.not_false, Bool.not_not, Int.not_lt, Int.not_le, Nat.not_lt, Nat.not_le, gt_iff_lt, ge_iff_le, List.cons.injEq, and_true] at hg); first | (exact absurd trivial hg) | (exfalso; omega) | (have hT : True := hg; clear hT hg) | skip)))
 | ((with_reducible apply r_lit); exact rfl; exact rfl; exact rfl; exact rfl; exact rfl; exact rfl; exact rfl)
        )
      rw [← hgn]
      refine ⟨k + 1, ?_, ?_, by refine weak_mk rfl ?_ ?_ <;> repeat (first | exact envW_nil | exact heapW_nil | refine envW_cons rfl rfl ?_ | refine heapW_cons rfl rfl rfl ?_)⟩
      · show (u + 1 - ((k + 1 : Nat) : Int)).toNat < (u + 1 - k).toNat; omega
      · exact .inr (by show ((k + 1 : Nat) : Int) + n ≤ u + 1; omega)
    · have hrow : rowN p s n k = rowL p s u n := by unfold rowL; congr 1; omega
      repeat' (first
 | ((with_reducible apply (r_freeze 83)); exact rfl; exact rfl; exact (by rw [flat_len EncL.len, rowN_len]))
 | ((with_reducible apply r_litq); exact rfl; exact rfl; exact rfl; exact rfl; exact rfl; exact rfl; exact rfl)
 | ((with_reducible apply (r_appendl (enc := Cu.rowC) (l2 := [rowN p s n k]))); exact rfl; exact rfl; exact inferInstance; exact hrl; exact rfl; exact (by show j + 1 < _; omega); exact (by show (j + 1) * _ ≤ _; omega); exact rfl)
 | ((with_reducible apply aw_seq))
 | ((with_reducible apply aw_region))
 | ((with_reducible apply thn_normal))
 | ((with_reducible apply thn_exit))
 | ((with_reducible apply inb_normal))
 | ((with_reducible apply inb_exit))
 | ((with_reducible apply aw_exit))
 | ((with_reducible apply ao_nil))
 | ((with_reducible apply r_move); exact rfl; exact rfl)
 | ((with_reducible apply r_field_p); exact rfl; exact rfl)
 | ((with_reducible apply r_load_p); exact rfl; exact rfl; exact rfl; exact rfl)
 | ((with_reducible apply r_leq); exact rfl; exact rfl; exact rfl)
 | ((with_reducible apply r_add); exact rfl; exact rfl; exact (by first | assumption | (unfold fits; omega)); exact rfl)
 | ((with_reducible apply r_store_p); exact rfl; exact rfl; exact rfl; exact rfl; exact rfl; exact rfl)
 | (((with_reducible apply aw_cond); exact rfl) <;> intro hg <;> (first | (exact absurd hg (by decide)) | ((try simp only [decide_eq_true_eq, decide_eq_false_iff_not, Bool.not_eq_true', Bool.not_eq_false', Bool.not_true, Bool.not_false, Bool.not_not, Int.not_lt, Int.not_le, Nat.not_lt, Nat.not_le, gt_iff_lt, ge_iff_le, List.cons.injEq, and_true] at hg); first | (exact absurd trivial hg) | (exfalso; omega) | (have hT : True := hg; clear hT hg) | skip)))
        )
      rw [hrow, ← hrs]
      refine ⟨j + 1, ?_, ?_, by refine weak_mk rfl ?_ ?_ <;> repeat (first | exact envW_nil | exact heapW_nil | refine envW_cons rfl rfl ?_ | refine heapW_cons rfl rfl rfl ?_)⟩
      · show _ - (j + 1) < _ - j; omega
      · show j + 1 ≤ _; omega
  · obtain rfl : j = p.lens.length := by omega
    rw [List.take_length] at hrl ⊢
    repeat' (first
 | ((with_reducible apply r_make (enc := Cu.inC) (0 : Int) u.toNat); exact inferInstance; exact rfl; exact rfl; exact rfl; exact (Int.toNat_of_nonneg hu0).symm; exact (Int.toNat_of_nonneg hu0).symm; omega; omega; exact rfl)
 | ((with_reducible apply aw_seq))
 | ((with_reducible apply aw_region))
 | ((with_reducible apply thn_normal))
 | ((with_reducible apply thn_exit))
 | ((with_reducible apply inb_exit))
 | ((with_reducible apply aw_exit))
 | ((with_reducible apply aw_ret))
 | ((with_reducible apply ao_nil))
 | ((with_reducible apply r_move); exact rfl; exact rfl)
 | ((with_reducible apply r_assign); exact rfl; exact rfl)
 | ((with_reducible apply r_field_p); exact rfl; exact rfl)
 | ((with_reducible apply r_load_pa); exact rfl; exact rfl; exact rfl; exact rfl; exact rfl)
 | ((with_reducible apply r_lss); exact rfl; exact rfl; exact rfl)
 | ((with_reducible apply r_store_p); exact rfl; exact rfl; exact rfl; exact rfl; exact rfl; exact rfl)
 | ((with_reducible apply r_store_pa); exact rfl; exact rfl; exact rfl; exact rfl; exact rfl; exact rfl)
 | (((with_reducible apply aw_cond); exact rfl) <;> intro hg <;> (first | (exact absurd hg (by decide)) | ((try simp only [decide_eq_true_eq, decide_eq_false_iff_not, Bool.not_eq_true', Bool.not_eq_false', Bool.not_true, Bool.not_false, Bool.not_not, Int.not_lt, Int.not_le, Nat.not_lt, Nat.not_le, gt_iff_lt, ge_iff_le, List.cons.injEq, and_true] at hg); first | (exact absurd trivial hg) | (exfalso; omega) | (have hT : True := hg; clear hT hg) | skip)))
      )
    exact ret2 (.cons (.cell_a inferInstance rfl rfl rfl rfl (cl_cons cl_c (cl_cons cl_c (cl_cons cl_c (cl_cons cl_c (cl_cons (cl_vec rfl ((flat_len EncL.len _).trans (congrArg (· * 1) hrl))) (cl_cons (cl_vec rfl (by rw [flat_len EncL.len]; show (List.replicate u.toNat (0 : Int)).length * 1 = _; rw [List.length_replicate])) (cl_cons (cl_vec rfl (by rw [flat_len EncL.len]; show (List.replicate u.toNat (0 : Int)).length * 1 = _; rw [List.length_replicate])) cl_nil)))))))) (.cons (.tmp rfl cl_c) .nil))
end Go.Proofs.YtkhljpbkebnnmaaDoor.Bu
/- Walks of bucking: Best, Logs, sum, light. -/
namespace Go.Proofs.YtkhljpbkebnnmaaDoor.Bu
set_option linter.unusedVariables false
set_option linter.unusedSimpArgs false
open Go.RowKit Go.Proofs.YtkhljpbkebnnmaaDoor.Ev Go.Proofs.YtkhljpbkebnnmaaDoor.Ge
variable {gl : List (Nat × List CV)}

theorem priceS_bd (K : List Kl) (l : List Slc) (d : List Dfc) : 0 ≤ priceS K l d ∧ priceS K l d ≤ 700000000 := by
  rcases of_cases K l d with h | ⟨i, hi, hk, h, _, _⟩
  · rw [priceS_none h]; decide
  · rw [priceS_some hi h]
    have hp := price_bd (kl_ok hk K[i] (List.getElem_mem _))
    have hm := mulp_bd hp (volS_bd l)
    omega
theorem rowL_len (p : Plan) (s : Lg) (u n : Int) : (rowL p s u n).length = (max 0 (u - n + 1)).toNat := rowN_len ..
theorem rowL_get (p : Plan) (s : Lg) (u n : Int) (k : Nat) (h : k < (rowL p s u n).length) : (rowL p s u n)[k] = gainS p s k n := by simp [rowL, rowN]
theorem rowL_small (p : Plan) (s : Lg) (u n : Int) : Cu.smallL (rowL p s u n) = true := by
  unfold Cu.smallL
  refine all_of (fun i hi => ?_)
  rw [rowL_get]
  have := priceS_bd p.classes (partS s ((i : Int) * p.unit, ((i : Int) + n) * p.unit)).1 (partS s ((i : Int) * p.unit, ((i : Int) + n) * p.unit)).2
  unfold Cu.smallN gainS
  rw [decide_eq_true (by omega), decide_eq_true (by omega)]; rfl
theorem zeros_small (n : Nat) : Cu.smallL (List.replicate n 0) = true := by
  unfold Cu.smallL
  refine all_of (fun i hi => ?_)
  rw [List.getElem_replicate]; rfl
theorem line_chk {p : Plan} (pk : PlanOk p) (s : Lg) {u : Int} (hu : 0 ≤ u ∧ u ≤ 2000) : Cu.chk (lineOf p s u) = 0 := by
  have hk := pk.kerf
  have hm : Cu.measS (lineOf p s u) = 0 := by
    unfold Cu.measS
    rw [if_neg (by unfold Cu.headBad lineOf; dsimp only; omega), if_neg (by unfold lineOf; dsimp only; have := pk.len; omega), if_pos]
    show p.lens.all Cu.sizeOk = true
    refine all_of (fun i hi => ?_)
    have := pk.one i hi
    unfold Cu.sizeOk
    rw [decide_eq_true this.1, decide_eq_true this.2]; rfl
  unfold Cu.chk
  rw [if_neg (fun hh => hh hm), if_pos]
  · rw [if_pos]
    show ((p.lens.map (rowL p s u)).all Cu.smallL && Cu.smallL (List.replicate u.toNat 0) && Cu.smallL (List.replicate u.toNat 0)) = true
    rw [zeros_small, Bool.and_true, Bool.and_true]
    refine all_of (fun i hi => ?_)
    rw [List.getElem_map]; exact rowL_small ..
  · refine ⟨by simp [lineOf], by show ((List.replicate u.toNat (0 : Int)).length : Int) = u; simp; omega, by show ((List.replicate u.toNat (0 : Int)).length : Int) = u; simp; omega, fun i hi h1 h2 => ?_⟩
    exact ((congrArg (fun r : List Int => (r.length : Int)) (List.getElem_map (rowL p s u) (l := p.lens) (i := i) (h := h1))).trans (by show ((rowL p s u (p.lens[i]'h2)).length : Int) = max 0 (u - (p.lens[i]'h2) + 1); rw [rowL_len]; omega))
/-- The line of a plan and a stem that are sound. -/
structure LnOk (p : Plan) (s : Lg) (u : Int) : Prop where
  pk : PlanOk p
  sol : solChk s.1 = 0
  dfs : defChk s.2 = 0
  ub : 0 ≤ u ∧ u ≤ 2000
  ue : u = lengthS s.1 / p.unit
theorem line_cases (p : Plan) (s : Lg) : (∃ e, ¬ e = 0 ∧ lineS p s = (Cu.zeroL, e)) ∨ ∃ u, LnOk p s u ∧ lineS p s = (lineOf p s u, 0) := by
  by_cases h0 : planChk p = 0
  · by_cases h1 : solChk s.1 = 0
    · by_cases h2 : defChk s.2 = 0
      · have pk := plan_ok h0
        have hlb := length_bd s.1
        have hu := pk.unit
        have hu0 : 0 ≤ lengthS s.1 / p.unit := Int.ediv_nonneg hlb.1 (by omega)
        by_cases h3 : 2000 < lengthS s.1 / p.unit
        · exact .inl ⟨9, by decide, ls_long h0 h1 h2 h3⟩
        · exact .inr ⟨_, ⟨pk, h1, h2, ⟨hu0, by omega⟩, rfl⟩, ls_ok h0 h1 h2 h3⟩
      · exact .inl ⟨_, h2, ls_def h0 h1 h2⟩
    · exact .inl ⟨_, h1, ls_sol h0 h1⟩
  · exact .inl ⟨_, h0, ls_plan h0⟩
noncomputable def bbS (p : Plan) (s : Lg) : List Cu.Piece × Int × Int := if (lineS p s).2 ≠ 0 then ([], 0, (lineS p s).2) else Cu.bestS (lineS p s).1
theorem bb_err {p : Plan} {s : Lg} {e : Int} (he : ¬ e = 0) (h : lineS p s = (Cu.zeroL, e)) : bbS p s = ([], 0, e) := by unfold bbS; rw [h, if_pos he]
theorem bb_ok {p : Plan} {s : Lg} {u : Int} (h : lineS p s = (lineOf p s u, 0)) : bbS p s = Cu.bestS (lineOf p s u) := by unfold bbS; rw [h, if_neg (fun hh => hh rfl)]
set_option maxRecDepth 100000 in
set_option maxHeartbeats 8000000 in
theorem bbest_con (p : Plan) (s : Lg) (hK : p.classes.length ≤ maxLen) (hl : s.1.length ≤ maxLen) (hd : s.2.length ≤ maxLen) : Con Tryd.prog Cu.G 14 [planV p, lgV s] (Cu.bestC (bbS p s)) := by
  have c0 := bline_con (gl := Cu.G) p s hK hl hd
  refine con_of Tryd.func14 rfl (by kernel_rfl) rfl ?_
  simp only [Tryd.ntmps14, Tryd.results14, argEnv, ofC, of1, List.map]
  rcases line_cases p s with ⟨e, he, h⟩ | ⟨u, ok, h⟩
  · rw [bb_err he h]
    rw [h] at c0
    change Con _ _ _ _ (.tup [.agg [I 0, I 0, I 0, .lst 1 [], .lst 1 [], .lst 1 [], .lst 1 []], I e]) at c0
    repeat' (first
 | ((with_reducible apply r_call); exact rfl; exact rfl; exact c0; exact rfl; exact rfl)
 | ((with_reducible apply aw_seq))
 | ((with_reducible apply aw_region))
 | ((with_reducible apply thn_normal))
 | ((with_reducible apply thn_ret))
 | ((with_reducible apply aw_ret))
 | ((with_reducible apply ao_nil))
 | ((with_reducible apply r_move); exact rfl; exact rfl)
 | ((with_reducible apply r_assign); exact rfl; exact rfl)
 | ((with_reducible apply r_load_pa); exact rfl; exact rfl; exact rfl; exact rfl; exact rfl)
 | ((with_reducible apply r_neq); exact rfl; exact rfl; exact rfl)
 | ((with_reducible apply r_box_a); exact rfl; exact rfl)
 | ((with_reducible apply r_store_pa); exact rfl; exact rfl; exact rfl; exact rfl; exact rfl; exact rfl)
 | ((with_reducible apply r_extract); exact rfl; exact rfl; exact rfl)
 | ((with_reducible apply r_alloc); exact rfl)
 | (((with_reducible apply aw_cond); exact rfl) <;> intro hg <;> (first | (exact absurd hg (by decide)) | ((try simp only [decide_eq_true_eq, decide_eq_false_iff_not, Bool.not_eq_true', Bool.not_eq_false', Bool.not_true, Bool.not_false, Bool.not_not, Int.not_lt, Int.not_le, Nat.not_lt, Nat.not_le, gt_iff_lt, ge_iff_le, List.cons.injEq, and_true] at hg); first | (exact absurd trivial hg) | (exfalso; omega) | (have hT : True := hg; clear hT hg) | skip)))
      )
    exact ret2 (.cons (.tmp rfl cl_none) (.cons (.tmp rfl cl_c) (.cons (.tmp rfl cl_c) .nil)))
  · rw [bb_ok h]
    rw [h] at c0
    have c1 := Cu.best_con (lineOf p s u)
    rcases hb : Cu.bestS (lineOf p s u) with ⟨r1, r2, r3⟩
    rw [hb] at c1
    change Con _ _ _ _ (.tup [Cu.LP r1, I r2, I r3]) at c1
    change Con _ _ _ _ (.tup [.agg (Cu.lineL (lineOf p s u)), I 0]) at c0
    repeat' (first
 | ((with_reducible apply r_call); exact rfl; exact rfl; (first | exact c0 | exact c1); exact rfl; exact rfl)
 | ((with_reducible apply aw_seq))
 | ((with_reducible apply aw_region))
 | ((with_reducible apply thn_normal))
 | ((with_reducible apply aw_skip))
 | ((with_reducible apply aw_ret))
 | ((with_reducible apply ao_nil))
 | ((with_reducible apply r_move); exact rfl; exact rfl)
 | ((with_reducible apply r_assign); exact rfl; exact rfl)
 | ((with_reducible apply r_load_pa); exact rfl; exact rfl; exact rfl; exact rfl; exact rfl)
 | ((with_reducible apply r_neq); exact rfl; exact rfl; exact rfl)
 | ((with_reducible apply r_box_a); exact rfl; exact rfl)
 | ((with_reducible apply r_store_pa); exact rfl; exact rfl; exact rfl; exact rfl; exact rfl; exact rfl)
 | ((with_reducible apply r_extract); exact rfl; exact rfl; exact rfl)
 | ((with_reducible apply r_alloc); exact rfl)
 | (((with_reducible apply aw_cond); exact rfl) <;> intro hg <;> (first | (exact absurd hg (by decide)) | ((try simp only [decide_eq_true_eq, decide_eq_false_iff_not, Bool.not_eq_true', Bool.not_eq_false', Bool.not_true, Bool.not_false, Bool.not_not, Int.not_lt, Int.not_le, Nat.not_lt, Nat.not_le, gt_iff_lt, ge_iff_le, List.cons.injEq, and_true] at hg); first | (exact absurd trivial hg) | (exfalso; omega) | (have hT : True := hg; clear hT hg) | skip)))
      )
    exact ret2 (.cons (.tmp rfl cl_c) (.cons (.tmp rfl cl_c) (.cons (.tmp rfl cl_c) .nil)))
end Go.Proofs.YtkhljpbkebnnmaaDoor.Bu
/- Walks of bucking: Logs, sum. -/
namespace Go.Proofs.YtkhljpbkebnnmaaDoor.Bu
set_option linter.unusedVariables false
set_option linter.unusedSimpArgs false
open Go.RowKit Go.Proofs.YtkhljpbkebnnmaaDoor.Ev Go.Proofs.YtkhljpbkebnnmaaDoor.Ge
variable {gl : List (Nat × List CV)}

/-- The log that a piece is. -/
noncomputable def logOf (p : Plan) (s : Lg) (x : Cu.Piece) : Lg := partS s (x.2 * p.unit, (x.2 + p.lens.getD x.1.toNat 0) * p.unit)
noncomputable def logsS (p : Plan) (s : Lg) (l : List Cu.Piece) : List Lg × Int :=
  if (lineS p s).2 ≠ 0 then ([], (lineS p s).2) else if (Cu.cutsS (lineS p s).1 l).1 ≠ 0 then ([], (Cu.cutsS (lineS p s).1 l).1) else (l.map (logOf p s), 0)
abbrev lgsC (r : List Lg × Int) : CV := .tup [LStem r.1, I r.2]
theorem lg_err {p : Plan} {s : Lg} {l : List Cu.Piece} {e : Int} (he : ¬ e = 0) (h : lineS p s = (Cu.zeroL, e)) : logsS p s l = ([], e) := by unfold logsS; rw [h, if_pos he]
theorem lg_cut {p : Plan} {s : Lg} {l : List Cu.Piece} {u e : Int} {D C : List Span} (h : lineS p s = (lineOf p s u, 0)) (hc : Cu.cutsS (lineOf p s u) l = (e, D, C)) (he : ¬ e = 0) : logsS p s l = ([], e) := by
  unfold logsS; rw [h, if_neg (fun hh => hh rfl), hc, if_pos he]
theorem lg_ok {p : Plan} {s : Lg} {l : List Cu.Piece} {u : Int} {D C : List Span} (h : lineS p s = (lineOf p s u, 0)) (hc : Cu.cutsS (lineOf p s u) l = (0, D, C)) : logsS p s l = (l.map (logOf p s), 0) := by
  unfold logsS; rw [h, if_neg (fun hh => hh rfl), hc, if_neg (fun hh => hh rfl)]
theorem piece_in {p : Plan} {s : Lg} {u : Int} (ok : LnOk p s u) {l : List Cu.Piece} {D C : List Span} (hc : Cu.cutsS (lineOf p s u) l = (0, D, C)) : ∀ j (h : j < l.length), 0 ≤ l[j].1 ∧ ∃ hk : l[j].1.toNat < p.lens.length, p.lens.getD l[j].1.toNat 0 = p.lens[l[j].1.toNat] ∧ 0 ≤ l[j].2 ∧ l[j].2 + p.lens[l[j].1.toNat] ≤ u := by
  intro j hj
  obtain ⟨h1, h2⟩ := Cu.cutsS_ok hc
  have v := Cu.valid_of h1
  obtain ⟨_, _, _, h3⟩ := Cu.cuts_ok v h2
  obtain ⟨e, he⟩ := h3 _ (List.getElem_mem hj)
  obtain ⟨q1, q2, q3, q4, _⟩ := Cu.perm0 (l := lineOf p s u) (e := e) (s := l[j].1) (p := l[j].2) he
  have q2' : l[j].1 < (p.lens.length : Int) := q2
  have hk : l[j].1.toNat < p.lens.length := by omega
  have hg : p.lens.getD l[j].1.toNat 0 = p.lens[l[j].1.toNat] := by simp [List.getD_eq_getElem?_getD, hk]
  have q4' : l[j].2 ≤ u - p.lens.getD l[j].1.toNat 0 := q4
  rw [hg] at q4'
  exact ⟨q1, hk, hg, q3, by omega⟩
theorem tot_nn' {n : Int} {ss : List Span} (h : Cu.AllSp n ss) : 0 ≤ Cu.tot ss := by
  have := Cu.tot_nn h; omega
theorem cut_few {p : Plan} {s : Lg} {u : Int} (ok : LnOk p s u) {l : List Cu.Piece} {D C : List Span} (hc : Cu.cutsS (lineOf p s u) l = (0, D, C)) : l.length ≤ 2000 := by
  obtain ⟨h1, h2⟩ := Cu.cutsS_ok hc
  have v := Cu.valid_of h1
  obtain ⟨a1, a2, h3, _⟩ := Cu.cuts_ok v h2
  have t1 := tot_nn' a1
  have t2 := tot_nn' a2
  have := ok.ub
  have h3' : Cu.tot D + Cu.tot C + (l.length : Int) ≤ u := h3
  omega
set_option maxRecDepth 100000 in
set_option maxHeartbeats 16000000 in
theorem blogs_con (p : Plan) (s : Lg) (l : List Cu.Piece) (hK : p.classes.length ≤ maxLen) (hl : s.1.length ≤ maxLen) (hd : s.2.length ≤ maxLen) (hp : l.length ≤ 100000) : Con Tryd.prog gl 10 [planV p, lgV s, Cu.LP l] (lgsC (logsS p s l)) := by
  have c0 := bline_con (gl := gl) p s hK hl hd
  refine con_of Tryd.func10 rfl (by kernel_rfl) rfl ?_
  simp only [Tryd.ntmps10, Tryd.results10, argEnv, ofC, of1, List.map]
  rcases line_cases p s with ⟨e, he, h⟩ | ⟨u, ok, h⟩
  · rw [lg_err he h]
    rw [h] at c0
    change Con _ _ _ _ (.tup [.agg [I 0, I 0, I 0, .lst 1 [], .lst 1 [], .lst 1 [], .lst 1 []], I e]) at c0
    repeat' (first
 | ((with_reducible apply r_call); exact rfl; exact rfl; exact c0; exact rfl; exact rfl)
 | ((with_reducible apply aw_seq))
 | ((with_reducible apply aw_region))
 | ((with_reducible apply thn_normal))
 | ((with_reducible apply thn_ret))
 | ((with_reducible apply aw_ret))
 | ((with_reducible apply ao_nil))
 | ((with_reducible apply r_move); exact rfl; exact rfl)
 | ((with_reducible apply r_assign); exact rfl; exact rfl)
 | ((with_reducible apply r_load_pa); exact rfl; exact rfl; exact rfl; exact rfl; exact rfl)
 | ((with_reducible apply r_neq); exact rfl; exact rfl; exact rfl)
 | ((with_reducible apply r_box_a); exact rfl; exact rfl)
 | ((with_reducible apply r_store_pa); exact rfl; exact rfl; exact rfl; exact rfl; exact rfl; exact rfl)
 | ((with_reducible apply r_extract); exact rfl; exact rfl; exact rfl)
 | ((with_reducible apply r_alloc); exact rfl)
 | (((with_reducible apply aw_cond); exact rfl) <;> intro hg <;> (first | (exact absurd hg (by decide)) | ((try simp only [decide_eq_true_eq, decide_eq_false_iff_not, Bool.not_eq_true', Bool.not_eq_false', Bool.not_true, Bool.not_false, Bool.not_not, Int.not_lt, Int.not_le, Nat.not_lt, Nat.not_le, gt_iff_lt, ge_iff_le, List.cons.injEq, and_true] at hg); first | (exact absurd trivial hg) | (exfalso; omega) | (have hT : True := hg; clear hT hg) | skip)))
      )
    exact ret2 (.cons (.tmp rfl cl_none) (.cons (.tmp rfl cl_c) .nil))
  rw [h] at c0
  have c1 := Cu.cuts_con (gl := gl) (lineOf p s u) l hp
  rcases hc : Cu.cutsS (lineOf p s u) l with ⟨e, D, C⟩
  rw [hc] at c1
  change Con _ _ _ _ (.tup [Cu.LS D, Cu.LS C, I e]) at c1
  change Con _ _ _ _ (.tup [.agg (Cu.lineL (lineOf p s u)), I 0]) at c0
  by_cases he : e = 0
  rotate_left
  · rw [lg_cut h hc he]
    repeat' (first
 | ((with_reducible apply r_call); exact rfl; exact rfl; (first | exact c0 | exact c1); exact rfl; exact rfl)
 | ((with_reducible apply aw_seq))
 | ((with_reducible apply aw_region))
 | ((with_reducible apply thn_normal))
 | ((with_reducible apply thn_ret))
 | ((with_reducible apply aw_skip))
 | ((with_reducible apply aw_ret))
 | ((with_reducible apply ao_nil))
 | ((with_reducible apply r_move); exact rfl; exact rfl)
 | ((with_reducible apply r_assign); exact rfl; exact rfl)
 | ((with_reducible apply r_load_pa); exact rfl; exact rfl; exact rfl; exact rfl; exact rfl)
 | ((with_reducible apply r_neq); exact rfl; exact rfl; exact rfl)
 | ((with_reducible apply r_box_a); exact rfl; exact rfl)
 | ((with_reducible apply r_store_pa); exact rfl; exact rfl; exact rfl; exact rfl; exact rfl; exact rfl)
 | ((with_reducible apply r_extract); exact rfl; exact rfl; exact rfl)
 | ((with_reducible apply r_alloc); exact rfl)
 | (((with_reducible apply aw_cond); exact rfl) <;> intro hg <;> (first | (exact absurd hg (by decide)) | ((try simp only [decide_eq_true_eq, decide_eq_false_iff_not, Bool.not_eq_true', Bool.not_eq_false', Bool.not_true, Bool.not_false, Bool.not_not, Int.not_lt, Int.not_le, Nat.not_lt, Nat.not_le, gt_iff_lt, ge_iff_le, List.cons.injEq, and_true] at hg); first | (exact absurd trivial hg) | (exfalso; omega) | (have hT : True := hg; clear hT hg) | skip)))
      )
    exact ret2 (.cons (.tmp rfl cl_none) (.cons (.tmp rfl cl_c) .nil))
  subst he
  rw [lg_ok h hc]
  have hin := piece_in ok hc
  have hu := ok.pk.unit
  have hone := ok.pk.one
  have huu := ok.ub
  repeat' (first
 | ((with_reducible apply r_call); exact rfl; exact rfl; (first | exact c0 | exact c1); exact rfl; exact rfl)
 | ((with_reducible apply aw_seq))
 | ((with_reducible apply aw_region))
 | ((with_reducible apply aw_block))
 | ((with_reducible apply thn_normal))
 | ((with_reducible apply aw_skip))
 | ((with_reducible apply ao_nil))
 | ((with_reducible apply r_move); exact rfl; exact rfl)
 | ((with_reducible apply r_assign); exact rfl; exact rfl)
 | ((with_reducible apply r_load_pa); exact rfl; exact rfl; exact rfl; exact rfl; exact rfl)
 | ((with_reducible apply r_neq); exact rfl; exact rfl; exact rfl)
 | ((with_reducible apply r_box_a); exact rfl; exact rfl)
 | ((with_reducible apply r_len_f); exact rfl; exact inferInstance; exact rfl)
 | ((with_reducible apply r_store_pa); exact rfl; exact rfl; exact rfl; exact rfl; exact rfl; exact rfl)
 | ((with_reducible apply r_extract); exact rfl; exact rfl; exact rfl)
 | ((with_reducible apply r_alloc); exact rfl)
 | (((with_reducible apply aw_cond); exact rfl) <;> intro hg <;> (first | (exact absurd hg (by decide)) | ((try simp only [decide_eq_true_eq, decide_eq_false_iff_not, Bool.not_eq_true', Bool.not_eq_false', Bool.not_true, Bool.not_false, Bool.not_not, Int.not_lt, Int.not_le, Nat.not_lt, Nat.not_le, gt_iff_lt, ge_iff_le, List.cons.injEq, and_true] at hg); first | (exact absurd trivial hg) | (exfalso; omega) | (have hT : True := hg; clear hT hg) | skip)))
    )
  refine aw_nilvec 13 43 2 rfl rfl ?_
  refine aw_loopG (G := Nat) (fun (j : Nat) => j ≤ l.length) (fun (j : Nat) => l.length - j) (fun (j : Nat) => [(3, .ptr 0 0), (4, .ptr 1 0), (13, .vec 3 j), (35, .c (Cu.LP l)), (36, A l.length), (37, A j)]) (fun (j : Nat) => [(0, some (.cells 41 (planA p))), (1, some (.cells 43 [.c (LL s.1), .c (LD s.2)])), (3, some (.vec 43 2 (((l.take j).map (logOf p s)).flatMap stC)))]) 4 0 ?_ (by refine weak_mk rfl ?_ ?_ <;> repeat (first | exact envW_nil | exact heapW_nil | refine envW_cons rfl rfl ?_ | refine heapW_cons rfl rfl rfl ?_)) rfl ?_
  · exact Nat.zero_le _
  rintro j hI
  try dsimp only at hI
  try dsimp only
  have hml : ((l.take j).map (logOf p s)).length = j := by simp; omega
  by_cases hjl : j < l.length
  · obtain ⟨i1, i2, i3, i4, i5⟩ := hin j hjl
    have i6 := hone _ i2
    have cp := part_con (gl := gl) p s l[j].2 p.lens[l[j].1.toNat] (by omega) (by omega) hu hl ok.dfs
    have hst : (l.take (j + 1)).map (logOf p s) = (l.take j).map (logOf p s) ++ [partS s (l[j].2 * p.unit, (l[j].2 + p.lens[l[j].1.toNat]) * p.unit)] := by
      rw [List.take_succ_eq_append_getElem hjl, List.map_append, List.map_singleton]
      unfold logOf; rw [i3]
    generalize partS s (l[j].2 * p.unit, (l[j].2 + p.lens[l[j].1.toNat]) * p.unit) = g at cp hst
    repeat' (first
 | (refine aw_drawt 13 ?_ ?_; (kernel_rfl); (simp only [List.take_succ_cons, List.take_zero, List.drop_succ_cons, List.drop_zero]))
 | ((with_reducible apply r_call); exact rfl; exact rfl; exact cp; exact rfl; exact rfl)
 | ((with_reducible apply r_litq); exact rfl; exact rfl; exact rfl; exact rfl; exact rfl; exact rfl; exact rfl)
 | ((with_reducible apply (r_appendl (enc := stC) (l2 := [g]))); exact rfl; exact rfl; exact inferInstance; exact hml; exact rfl; exact (by show j + 1 < _; omega); exact (by show (j + 1) * _ ≤ _; omega); exact rfl)
 | ((with_reducible apply aw_seq))
 | ((with_reducible apply aw_region))
 | ((with_reducible apply aw_block))
 | ((with_reducible apply thn_normal))
 | ((with_reducible apply inb_normal))
 | ((with_reducible apply aw_skip))
 | ((with_reducible apply ao_nil))
 | ((with_reducible apply r_move); exact rfl; exact rfl)
 | ((with_reducible apply r_assign); exact rfl; exact rfl)
 | ((with_reducible apply r_field_p); exact rfl; exact rfl)
 | ((with_reducible apply r_load_p); exact rfl; exact rfl; exact rfl; exact rfl)
 | ((with_reducible apply r_load_pa); exact rfl; exact rfl; exact rfl; exact rfl; exact rfl)
 | ((with_reducible apply r_lss); exact rfl; exact rfl; exact rfl)
 | ((with_reducible apply r_add); exact rfl; exact rfl; exact (by first | assumption | (unfold fits; omega)); exact rfl)
 | ((with_reducible apply r_index_f); exact rfl; exact inferInstance; exact rfl; exact rfl; (first | assumption | omega); exact rfl)
 | ((with_reducible apply r_index_f); exact rfl; exact inferInstance; exact rfl; exact (Int.toNat_of_nonneg (by omega)).symm; (first | assumption | omega); exact rfl)
 | ((with_reducible apply r_load_f0); exact rfl; exact inferInstance; exact List.getElem?_eq_getElem (by first | assumption | omega); exact rfl; exact rfl)
 | ((with_reducible apply r_load_fa0); exact rfl; exact inferInstance; exact List.getElem?_eq_getElem (by first | assumption | omega); exact rfl; exact rfl; exact rfl)
 | ((with_reducible apply r_store_pa); exact rfl; exact rfl; exact rfl; exact rfl; exact rfl; exact rfl)
 | ((with_reducible apply r_alloc); exact rfl)
 | (((with_reducible apply aw_cond); exact rfl) <;> intro hg <;> (first | (exact absurd hg (by decide)) | ((try simp only [decide_eq_true_eq, decide_eq_false_iff_not, Bool.not_eq_true', Bool.not_eq_false', Bool.not_true, Bool.not_false, Bool.not_not, Int.not_lt, Int.not_le, Nat.not_lt, Nat.not_le, gt_iff_lt, ge_iff_le, List.cons.injEq, and_true] at hg); first | (exact absurd trivial hg) | (exfalso; omega) | (have hT : True := hg; clear hT hg) | skip)))
 | ((with_reducible apply ds_nil))
      )
    rw [← hst]
    refine ⟨j + 1, ?_, ?_, by refine weak_mk rfl ?_ ?_ <;> repeat (first | exact envW_nil | exact heapW_nil | refine envW_cons rfl rfl ?_ | refine heapW_cons rfl rfl rfl ?_)⟩
    · show _ - (j + 1) < _ - j; omega
    · show j + 1 ≤ _; omega
  · obtain rfl : j = l.length := by omega
    rw [List.take_length] at hml ⊢
    repeat' (first
 | ((with_reducible apply aw_seq))
 | ((with_reducible apply aw_region))
 | ((with_reducible apply thn_normal))
 | ((with_reducible apply thn_exit))
 | ((with_reducible apply inb_exit))
 | ((with_reducible apply aw_exit))
 | ((with_reducible apply aw_ret))
 | ((with_reducible apply ao_nil))
 | ((with_reducible apply r_move); exact rfl; exact rfl)
 | ((with_reducible apply r_assign); exact rfl; exact rfl)
 | ((with_reducible apply r_lss); exact rfl; exact rfl; exact rfl)
 | (((with_reducible apply aw_cond); exact rfl) <;> intro hg <;> (first | (exact absurd hg (by decide)) | ((try simp only [decide_eq_true_eq, decide_eq_false_iff_not, Bool.not_eq_true', Bool.not_eq_false', Bool.not_true, Bool.not_false, Bool.not_not, Int.not_lt, Int.not_le, Nat.not_lt, Nat.not_le, gt_iff_lt, ge_iff_le, List.cons.injEq, and_true] at hg); first | (exact absurd trivial hg) | (exfalso; omega) | (have hT : True := hg; clear hT hg) | skip)))
      )
    exact ret2 (.cons (.tmp rfl (cl_vec rfl (by rw [flat_len EncL.len, hml]))) (.cons (.tmp rfl cl_c) .nil))
/-- The sum of the prices of logs. -/
noncomputable def sumP (K : List Kl) (l : List Lg) : Int := (l.map (fun x => priceS K x.1 x.2)).sum
theorem sumP_succ (K : List Kl) (l : List Lg) (j : Nat) (h : j < l.length) : sumP K (l.take (j + 1)) = sumP K (l.take j) + priceS K l[j].1 l[j].2 := by
  unfold sumP
  rw [List.take_succ_eq_append_getElem h, List.map_append, List.sum_append]; simp
theorem sumP_bd (K : List Kl) (l : List Lg) : ∀ j, 0 ≤ sumP K (l.take j) ∧ sumP K (l.take j) ≤ 700000000 * (j : Int)
  | 0 => by simp [sumP]
  | j + 1 => by
    have ih := sumP_bd K l j
    by_cases h : j < l.length
    · rw [sumP_succ K l j h]
      have := priceS_bd K l[j].1 l[j].2
      omega
    · rw [List.take_of_length_le (by omega)] at ih ⊢
      omega
set_option maxRecDepth 100000 in
set_option maxHeartbeats 8000000 in
theorem bsum_con (K : List Kl) (l : List Lg) (hK : K.length ≤ maxLen) (hn : l.length ≤ 100000) (hone : ∀ x ∈ l, x.1.length ≤ maxLen ∧ x.2.length ≤ maxLen) : Con Tryd.prog gl 15 [LK K, LStem l] (I (sumP K l)) := by
  refine con_of Tryd.func15 rfl (by kernel_rfl) rfl ?_
  simp only [Tryd.ntmps15, Tryd.results15, argEnv, ofC, of1, List.map]
  repeat' (first
 | ((with_reducible apply aw_seq))
 | ((with_reducible apply aw_region))
 | ((with_reducible apply aw_block))
 | ((with_reducible apply thn_normal))
 | ((with_reducible apply ao_nil))
 | ((with_reducible apply r_assign); exact rfl; exact rfl)
    )
  refine aw_loopG (G := Nat × Int) (fun ((j, t) : Nat × Int) => j ≤ l.length ∧ t = sumP K (l.take j)) (fun ((j, t) : Nat × Int) => l.length - j) (fun ((j, t) : Nat × Int) => [(0, .c (LK K)), (1, .c (LStem l)), (5, A t), (6, A j)]) (fun ((j, t) : Nat × Int) => []) 0 (0, 0) ?_ (by refine weak_mk rfl ?_ ?_ <;> repeat (first | exact envW_nil | exact heapW_nil | refine envW_cons rfl rfl ?_ | refine heapW_cons rfl rfl rfl ?_)) rfl ?_
  · exact ⟨Nat.zero_le _, rfl⟩
  rintro ⟨j, t⟩ hI
  try dsimp only at hI
  try dsimp only
  obtain ⟨hj, ht⟩ := hI
  have hb := sumP_bd K l j
  by_cases hjl : j < l.length
  · obtain ⟨g1, g2⟩ := hone _ (List.getElem_mem hjl)
    have c1 := price_con (gl := gl) K l[j].1 l[j].2 hK g1 g2
    have hs := sumP_succ K l j hjl
    have hpb := priceS_bd K l[j].1 l[j].2
    generalize priceS K l[j].1 l[j].2 = g at c1 hs hpb
    repeat' (first
 | ((with_reducible apply r_call); exact rfl; exact rfl; exact c1; exact rfl; exact rfl)
 | ((with_reducible apply aw_seq))
 | ((with_reducible apply aw_region))
 | ((with_reducible apply aw_block))
 | ((with_reducible apply thn_normal))
 | ((with_reducible apply inb_normal))
 | ((with_reducible apply aw_skip))
 | ((with_reducible apply ao_nil))
 | ((with_reducible apply r_move); exact rfl; exact rfl)
 | ((with_reducible apply r_assign); exact rfl; exact rfl)
 | ((with_reducible apply r_lss); exact rfl; exact rfl; exact rfl)
 | ((with_reducible apply r_add); exact rfl; exact rfl; exact (by first | assumption | (unfold fits; omega)); exact rfl)
 | ((with_reducible apply r_len_f); exact rfl; exact inferInstance; exact rfl)
 | ((with_reducible apply r_index_f); exact rfl; exact inferInstance; exact rfl; exact rfl; (first | assumption | omega); exact rfl)
 | ((with_reducible apply r_load_f0); exact rfl; exact inferInstance; exact List.getElem?_eq_getElem (by first | assumption | omega); exact rfl; exact rfl)
 | ((with_reducible apply r_load_f); exact rfl; exact inferInstance; exact List.getElem?_eq_getElem (by first | assumption | omega); exact rfl; exact rfl; exact rfl)
 | ((with_reducible apply r_field_e); exact rfl; exact rfl)
 | (((with_reducible apply aw_cond); exact rfl) <;> intro hg <;> (first | (exact absurd hg (by decide)) | ((try simp only [decide_eq_true_eq, decide_eq_false_iff_not, Bool.not_eq_true', Bool.not_eq_false', Bool.not_true, Bool.not_false, Bool.not_not, Int.not_lt, Int.not_le, Nat.not_lt, Nat.not_le, gt_iff_lt, ge_iff_le, List.cons.injEq, and_true] at hg); first | (exact absurd trivial hg) | (exfalso; omega) | (have hT : True := hg; clear hT hg) | skip)))
 | (refine aw_drawq ?_ ?_; (kernel_rfl))
 | ((with_reducible apply ds_nil))
      )
    refine ⟨(j + 1, t + g), ?_, ?_, by refine weak_mk rfl ?_ ?_ <;> repeat (first | exact envW_nil | exact heapW_nil | refine envW_cons rfl rfl ?_ | refine heapW_cons rfl rfl rfl ?_)⟩
    · show _ - (j + 1) < _ - j; omega
    · exact ⟨by show j + 1 ≤ _; omega, by show t + g = sumP K (l.take (j + 1)); omega⟩
  · obtain rfl : j = l.length := by omega
    rw [List.take_length] at ht
    repeat' (first
 | ((with_reducible apply aw_seq))
 | ((with_reducible apply aw_region))
 | ((with_reducible apply thn_normal))
 | ((with_reducible apply thn_exit))
 | ((with_reducible apply inb_exit))
 | ((with_reducible apply aw_exit))
 | ((with_reducible apply aw_ret))
 | ((with_reducible apply ao_nil))
 | ((with_reducible apply r_move); exact rfl; exact rfl)
 | ((with_reducible apply r_assign); exact rfl; exact rfl)
 | ((with_reducible apply r_lss); exact rfl; exact rfl; exact rfl)
 | ((with_reducible apply r_len_f); exact rfl; exact inferInstance; exact rfl)
 | (((with_reducible apply aw_cond); exact rfl) <;> intro hg <;> (first | (exact absurd hg (by decide)) | ((try simp only [decide_eq_true_eq, decide_eq_false_iff_not, Bool.not_eq_true', Bool.not_eq_false', Bool.not_true, Bool.not_false, Bool.not_not, Int.not_lt, Int.not_le, Nat.not_lt, Nat.not_le, gt_iff_lt, ge_iff_le, List.cons.injEq, and_true] at hg); first | (exact absurd trivial hg) | (exfalso; omega) | (have hT : True := hg; clear hT hg) | skip)))
      )
    exact ret_i rfl ht
theorem logs_one {p : Plan} {s : Lg} {l : List Cu.Piece} {u : Int} (ok : LnOk p s u) : ∀ x ∈ l.map (logOf p s), x.1.length ≤ maxLen ∧ x.2.length ≤ maxLen := by
  intro x hx
  obtain ⟨y, _, rfl⟩ := List.mem_map.1 hx
  exact part_len s _ ok.dfs
end Go.Proofs.YtkhljpbkebnnmaaDoor.Bu
