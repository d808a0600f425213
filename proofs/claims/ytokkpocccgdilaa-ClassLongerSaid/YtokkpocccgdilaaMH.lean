/- Walks of the laws on classes: sample, awake. -/
import Derived.Test.YtokkpocccgdilaaMG
namespace Go.Proofs.Ytokkpocccgdilaa.Ge
set_option linter.unusedVariables false
set_option linter.unusedSimpArgs false
open Go.RowKit Go.Proofs.Ytokkpocccgdilaa.Ev
variable {gl : List (Nat × List CV)}

def row20 : List Span := List.replicate 20 (-100, 100)
def Sq : Sec := ⟨-10, row20⟩
def LQ : List Slc := [⟨3000, Sq⟩]
set_option maxRecDepth 100000 in
set_option maxHeartbeats 4000000 in
theorem sample_con : Con Try.prog gl 29 [] (logV LQ []) := by
  refine con_of Try.func29 rfl (by kernel_rfl) rfl ?_
  simp only [Try.ntmps29, Try.results29, argEnv, ofC, of1, List.map]
  repeat' (first
    | ((with_reducible apply aw_seq))
    | ((with_reducible apply aw_region))
    | ((with_reducible apply aw_block))
    | ((with_reducible apply thn_normal))
    | ((with_reducible apply ao_nil))
    | ((with_reducible apply r_assign); exact rfl; exact rfl)
    | ((with_reducible apply r_store_pa); exact rfl; exact rfl; exact rfl; exact rfl; exact rfl; exact rfl)
    | ((with_reducible apply r_build); exact rfl; exact rfl; exact rfl)
    | ((with_reducible apply r_alloc); exact rfl)
    )
  refine aw_nilcell 1 2 44 2 rfl rfl rfl rfl ?_
  refine aw_loopG (G := List Span) (fun (l : List Span) => l.length ≤ 20 ∧ l = List.replicate l.length (-100, 100)) (fun (l : List Span) => 20 - l.length) (fun (l : List Span) => [(0, .ptr 0 0), (1, .ptr 1 0), (2, A l.length)]) (fun (l : List Span) => [(0, some (.cells 32 [.c (.v (.slice none 0 0)), .c (.v (.slice none 0 0))])), (1, some (.cells 60 [A 3000, A (-10), .vec 2 l.length])), (2, some (.vec 44 2 (l.flatMap spC)))]) 3 [] ?_ (by refine weak_mk rfl ?_ ?_ <;> repeat (first | exact envW_nil | exact heapW_nil | refine envW_cons rfl rfl ?_ | refine heapW_cons rfl rfl rfl ?_)) rfl ?_
  · exact ⟨Nat.zero_le _, rfl⟩
  rintro l hI
  try dsimp only at hI
  try dsimp only
  obtain ⟨hl, hr⟩ := hI
  by_cases hlt : l.length < 20
  · skip
    repeat' (first
      | ((with_reducible apply (r_push (x0 := ((-100, 100) : Span)))); exact rfl; exact rfl; exact inferInstance; exact rfl; exact rfl; exact rfl; exact rfl; exact (by omega); exact (by omega); exact rfl)
      | ((with_reducible apply aw_seq))
      | ((with_reducible apply aw_region))
      | ((with_reducible apply aw_block))
      | ((with_reducible apply thn_normal))
      | ((with_reducible apply inb_normal))
      | ((with_reducible apply aw_skip))
      | ((with_reducible apply ao_nil))
      | ((with_reducible apply r_move); exact rfl; exact rfl)
      | ((with_reducible apply r_assign); exact rfl; exact rfl)
      | ((with_reducible apply r_field_p); exact rfl; exact rfl)
      | ((with_reducible apply r_load_p); exact rfl; exact rfl; exact rfl; exact rfl)
      | ((with_reducible apply r_lss); exact rfl; exact rfl; exact rfl)
      | ((with_reducible apply r_add); exact rfl; exact rfl; exact (by first | assumption | (unfold fits; omega)); exact rfl)
      | ((with_reducible apply r_store_p); exact rfl; exact rfl; exact rfl; exact rfl; exact rfl; exact rfl)
      | ((with_reducible apply r_build); exact rfl; exact rfl; exact rfl)
      | (((with_reducible apply aw_cond); exact rfl) <;> intro hg <;> (first | (exact absurd hg (by decide)) | ((try simp only [decide_eq_true_eq, decide_eq_false_iff_not, Bool.not_eq_true', Bool.not_eq_false', Bool.not_true, Bool.not_false, Bool.not_not, Int.not_lt, Int.not_le, Nat.not_lt, Nat.not_le, gt_iff_lt, ge_iff_le, List.cons.injEq, and_true] at hg); first | (exact absurd trivial hg) | (exfalso; omega) | (have hT : True := hg; clear hT hg) | skip)))
      | ((with_reducible apply r_lit); exact rfl; exact rfl; exact rfl; exact rfl; exact rfl; exact rfl; exact rfl)
      )
    have e : ((l.length : Int) + 1) = ((l ++ [((-100, 100) : Span)]).length : Int) := by simp
    have e2 : l.length + 1 = (l ++ [((-100, 100) : Span)]).length := by simp
    rw [e, e2]
    refine ⟨l ++ [(-100, 100)], ?_, ?_, by refine weak_mk rfl ?_ ?_ <;> repeat (first | exact envW_nil | exact heapW_nil | refine envW_cons rfl rfl ?_ | refine heapW_cons rfl rfl rfl ?_)⟩
    · show 20 - (l ++ [((-100, 100) : Span)]).length < 20 - l.length; simp; omega
    · refine ⟨by show (l ++ [((-100, 100) : Span)]).length ≤ 20; simp; omega, ?_⟩
      show l ++ [((-100, 100) : Span)] = List.replicate (l ++ [((-100, 100) : Span)]).length (-100, 100)
      rw [List.length_append, List.length_singleton, List.replicate_succ', ← hr]
  · have h20 : l.length = 20 := by omega
    have hq : l = row20 := by rw [hr, h20]; rfl
    refine aw_freezecell 1 2 (E := 44) (size := 2) (xs := l.flatMap spC) rfl rfl rfl (flat_len EncL.len l) rfl ?_
    rw [hq]
    repeat' (first
      | ((with_reducible apply r_litq); exact rfl; exact rfl; exact rfl; exact rfl; exact rfl; exact rfl; exact rfl)
      | ((with_reducible apply aw_seq))
      | ((with_reducible apply aw_region))
      | ((with_reducible apply thn_normal))
      | ((with_reducible apply thn_exit))
      | ((with_reducible apply inb_exit))
      | ((with_reducible apply aw_exit))
      | ((with_reducible apply aw_ret))
      | ((with_reducible apply ao_nil))
      | ((with_reducible apply r_move); exact rfl; exact rfl)
      | ((with_reducible apply r_load_pa); exact rfl; exact rfl; exact rfl; exact rfl; exact rfl)
      | ((with_reducible apply r_lss); exact rfl; exact rfl; exact rfl)
      | ((with_reducible apply r_store_pa); exact rfl; exact rfl; exact rfl; exact rfl; exact rfl; exact rfl)
      | ((with_reducible apply r_build); exact rfl; exact rfl; exact rfl)
      | (((with_reducible apply aw_cond); exact rfl) <;> intro hg <;> (first | (exact absurd hg (by decide)) | ((try simp only [decide_eq_true_eq, decide_eq_false_iff_not, Bool.not_eq_true', Bool.not_eq_false', Bool.not_true, Bool.not_false, Bool.not_not, Int.not_lt, Int.not_le, Nat.not_lt, Nat.not_le, gt_iff_lt, ge_iff_le, List.cons.injEq, and_true] at hg); first | (exact absurd trivial hg) | (exfalso; omega) | (have hT : True := hg; clear hT hg) | skip)))
      )
    exact ret1 (.cell_a inferInstance rfl rfl rfl rfl (cl_cons cl_c (cl_cons cl_none cl_nil)))
theorem row_get (i : Nat) (h : i < row20.length) : row20[i] = (-100, 100) := List.eq_of_mem_replicate (List.getElem_mem h)
theorem Sq_chk : secChk Sq = 0 := (sc_ok ⟨by decide, ⟨by decide, by decide⟩, fun i h => by
  exact (congrArg rangeS (row_get i h)).trans rfl⟩ (by decide) (fun ⟨_, h⟩ => by
  have e : ∀ i (h : i < row20.length), emptyS row20[i] = false := fun i h => (congrArg emptyS (row_get i h)).trans rfl
  rcases h with h | h
  · exact absurd ((e _ _).symm.trans h) (by decide)
  · exact absurd ((e _ _).symm.trans h) (by decide)) (fun i h => by
  exact (congrArg okRow (row_get i h)).trans rfl)).symm
theorem LQ_chk : solChk LQ = 0 := by
  unfold solChk
  rw [if_neg (by decide), if_neg (by decide)]
  unfold LQ solGo
  rw [if_neg (fun h => h Sq_chk), if_neg (by decide), if_neg (by decide)]
  rfl
theorem Sq_area : areaS Sq = 40000 := by rw [areaS_ok Sq_chk]; rfl
theorem Sq_dia : diaS Sq = 225 := by
  unfold diaS
  rw [Sq_area]
  exact (show IsRoot (452 * 40000 / 355) 225 from ⟨by decide, by decide, by decide⟩).eq
theorem LQ_top : topS LQ = 225 := by unfold topS; rw [if_pos LQ_chk]; exact Sq_dia
theorem LQ_len : lengthS LQ = 3000 := by unfold lengthS; rw [valL_ok LQ_chk]; rfl
theorem LQ_vol : volS LQ = 120000000 := by
  unfold volS; rw [valL_ok LQ_chk]
  show 0 + 3000 * areaV Sq = 120000000
  rw [← areaS_ok Sq_chk, Sq_area]; rfl
theorem LQ_sweep : sweepS LQ = 0 := if_neg (fun h => absurd h.2 (by decide))
theorem LQ_taper : taperS LQ = 0 := by
  unfold taperS
  rw [if_pos LQ_chk]
  show max 0 (diaS Sq - diaS Sq) * 10000 / _ = 0
  rw [Int.sub_self]; simp
theorem LQ_both : bothOk LQ [] := ⟨LQ_chk, rfl⟩
theorem LQ_meas : measL LQ [] = ⟨225, 3000, 0, 0, 0, 0⟩ := by
  unfold measL
  rw [LQ_top, LQ_len, LQ_sweep, LQ_taper]; rfl
def nmA : ByteArray := { data := #[97] }
def nmB : ByteArray := { data := #[98] }
def kA : Kl := ⟨nmA, 225, 3000, 3000, 0, 0, 0, 0, 100⟩
def kB : Kl := ⟨nmB, 226, 3000, 3000, 0, 0, 0, 0, 100⟩
def kC : Kl := ⟨nmA, 0, 5, 4, 0, 0, 0, 0, 0⟩
theorem nm_a : nameS nmA = true := name_yes ⟨by decide, by decide, rfl, fun i h1 h2 => absurd h2 (by show ¬ i < 1; omega)⟩
theorem nm_b : nameS nmB = true := name_yes ⟨by decide, by decide, rfl, fun i h1 h2 => absurd h2 (by show ¬ i < 1; omega)⟩
theorem chk_ba : klChk [kB, kA] = 0 := by
  unfold klChk
  rw [if_neg (by decide)]
  unfold klGo
  rw [if_neg (by show ¬ nameS nmB = false; rw [nm_b]; decide), if_neg (by decide), if_neg (by decide)]
  unfold klGo
  rw [if_neg (by show ¬ nameS nmA = false; rw [nm_a]; decide), if_neg (by decide +kernel), if_neg (by decide)]
  rfl
theorem chk_ab : klChk [kA, kB] = 0 := by
  unfold klChk
  rw [if_neg (by decide)]
  unfold klGo
  rw [if_neg (by show ¬ nameS nmA = false; rw [nm_a]; decide), if_neg (by decide), if_neg (by decide)]
  unfold klGo
  rw [if_neg (by show ¬ nameS nmB = false; rw [nm_b]; decide), if_neg (by decide +kernel), if_neg (by decide)]
  rfl
theorem chk_a : klChk [kA] = 0 := by
  unfold klChk
  rw [if_neg (by decide)]
  unfold klGo
  rw [if_neg (by show ¬ nameS nmA = false; rw [nm_a]; decide), if_neg (by decide), if_neg (by decide)]
  rfl
theorem chk_aa : klChk [kA, kA] = 7 := by
  unfold klChk
  rw [if_neg (by decide)]
  unfold klGo
  rw [if_neg (by show ¬ nameS nmA = false; rw [nm_a]; decide), if_neg (by decide), if_neg (by decide)]
  unfold klGo
  rw [if_neg (by show ¬ nameS nmA = false; rw [nm_a]; decide), if_pos (by decide +kernel)]
theorem chk_C : klChk [kC] = 9 := by
  unfold klChk
  rw [if_neg (by decide)]
  unfold klGo
  rw [if_neg (by show ¬ nameS nmA = false; rw [nm_a]; decide), if_neg (by decide), if_pos (by decide)]
theorem fit_A : fitS LQ [] kA = true := by rw [fit_ok LQ_both, LQ_meas]; rfl
theorem fit_B : fitS LQ [] kB = false := by rw [fit_ok LQ_both, LQ_meas]; rfl
theorem of_ba : ofS [kB, kA] LQ [] = (1, true) := of_some (i := 1) chk_ba (by decide) fit_A (fun j hj hji => by
  obtain rfl : j = 0 := by omega
  exact fit_B)
theorem of_a : ofS [kA] LQ [] = (0, true) := of_some (i := 0) chk_a (by decide) fit_A (fun j hj hji => absurd hji (Nat.not_lt_zero _))
theorem price_a : priceS [kA] LQ [] = 12 := by
  unfold priceS
  rw [of_a, LQ_vol]; rfl
theorem LQ_n : LQ.length ≤ maxLen := by decide
set_option maxRecDepth 100000 in
set_option maxHeartbeats 16000000 in
theorem awake16_con : Con Try.prog gl 13 [] T := by
  have h0 := sample_con (gl := gl)
  have h1 : Con Try.prog gl 17 [LK [kB, kA], LL LQ, LD []] (.tup [I 1, T]) := by have := of_con (gl := gl) [kB, kA] LQ [] (by decide) LQ_n (by decide); rw [of_ba] at this; exact this
  have h2 : Con Try.prog gl 15 [klV kB, LL LQ, LD []] (.v (.bool false)) := by have := fits_con (gl := gl) kB LQ [] LQ_n (by decide); rw [fit_B] at this; exact this
  have h3 : Con Try.prog gl 19 [LK [kA], LL LQ, LD []] (I 12) := by have := price_con (gl := gl) [kA] LQ [] (by decide) LQ_n (by decide); rw [price_a] at this; exact this
  have h4 : Con Try.prog gl 11 [LK [kA, kB]] (I 0) := by have := kcheck_con (gl := gl) [kA, kB] (by decide); rw [chk_ab] at this; exact this
  have h5 : Con Try.prog gl 11 [LK [kA, kA]] (I 7) := by have := kcheck_con (gl := gl) [kA, kA] (by decide); rw [chk_aa] at this; exact this
  have h6 : Con Try.prog gl 11 [LK [kC]] (I 9) := by have := kcheck_con (gl := gl) [kC] (by decide); rw [chk_C] at this; exact this
  refine con_of Try.func13 rfl (by kernel_rfl) rfl ?_
  simp only [Try.ntmps13, Try.results13, argEnv, ofC, of1, List.map]
  repeat' (first
    | ((with_reducible apply r_litq); exact rfl; exact rfl; exact rfl; exact rfl; exact rfl; exact rfl; exact rfl)
    | ((with_reducible apply r_call); exact rfl; exact rfl; (first | exact h0 | exact h1 | exact h2 | exact h3 | exact h4 | exact h5 | exact h6); exact rfl; exact rfl)
    | ((with_reducible apply r_callq); (first | exact h1 | exact h2 | exact h3); exact rfl; exact (by first | exact cl_cons cl_c (cl_cons cl_c (cl_cons cl_none cl_nil))| exact cl_cons (cl_agg (cl_cons cl_c (cl_cons cl_c (cl_cons cl_c (cl_cons cl_c (cl_cons cl_c (cl_cons cl_c (cl_cons cl_c (cl_cons cl_c (cl_cons cl_c cl_nil)))))))))) (cl_cons cl_c (cl_cons cl_none cl_nil))); exact rfl; exact rfl)
    | ((with_reducible apply aw_seq))
    | ((with_reducible apply aw_region))
    | ((with_reducible apply thn_normal))
    | ((with_reducible apply aw_skip))
    | ((with_reducible apply aw_ret))
    | ((with_reducible apply ao_nil))
    | ((with_reducible apply r_move); exact rfl; exact rfl)
    | ((with_reducible apply r_assign); exact rfl; exact rfl)
    | ((with_reducible apply r_field_p); exact rfl; exact rfl)
    | ((with_reducible apply r_load_p); exact rfl; exact rfl; exact rfl; exact rfl)
    | ((with_reducible apply r_load_pa); exact rfl; exact rfl; exact rfl; exact rfl; exact rfl)
    | ((with_reducible apply r_eql); exact rfl; exact rfl; exact rfl)
    | ((with_reducible apply r_neq); exact rfl; exact rfl; exact rfl)
    | ((with_reducible apply r_pick_t); exact rfl; exact rfl; exact rfl)
    | ((with_reducible apply r_pick_f); exact rfl; exact rfl; exact rfl)
    | ((with_reducible apply r_not); exact rfl; exact rfl)
    | ((with_reducible apply r_store_p); exact rfl; exact rfl; exact rfl; exact rfl; exact rfl; exact rfl)
    | ((with_reducible apply r_store_pa); exact rfl; exact rfl; exact rfl; exact rfl; exact rfl; exact rfl)
    | ((with_reducible apply r_build); exact rfl; exact rfl; exact rfl)
    | ((with_reducible apply r_extract); exact rfl; exact rfl; exact rfl)
    | ((with_reducible apply r_alloc); exact rfl)
    | (((with_reducible apply r_guard); exact rfl; exact rfl; exact rfl; exact rfl) <;> intro hg <;> (first | (exact absurd hg (by decide)) | ((try simp only [decide_eq_true_eq, decide_eq_false_iff_not, Bool.not_eq_true', Bool.not_eq_false', Bool.not_true, Bool.not_false, Bool.not_not, Int.not_lt, Int.not_le, Nat.not_lt, Nat.not_le, gt_iff_lt, ge_iff_le, List.cons.injEq, and_true] at hg); first | (exact absurd trivial hg) | (exfalso; omega) | (have hT : True := hg; clear hT hg) | skip)))
    | (((with_reducible apply aw_cond); exact rfl) <;> intro hg <;> (first | (exact absurd hg (by decide)) | ((try simp only [decide_eq_true_eq, decide_eq_false_iff_not, Bool.not_eq_true', Bool.not_eq_false', Bool.not_true, Bool.not_false, Bool.not_not, Int.not_lt, Int.not_le, Nat.not_lt, Nat.not_le, gt_iff_lt, ge_iff_le, List.cons.injEq, and_true] at hg); first | (exact absurd trivial hg) | (exfalso; omega) | (have hT : True := hg; clear hT hg) | skip)))
    )
  all_goals first | exact ret_b rfl rfl | exact ret_b rfl (by decide) | trace_state
end Go.Proofs.Ytokkpocccgdilaa.Ge
