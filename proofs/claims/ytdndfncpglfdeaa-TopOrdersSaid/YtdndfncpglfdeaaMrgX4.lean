/- TI TJ: texts laid together. -/
import Derived.Test.YtdndfncpglfdeaaMrgX3
import Derived.Test.YtdndfncpglfdeaaMrgE5
set_option maxRecDepth 100000
set_option maxHeartbeats 64000000
/- Boards for orders: what fits an order, the table of what fits. -/
namespace Go.Proofs.Ytdndfncpglfdeaa.To
set_option linter.unusedVariables false
set_option linter.unusedSimpArgs false
open Go.RowKit Go.Proofs.Ytdndfncpglfdeaa.Ev
variable {gl : List (Nat × List CV)}
abbrev S (s : ByteArray) : CV := .v (.string s)
structure Ord where
  id : ByteArray
  sp : ByteArray
  product : Int
  length : Int
  grade : Int
  moist : Int
  want : Int
  minus : Int
  plus : Int
  price : Int
  due : Int
def ordL (o : Ord) : List CV := [S o.id, S o.sp, I o.product, I o.length, I o.grade, I o.moist, I o.want, I o.minus, I o.plus, I o.price, I o.due]
instance : EncL ordL 11 := ⟨fun _ => rfl, by decide, fun _ => rfl⟩
abbrev ordC (o : Ord) : CV := .agg (ordL o)
abbrev LO (l : List Ord) : CV := .lst 11 (l.flatMap ordL)
structure Dfx where
  k : Int
  xa : Int
  xb : Int
  ya : Int
  yb : Int
  za : Int
  zb : Int
def dfxL (d : Dfx) : List CV := [I d.k, I d.xa, I d.xb, I d.ya, I d.yb, I d.za, I d.zb]
instance : EncL dfxL 7 := ⟨fun _ => rfl, by decide, fun _ => rfl⟩
structure Brd where
  id : ByteArray
  log : ByteArray
  sp : ByteArray
  product : Int
  xa : Int
  xb : Int
  ya : Int
  yb : Int
  za : Int
  zb : Int
  volume : Int
  defects : List Dfx
  wane : Int
  surf : Int
  core : Int
  stress : Int
  dried : Bool
  grade : Int
abbrev LDf (l : List Dfx) : CV := .lst 7 (l.flatMap dfxL)
def brdL (b : Brd) : List CV := [S b.id, S b.log, S b.sp, I b.product, I b.xa, I b.xb, I b.ya, I b.yb, I b.za, I b.zb, I b.volume, LDf b.defects, I b.wane, I b.surf, I b.core, I b.stress, BO b.dried, I b.grade]
instance : EncL brdL 18 := ⟨fun _ => rfl, by decide, fun _ => rfl⟩
abbrev brdC (b : Brd) : CV := .agg (brdL b)
abbrev LB18 (l : List Brd) : CV := .lst 18 (l.flatMap brdL)
def alongS (a b : Int) : Bool := decide (0 ≤ a) && decide (b ≤ 20000) && decide (a < b)
theorem along_con (a b : Int) : Con Try.prog gl 28 [.agg [I a, I b]] (BO (alongS a b)) := by
  refine con_of Try.func28 rfl (by kernel_rfl) rfl ?_
  simp only [Try.ntmps28, Try.results28, argEnv, ofC, of1, List.map]
  by_cases h1 : 0 ≤ a <;> by_cases h2 : b ≤ 20000 <;> by_cases h3 : a < b <;> simp only [alongS, h1, h2, h3, decide_true, decide_false, Bool.and_true, Bool.and_false, Bool.true_and, Bool.false_and]
  all_goals
    repeat' (first
 | ((with_reducible apply aw_seq))
 | ((with_reducible apply aw_region))
 | ((with_reducible apply thn_normal))
 | ((with_reducible apply aw_ret))
 | ((with_reducible apply ao_nil))
 | ((with_reducible apply r_move); exact rfl; exact rfl)
 | ((with_reducible apply r_assign); exact rfl; exact rfl)
 | ((with_reducible apply r_field_p); exact rfl; exact rfl)
 | ((with_reducible apply r_load_p); exact rfl; exact rfl; exact rfl; exact rfl)
 | ((with_reducible apply r_lss); exact rfl; exact rfl; exact rfl)
 | ((with_reducible apply r_leq); exact rfl; exact rfl; exact rfl)
 | ((with_reducible apply r_geq); exact rfl; exact rfl; exact rfl)
 | ((with_reducible apply r_box_a); exact rfl; exact rfl)
 | ((with_reducible apply r_pick_t); exact rfl; exact rfl; exact rfl)
 | ((with_reducible apply r_pick_f); exact rfl; exact rfl; exact rfl)
 | (((with_reducible apply r_guard); exact rfl; exact rfl; exact rfl; exact rfl) <;> intro hg <;> (first | (exact absurd hg (by decide)) | ((try simp only [decide_eq_true_eq, decide_eq_false_iff_not, Bool.not_eq_true', Bool.not_eq_false', Bool.not_true, Bool.not_false, Bool.not_not, Int.not_lt, Int.not_le, Nat.not_lt, Nat.not_le, gt_iff_lt, ge_iff_le, List.cons.injEq, and_true] at hg); first | (exact absurd trivial hg) | (exfalso; omega) | (have hT : True := hg; clear hT hg) | skip)))
 )
    all_goals exact ret_b rfl (by simp [*])
def lenS (b : Brd) : Int := if alongS b.za b.zb = true then b.zb - b.za else 0
theorem along_true {a b : Int} (h : alongS a b = true) : 0 ≤ a ∧ b ≤ 20000 ∧ a < b := by
  unfold alongS at h
  simp only [Bool.and_eq_true, decide_eq_true_eq] at h
  exact ⟨h.1.1, h.1.2, h.2⟩
theorem blen_con (a b : Int) (h : fits (b - a)) : Con Try.prog gl 29 [.agg [I a, I b]] (I (b - a)) := by
  refine con_of Try.func29 rfl (by kernel_rfl) rfl ?_
  simp only [Try.ntmps29, Try.results29, argEnv, ofC, of1, List.map]
  repeat' (first
 | ((with_reducible apply aw_seq))
 | ((with_reducible apply aw_region))
 | ((with_reducible apply thn_normal))
 | ((with_reducible apply aw_ret))
 | ((with_reducible apply ao_nil))
 | ((with_reducible apply r_assign); exact rfl; exact rfl)
 | ((with_reducible apply r_field_p); exact rfl; exact rfl)
 | ((with_reducible apply r_load_p); exact rfl; exact rfl; exact rfl; exact rfl)
 | ((with_reducible apply r_sub); exact rfl; exact rfl; exact (by first | assumption | (unfold fits; omega)); exact rfl)
 | ((with_reducible apply r_box_a); exact rfl; exact rfl)
 )
  exact ret_i rfl rfl
theorem length_con (b : Brd) : Con Try.prog gl 23 [brdC b] (I (lenS b)) := by
  have c1 := along_con (gl := gl) b.za b.zb
  cases h : alongS b.za b.zb with
  | false =>
    rw [h] at c1
    refine con_of Try.func23 rfl (by kernel_rfl) rfl ?_
    simp only [Try.ntmps23, Try.results23, argEnv, ofC, of1, List.map, brdL]
    repeat' (first
 | ((with_reducible apply (r_call (f := 28))); exact rfl; exact rfl; exact c1; exact rfl; exact rfl)
 | ((with_reducible apply aw_seq))
 | ((with_reducible apply aw_region))
 | ((with_reducible apply thn_normal))
 | ((with_reducible apply thn_ret))
 | ((with_reducible apply aw_ret))
 | ((with_reducible apply ao_nil))
 | ((with_reducible apply r_assign); exact rfl; exact rfl)
 | ((with_reducible apply r_field_p); exact rfl; exact rfl)
 | ((with_reducible apply r_load_pa); exact rfl; exact rfl; exact rfl; exact rfl; exact rfl)
 | ((with_reducible apply r_box_a); exact rfl; exact rfl)
 | ((with_reducible apply r_not); exact rfl; exact rfl)
 | (((with_reducible apply aw_cond); exact rfl) <;> intro hg <;> (first | (exact absurd hg (by decide)) | ((try simp only [decide_eq_true_eq, decide_eq_false_iff_not, Bool.not_eq_true', Bool.not_eq_false', Bool.not_true, Bool.not_false, Bool.not_not, Int.not_lt, Int.not_le, Nat.not_lt, Nat.not_le, gt_iff_lt, ge_iff_le, List.cons.injEq, and_true] at hg); first | (exact absurd trivial hg) | (exfalso; omega) | (have hT : True := hg; clear hT hg) | skip)))
 )
    all_goals exact ret_i rfl (by unfold lenS; rw [h]; rfl)
  | true =>
    rw [h] at c1
    obtain ⟨h1, h2, h3⟩ := along_true h
    have c2 := blen_con (gl := gl) b.za b.zb (by unfold fits; omega)
    refine con_of Try.func23 rfl (by kernel_rfl) rfl ?_
    simp only [Try.ntmps23, Try.results23, argEnv, ofC, of1, List.map, brdL]
    repeat' (first
 | ((with_reducible apply (r_call (f := 28))); exact rfl; exact rfl; exact c1; exact rfl; exact rfl)
 | ((with_reducible apply (r_call (f := 29))); exact rfl; exact rfl; exact c2; exact rfl; exact rfl)
 | ((with_reducible apply aw_seq))
 | ((with_reducible apply aw_region))
 | ((with_reducible apply thn_normal))
 | ((with_reducible apply aw_skip))
 | ((with_reducible apply aw_ret))
 | ((with_reducible apply ao_nil))
 | ((with_reducible apply r_assign); exact rfl; exact rfl)
 | ((with_reducible apply r_field_p); exact rfl; exact rfl)
 | ((with_reducible apply r_load_pa); exact rfl; exact rfl; exact rfl; exact rfl; exact rfl)
 | ((with_reducible apply r_box_a); exact rfl; exact rfl)
 | ((with_reducible apply r_not); exact rfl; exact rfl)
 | (((with_reducible apply aw_cond); exact rfl) <;> intro hg <;> (first | (exact absurd hg (by decide)) | ((try simp only [decide_eq_true_eq, decide_eq_false_iff_not, Bool.not_eq_true', Bool.not_eq_false', Bool.not_true, Bool.not_false, Bool.not_not, Int.not_lt, Int.not_le, Nat.not_lt, Nat.not_le, gt_iff_lt, ge_iff_le, List.cons.injEq, and_true] at hg); first | (exact absurd trivial hg) | (exfalso; omega) | (have hT : True := hg; clear hT hg) | skip)))
 )
    all_goals exact ret_i rfl (by unfold lenS; rw [h]; rfl)
def moistOk (b : Brd) : Prop := 0 ≤ b.surf ∧ b.surf ≤ 20000 ∧ 0 ≤ b.core ∧ b.core ≤ 20000 ∧ 0 ≤ b.stress ∧ b.stress ≤ 1099511627776
instance (b : Brd) : Decidable (moistOk b) := inferInstanceAs (Decidable (_ ∧ _))
def meanS (b : Brd) : Int := if moistOk b then (b.surf + 2 * b.core).tdiv 3 else 0
theorem mcheck_con (b : Brd) : ∃ e, Con Try.prog gl 30 [.agg [I b.surf, I b.core, I b.stress]] (I e) ∧ (e = 0 ↔ moistOk b) := by
  by_cases h : moistOk b
  · refine ⟨0, ?_, fun _ => h, fun _ => rfl⟩
    obtain ⟨h1, h2, h3, h4, h5, h6⟩ := h
    refine con_of Try.func30 rfl (by kernel_rfl) rfl ?_
    simp only [Try.ntmps30, Try.results30, argEnv, ofC, of1, List.map]
    repeat' (first
 | ((with_reducible apply aw_seq))
 | ((with_reducible apply aw_region))
 | ((with_reducible apply thn_normal))
 | ((with_reducible apply aw_skip))
 | ((with_reducible apply aw_ret))
 | ((with_reducible apply ao_nil))
 | ((with_reducible apply r_move); exact rfl; exact rfl)
 | ((with_reducible apply r_assign); exact rfl; exact rfl)
 | ((with_reducible apply r_field_p); exact rfl; exact rfl)
 | ((with_reducible apply r_load_p); exact rfl; exact rfl; exact rfl; exact rfl)
 | ((with_reducible apply r_lss); exact rfl; exact rfl; exact rfl)
 | ((with_reducible apply r_gtr); exact rfl; exact rfl; exact rfl)
 | ((with_reducible apply r_box_a); exact rfl; exact rfl)
 | ((with_reducible apply r_pick_f); exact rfl; exact rfl; exact rfl)
 | (((with_reducible apply r_guard); exact rfl; exact rfl; exact rfl; exact rfl) <;> intro hg <;> (first | (exact absurd hg (by decide)) | ((try simp only [decide_eq_true_eq, decide_eq_false_iff_not, Bool.not_eq_true', Bool.not_eq_false', Bool.not_true, Bool.not_false, Bool.not_not, Int.not_lt, Int.not_le, Nat.not_lt, Nat.not_le, gt_iff_lt, ge_iff_le, List.cons.injEq, and_true] at hg); first | (exact absurd trivial hg) | (exfalso; omega) | (have hT : True := hg; clear hT hg) | skip)))
 | (((with_reducible apply aw_cond); exact rfl) <;> intro hg <;> (first | (exact absurd hg (by decide)) | ((try simp only [decide_eq_true_eq, decide_eq_false_iff_not, Bool.not_eq_true', Bool.not_eq_false', Bool.not_true, Bool.not_false, Bool.not_not, Int.not_lt, Int.not_le, Nat.not_lt, Nat.not_le, gt_iff_lt, ge_iff_le, List.cons.injEq, and_true] at hg); first | (exact absurd trivial hg) | (exfalso; omega) | (have hT : True := hg; clear hT hg) | skip)))
 )
    all_goals exact ret_i rfl rfl
  by_cases h2 : 0 ≤ b.surf ∧ b.surf ≤ 20000 ∧ 0 ≤ b.core ∧ b.core ≤ 20000
  · refine ⟨9, ?_, fun e => absurd e (by decide), fun e => absurd e h⟩
    obtain ⟨h1, h2, h3, h4⟩ := h2
    unfold moistOk at h
    refine con_of Try.func30 rfl (by kernel_rfl) rfl ?_
    simp only [Try.ntmps30, Try.results30, argEnv, ofC, of1, List.map]
    repeat' (first
 | ((with_reducible apply aw_seq))
 | ((with_reducible apply aw_region))
 | ((with_reducible apply thn_normal))
 | ((with_reducible apply thn_ret))
 | ((with_reducible apply aw_skip))
 | ((with_reducible apply aw_ret))
 | ((with_reducible apply ao_nil))
 | ((with_reducible apply r_move); exact rfl; exact rfl)
 | ((with_reducible apply r_assign); exact rfl; exact rfl)
 | ((with_reducible apply r_field_p); exact rfl; exact rfl)
 | ((with_reducible apply r_load_p); exact rfl; exact rfl; exact rfl; exact rfl)
 | ((with_reducible apply r_lss); exact rfl; exact rfl; exact rfl)
 | ((with_reducible apply r_gtr); exact rfl; exact rfl; exact rfl)
 | ((with_reducible apply r_box_a); exact rfl; exact rfl)
 | ((with_reducible apply r_pick_t); exact rfl; exact rfl; exact rfl)
 | ((with_reducible apply r_pick_f); exact rfl; exact rfl; exact rfl)
 | (((with_reducible apply r_guard); exact rfl; exact rfl; exact rfl; exact rfl) <;> intro hg <;> (first | (exact absurd hg (by decide)) | ((try simp only [decide_eq_true_eq, decide_eq_false_iff_not, Bool.not_eq_true', Bool.not_eq_false', Bool.not_true, Bool.not_false, Bool.not_not, Int.not_lt, Int.not_le, Nat.not_lt, Nat.not_le, gt_iff_lt, ge_iff_le, List.cons.injEq, and_true] at hg); first | (exact absurd trivial hg) | (exfalso; omega) | (have hT : True := hg; clear hT hg) | skip)))
 | (((with_reducible apply aw_cond); exact rfl) <;> intro hg <;> (first | (exact absurd hg (by decide)) | ((try simp only [decide_eq_true_eq, decide_eq_false_iff_not, Bool.not_eq_true', Bool.not_eq_false', Bool.not_true, Bool.not_false, Bool.not_not, Int.not_lt, Int.not_le, Nat.not_lt, Nat.not_le, gt_iff_lt, ge_iff_le, List.cons.injEq, and_true] at hg); first | (exact absurd trivial hg) | (exfalso; omega) | (have hT : True := hg; clear hT hg) | skip)))
 )
    all_goals exact ret_i rfl rfl
  · refine ⟨25, ?_, fun e => absurd e (by decide), fun e => absurd e h⟩
    clear h
    refine con_of Try.func30 rfl (by kernel_rfl) rfl ?_
    simp only [Try.ntmps30, Try.results30, argEnv, ofC, of1, List.map]
    repeat' (first
 | ((with_reducible apply aw_seq))
 | ((with_reducible apply aw_region))
 | ((with_reducible apply thn_normal))
 | ((with_reducible apply thn_ret))
 | ((with_reducible apply aw_ret))
 | ((with_reducible apply ao_nil))
 | ((with_reducible apply r_move); exact rfl; exact rfl)
 | ((with_reducible apply r_assign); exact rfl; exact rfl)
 | ((with_reducible apply r_field_p); exact rfl; exact rfl)
 | ((with_reducible apply r_load_p); exact rfl; exact rfl; exact rfl; exact rfl)
 | ((with_reducible apply r_lss); exact rfl; exact rfl; exact rfl)
 | ((with_reducible apply r_gtr); exact rfl; exact rfl; exact rfl)
 | ((with_reducible apply r_box_a); exact rfl; exact rfl)
 | ((with_reducible apply r_pick_t); exact rfl; exact rfl; exact rfl)
 | ((with_reducible apply r_pick_f); exact rfl; exact rfl; exact rfl)
 | (((with_reducible apply r_guard); exact rfl; exact rfl; exact rfl; exact rfl) <;> intro hg <;> (first | (exact absurd hg (by decide)) | ((try simp only [decide_eq_true_eq, decide_eq_false_iff_not, Bool.not_eq_true', Bool.not_eq_false', Bool.not_true, Bool.not_false, Bool.not_not, Int.not_lt, Int.not_le, Nat.not_lt, Nat.not_le, gt_iff_lt, ge_iff_le, List.cons.injEq, and_true] at hg); first | (exact absurd trivial hg) | (exfalso; omega) | (have hT : True := hg; clear hT hg) | skip)))
 | (((with_reducible apply aw_cond); exact rfl) <;> intro hg <;> (first | (exact absurd hg (by decide)) | ((try simp only [decide_eq_true_eq, decide_eq_false_iff_not, Bool.not_eq_true', Bool.not_eq_false', Bool.not_true, Bool.not_false, Bool.not_not, Int.not_lt, Int.not_le, Nat.not_lt, Nat.not_le, gt_iff_lt, ge_iff_le, List.cons.injEq, and_true] at hg); first | (exact absurd trivial hg) | (exfalso; omega) | (have hT : True := hg; clear hT hg) | skip)))
 )
    all_goals exact ret_i rfl rfl
theorem mean_con (b : Brd) : Con Try.prog gl 24 [.agg [I b.surf, I b.core, I b.stress]] (I (meanS b)) := by
  obtain ⟨e, c1, he⟩ := mcheck_con (gl := gl) b
  by_cases h : moistOk b
  · have h' := h
    obtain ⟨h1, h2, h3, h4, h5, h6⟩ := h'
    have h0 := he.2 h
    subst h0
    have hd : 0 ≤ (b.surf + 2 * b.core).tdiv 3 ∧ (b.surf + 2 * b.core).tdiv 3 ≤ 100000 := by
      rw [Int.tdiv_eq_ediv_of_nonneg (by omega)]; omega
    refine con_of Try.func24 rfl (by kernel_rfl) rfl ?_
    simp only [Try.ntmps24, Try.results24, argEnv, ofC, of1, List.map]
    repeat' (first
 | ((with_reducible apply (r_call (f := 30))); exact rfl; exact rfl; exact c1; exact rfl; exact rfl)
 | ((with_reducible apply r_quo); exact rfl; exact rfl; decide; exact (by unfold fits; omega); exact rfl)
 | ((with_reducible apply aw_seq))
 | ((with_reducible apply aw_region))
 | ((with_reducible apply thn_normal))
 | ((with_reducible apply aw_skip))
 | ((with_reducible apply aw_ret))
 | ((with_reducible apply ao_nil))
 | ((with_reducible apply r_assign); exact rfl; exact rfl)
 | ((with_reducible apply r_field_p); exact rfl; exact rfl)
 | ((with_reducible apply r_load_p); exact rfl; exact rfl; exact rfl; exact rfl)
 | ((with_reducible apply r_load_pa); exact rfl; exact rfl; exact rfl; exact rfl; exact rfl)
 | ((with_reducible apply r_neq); exact rfl; exact rfl; exact rfl)
 | ((with_reducible apply r_add); exact rfl; exact rfl; exact (by first | assumption | (unfold fits; omega)); exact rfl)
 | ((with_reducible apply r_mul); exact rfl; exact rfl; exact (by first | assumption | (unfold fits; omega)); exact rfl)
 | ((with_reducible apply r_box_a); exact rfl; exact rfl)
 | (((with_reducible apply aw_cond); exact rfl) <;> intro hg <;> (first | (exact absurd hg (by decide)) | ((try simp only [decide_eq_true_eq, decide_eq_false_iff_not, Bool.not_eq_true', Bool.not_eq_false', Bool.not_true, Bool.not_false, Bool.not_not, Int.not_lt, Int.not_le, Nat.not_lt, Nat.not_le, gt_iff_lt, ge_iff_le, List.cons.injEq, and_true] at hg); first | (exact absurd trivial hg) | (exfalso; omega) | (have hT : True := hg; clear hT hg) | skip)))
 )
    all_goals exact ret_i rfl (by unfold meanS; rw [if_pos h])
  · have h0 : e ≠ 0 := fun e0 => h (he.1 e0)
    refine con_of Try.func24 rfl (by kernel_rfl) rfl ?_
    simp only [Try.ntmps24, Try.results24, argEnv, ofC, of1, List.map]
    repeat' (first
 | ((with_reducible apply (r_call (f := 30))); exact rfl; exact rfl; exact c1; exact rfl; exact rfl)
 | ((with_reducible apply aw_seq))
 | ((with_reducible apply aw_region))
 | ((with_reducible apply thn_normal))
 | ((with_reducible apply thn_ret))
 | ((with_reducible apply aw_ret))
 | ((with_reducible apply ao_nil))
 | ((with_reducible apply r_assign); exact rfl; exact rfl)
 | ((with_reducible apply r_load_pa); exact rfl; exact rfl; exact rfl; exact rfl; exact rfl)
 | ((with_reducible apply r_neq); exact rfl; exact rfl; exact rfl)
 | ((with_reducible apply r_box_a); exact rfl; exact rfl)
 | (((with_reducible apply aw_cond); exact rfl) <;> intro hg <;> (first | (exact absurd hg (by decide)) | ((try simp only [decide_eq_true_eq, decide_eq_false_iff_not, Bool.not_eq_true', Bool.not_eq_false', Bool.not_true, Bool.not_false, Bool.not_not, Int.not_lt, Int.not_le, Nat.not_lt, Nat.not_le, gt_iff_lt, ge_iff_le, List.cons.injEq, and_true] at hg); first | (exact absurd trivial hg) | (exfalso; omega) | (have hT : True := hg; clear hT hg) | skip)))
 )
    all_goals exact ret_i rfl (by unfold meanS; rw [if_neg h])
def fitsS (o : Ord) (b : Brd) : Int :=
  if (b.sp.toList == o.sp.toList) = false then 24 else if b.product ≠ o.product then 8 else if lenS b ≠ o.length then 20 else if b.dried = false then 14
  else if o.moist < meanS b then 25 else if b.grade < 1 ∨ o.grade < b.grade then 26 else 0
theorem fits_con (o : Ord) (b : Brd) : Con Try.prog gl 12 [ordC o, brdC b] (I (fitsS o b)) := by
  have c1 := length_con (gl := gl) b
  have c2 := mean_con (gl := gl) b
  refine con_of Try.func12 rfl (by kernel_rfl) rfl ?_
  simp only [Try.ntmps12, Try.results12, argEnv, ofC, of1, List.map, brdL, ordL]
  cases h1 : (b.sp.toList == o.sp.toList) with
  | false =>
    repeat' (first
 | ((with_reducible apply r_neqstr); exact rfl; exact rfl; exact rfl; rw [h1])
 | ((with_reducible apply aw_seq))
 | ((with_reducible apply aw_region))
 | ((with_reducible apply aw_block))
 | ((with_reducible apply thn_normal))
 | ((with_reducible apply thn_ret))
 | ((with_reducible apply inb_ret))
 | ((with_reducible apply aw_ret))
 | ((with_reducible apply ao_nil))
 | ((with_reducible apply r_assign); exact rfl; exact rfl)
 | ((with_reducible apply r_field_p); exact rfl; exact rfl)
 | ((with_reducible apply r_load_p); exact rfl; exact rfl; exact rfl; exact rfl)
 | ((with_reducible apply r_box_a); exact rfl; exact rfl)
 | (((with_reducible apply aw_cond); exact rfl) <;> intro hg <;> (first | (exact absurd hg (by decide)) | ((try simp only [decide_eq_true_eq, decide_eq_false_iff_not, Bool.not_eq_true', Bool.not_eq_false', Bool.not_true, Bool.not_false, Bool.not_not, Int.not_lt, Int.not_le, Nat.not_lt, Nat.not_le, gt_iff_lt, ge_iff_le, List.cons.injEq, and_true] at hg); first | (exact absurd trivial hg) | (exfalso; omega) | (have hT : True := hg; clear hT hg) | skip)))
 )
    all_goals exact ret_i rfl (by unfold fitsS; rw [if_pos h1])
  | true =>
  have h1' : ¬ (b.sp.toList == o.sp.toList) = false := by rw [h1]; decide
  by_cases h2 : b.product = o.product
  rotate_left
  · skip
    repeat' (first
 | ((with_reducible apply r_neqstr); exact rfl; exact rfl; exact rfl; rw [h1])
 | ((with_reducible apply aw_seq))
 | ((with_reducible apply aw_region))
 | ((with_reducible apply aw_block))
 | ((with_reducible apply thn_normal))
 | ((with_reducible apply thn_ret))
 | ((with_reducible apply inb_ret))
 | ((with_reducible apply aw_ret))
 | ((with_reducible apply ao_nil))
 | ((with_reducible apply r_assign); exact rfl; exact rfl)
 | ((with_reducible apply r_field_p); exact rfl; exact rfl)
 | ((with_reducible apply r_load_p); exact rfl; exact rfl; exact rfl; exact rfl)
 | ((with_reducible apply r_neq); exact rfl; exact rfl; exact rfl)
 | ((with_reducible apply r_box_a); exact rfl; exact rfl)
 | (((with_reducible apply aw_cond); exact rfl) <;> intro hg <;> (first | (exact absurd hg (by decide)) | ((try simp only [decide_eq_true_eq, decide_eq_false_iff_not, Bool.not_eq_true', Bool.not_eq_false', Bool.not_true, Bool.not_false, Bool.not_not, Int.not_lt, Int.not_le, Nat.not_lt, Nat.not_le, gt_iff_lt, ge_iff_le, List.cons.injEq, and_true] at hg); first | (exact absurd trivial hg) | (exfalso; omega) | (have hT : True := hg; clear hT hg) | skip)))
 )
    all_goals exact ret_i rfl (by unfold fitsS; rw [if_neg h1', if_pos h2])
  by_cases h3 : lenS b = o.length
  rotate_left
  · skip
    repeat' (first
 | ((with_reducible apply r_neqstr); exact rfl; exact rfl; exact rfl; rw [h1])
 | ((with_reducible apply (r_call (f := 23))); exact rfl; exact rfl; exact c1; exact rfl; exact rfl)
 | ((with_reducible apply aw_seq))
 | ((with_reducible apply aw_region))
 | ((with_reducible apply aw_block))
 | ((with_reducible apply thn_normal))
 | ((with_reducible apply thn_ret))
 | ((with_reducible apply inb_ret))
 | ((with_reducible apply aw_ret))
 | ((with_reducible apply ao_nil))
 | ((with_reducible apply r_assign); exact rfl; exact rfl)
 | ((with_reducible apply r_field_p); exact rfl; exact rfl)
 | ((with_reducible apply r_load_p); exact rfl; exact rfl; exact rfl; exact rfl)
 | ((with_reducible apply r_load_pa); exact rfl; exact rfl; exact rfl; exact rfl; exact rfl)
 | ((with_reducible apply r_neq); exact rfl; exact rfl; exact rfl)
 | ((with_reducible apply r_box_a); exact rfl; exact rfl)
 | (((with_reducible apply aw_cond); exact rfl) <;> intro hg <;> (first | (exact absurd hg (by decide)) | ((try simp only [decide_eq_true_eq, decide_eq_false_iff_not, Bool.not_eq_true', Bool.not_eq_false', Bool.not_true, Bool.not_false, Bool.not_not, Int.not_lt, Int.not_le, Nat.not_lt, Nat.not_le, gt_iff_lt, ge_iff_le, List.cons.injEq, and_true] at hg); first | (exact absurd trivial hg) | (exfalso; omega) | (have hT : True := hg; clear hT hg) | skip)))
 | (refine aw_drawq ?_ ?_; (kernel_rfl))
 | ((with_reducible apply ds_nil))
 )
    all_goals exact ret_i rfl (by unfold fitsS; rw [if_neg h1', if_neg (not_not_intro h2), if_pos h3])
  by_cases h4 : b.dried = false
  · skip
    repeat' (first
 | ((with_reducible apply r_neqstr); exact rfl; exact rfl; exact rfl; rw [h1])
 | ((with_reducible apply (r_call (f := 23))); exact rfl; exact rfl; exact c1; exact rfl; exact rfl)
 | ((with_reducible apply r_not); exact (by rw [h4]; rfl); exact rfl)
 | ((with_reducible apply aw_seq))
 | ((with_reducible apply aw_region))
 | ((with_reducible apply aw_block))
 | ((with_reducible apply thn_normal))
 | ((with_reducible apply thn_ret))
 | ((with_reducible apply inb_ret))
 | ((with_reducible apply aw_ret))
 | ((with_reducible apply ao_nil))
 | ((with_reducible apply r_assign); exact rfl; exact rfl)
 | ((with_reducible apply r_field_p); exact rfl; exact rfl)
 | ((with_reducible apply r_load_p); exact rfl; exact rfl; exact rfl; exact rfl)
 | ((with_reducible apply r_load_pa); exact rfl; exact rfl; exact rfl; exact rfl; exact rfl)
 | ((with_reducible apply r_neq); exact rfl; exact rfl; exact rfl)
 | ((with_reducible apply r_box_a); exact rfl; exact rfl)
 | (((with_reducible apply aw_cond); exact rfl) <;> intro hg <;> (first | (exact absurd hg (by decide)) | ((try simp only [decide_eq_true_eq, decide_eq_false_iff_not, Bool.not_eq_true', Bool.not_eq_false', Bool.not_true, Bool.not_false, Bool.not_not, Int.not_lt, Int.not_le, Nat.not_lt, Nat.not_le, gt_iff_lt, ge_iff_le, List.cons.injEq, and_true] at hg); first | (exact absurd trivial hg) | (exfalso; omega) | (have hT : True := hg; clear hT hg) | skip)))
 | (refine aw_drawq ?_ ?_; (kernel_rfl))
 | ((with_reducible apply ds_nil))
 )
    all_goals exact ret_i rfl (by unfold fitsS; rw [if_neg h1', if_neg (not_not_intro h2), if_neg (not_not_intro h3), if_pos h4])
  have h4' := h4
  have h4 : b.dried = true := by simpa using h4
  by_cases h5 : o.moist < meanS b
  · skip
    repeat' (first
 | ((with_reducible apply r_neqstr); exact rfl; exact rfl; exact rfl; rw [h1])
 | ((with_reducible apply (r_call (f := 23))); exact rfl; exact rfl; exact c1; exact rfl; exact rfl)
 | ((with_reducible apply r_not); exact (by rw [h4]; rfl); exact rfl)
 | ((with_reducible apply (r_call (f := 24))); exact rfl; exact rfl; exact c2; exact rfl; exact rfl)
 | ((with_reducible apply aw_seq))
 | ((with_reducible apply aw_region))
 | ((with_reducible apply aw_block))
 | ((with_reducible apply thn_normal))
 | ((with_reducible apply thn_ret))
 | ((with_reducible apply inb_ret))
 | ((with_reducible apply aw_ret))
 | ((with_reducible apply ao_nil))
 | ((with_reducible apply r_assign); exact rfl; exact rfl)
 | ((with_reducible apply r_field_p); exact rfl; exact rfl)
 | ((with_reducible apply r_load_p); exact rfl; exact rfl; exact rfl; exact rfl)
 | ((with_reducible apply r_load_pa); exact rfl; exact rfl; exact rfl; exact rfl; exact rfl)
 | ((with_reducible apply r_gtr); exact rfl; exact rfl; exact rfl)
 | ((with_reducible apply r_neq); exact rfl; exact rfl; exact rfl)
 | ((with_reducible apply r_box_a); exact rfl; exact rfl)
 | (((with_reducible apply aw_cond); exact rfl) <;> intro hg <;> (first | (exact absurd hg (by decide)) | ((try simp only [decide_eq_true_eq, decide_eq_false_iff_not, Bool.not_eq_true', Bool.not_eq_false', Bool.not_true, Bool.not_false, Bool.not_not, Int.not_lt, Int.not_le, Nat.not_lt, Nat.not_le, gt_iff_lt, ge_iff_le, List.cons.injEq, and_true] at hg); first | (exact absurd trivial hg) | (exfalso; omega) | (have hT : True := hg; clear hT hg) | skip)))
 | (refine aw_drawq ?_ ?_; (kernel_rfl))
 | ((with_reducible apply ds_nil))
 )
    all_goals exact ret_i rfl (by unfold fitsS; rw [if_neg h1', if_neg (not_not_intro h2), if_neg (not_not_intro h3), if_neg h4', if_pos h5])
  by_cases h6 : b.grade < 1 ∨ o.grade < b.grade
  · skip
    repeat' (first
 | ((with_reducible apply r_neqstr); exact rfl; exact rfl; exact rfl; rw [h1])
 | ((with_reducible apply (r_call (f := 23))); exact rfl; exact rfl; exact c1; exact rfl; exact rfl)
 | ((with_reducible apply r_not); exact (by rw [h4]; rfl); exact rfl)
 | ((with_reducible apply (r_call (f := 24))); exact rfl; exact rfl; exact c2; exact rfl; exact rfl)
 | ((with_reducible apply aw_seq))
 | ((with_reducible apply aw_region))
 | ((with_reducible apply aw_block))
 | ((with_reducible apply thn_normal))
 | ((with_reducible apply thn_ret))
 | ((with_reducible apply inb_ret))
 | ((with_reducible apply aw_ret))
 | ((with_reducible apply ao_nil))
 | ((with_reducible apply r_move); exact rfl; exact rfl)
 | ((with_reducible apply r_assign); exact rfl; exact rfl)
 | ((with_reducible apply r_field_p); exact rfl; exact rfl)
 | ((with_reducible apply r_load_p); exact rfl; exact rfl; exact rfl; exact rfl)
 | ((with_reducible apply r_load_pa); exact rfl; exact rfl; exact rfl; exact rfl; exact rfl)
 | ((with_reducible apply r_lss); exact rfl; exact rfl; exact rfl)
 | ((with_reducible apply r_gtr); exact rfl; exact rfl; exact rfl)
 | ((with_reducible apply r_neq); exact rfl; exact rfl; exact rfl)
 | ((with_reducible apply r_box_a); exact rfl; exact rfl)
 | ((with_reducible apply r_pick_t); exact rfl; exact rfl; exact rfl)
 | ((with_reducible apply r_pick_f); exact rfl; exact rfl; exact rfl)
 | (((with_reducible apply r_guard); exact rfl; exact rfl; exact rfl; exact rfl) <;> intro hg <;> (first | (exact absurd hg (by decide)) | ((try simp only [decide_eq_true_eq, decide_eq_false_iff_not, Bool.not_eq_true', Bool.not_eq_false', Bool.not_true, Bool.not_false, Bool.not_not, Int.not_lt, Int.not_le, Nat.not_lt, Nat.not_le, gt_iff_lt, ge_iff_le, List.cons.injEq, and_true] at hg); first | (exact absurd trivial hg) | (exfalso; omega) | (have hT : True := hg; clear hT hg) | skip)))
 | (((with_reducible apply aw_cond); exact rfl) <;> intro hg <;> (first | (exact absurd hg (by decide)) | ((try simp only [decide_eq_true_eq, decide_eq_false_iff_not, Bool.not_eq_true', Bool.not_eq_false', Bool.not_true, Bool.not_false, Bool.not_not, Int.not_lt, Int.not_le, Nat.not_lt, Nat.not_le, gt_iff_lt, ge_iff_le, List.cons.injEq, and_true] at hg); first | (exact absurd trivial hg) | (exfalso; omega) | (have hT : True := hg; clear hT hg) | skip)))
 | (refine aw_drawq ?_ ?_; (kernel_rfl))
 | ((with_reducible apply ds_nil))
 )
    all_goals exact ret_i rfl (by unfold fitsS; rw [if_neg h1', if_neg (not_not_intro h2), if_neg (not_not_intro h3), if_neg h4', if_neg h5, if_pos h6])
  · skip
    repeat' (first
 | ((with_reducible apply r_neqstr); exact rfl; exact rfl; exact rfl; rw [h1])
 | ((with_reducible apply (r_call (f := 23))); exact rfl; exact rfl; exact c1; exact rfl; exact rfl)
 | ((with_reducible apply r_not); exact (by rw [h4]; rfl); exact rfl)
 | ((with_reducible apply (r_call (f := 24))); exact rfl; exact rfl; exact c2; exact rfl; exact rfl)
 | ((with_reducible apply aw_seq))
 | ((with_reducible apply aw_region))
 | ((with_reducible apply aw_block))
 | ((with_reducible apply thn_normal))
 | ((with_reducible apply inb_normal))
 | ((with_reducible apply aw_skip))
 | ((with_reducible apply aw_ret))
 | ((with_reducible apply ao_nil))
 | ((with_reducible apply r_move); exact rfl; exact rfl)
 | ((with_reducible apply r_assign); exact rfl; exact rfl)
 | ((with_reducible apply r_field_p); exact rfl; exact rfl)
 | ((with_reducible apply r_load_p); exact rfl; exact rfl; exact rfl; exact rfl)
 | ((with_reducible apply r_load_pa); exact rfl; exact rfl; exact rfl; exact rfl; exact rfl)
 | ((with_reducible apply r_lss); exact rfl; exact rfl; exact rfl)
 | ((with_reducible apply r_gtr); exact rfl; exact rfl; exact rfl)
 | ((with_reducible apply r_neq); exact rfl; exact rfl; exact rfl)
 | ((with_reducible apply r_box_a); exact rfl; exact rfl)
 | ((with_reducible apply r_pick_f); exact rfl; exact rfl; exact rfl)
 | (((with_reducible apply r_guard); exact rfl; exact rfl; exact rfl; exact rfl) <;> intro hg <;> (first | (exact absurd hg (by decide)) | ((try simp only [decide_eq_true_eq, decide_eq_false_iff_not, Bool.not_eq_true', Bool.not_eq_false', Bool.not_true, Bool.not_false, Bool.not_not, Int.not_lt, Int.not_le, Nat.not_lt, Nat.not_le, gt_iff_lt, ge_iff_le, List.cons.injEq, and_true] at hg); first | (exact absurd trivial hg) | (exfalso; omega) | (have hT : True := hg; clear hT hg) | skip)))
 | (((with_reducible apply aw_cond); exact rfl) <;> intro hg <;> (first | (exact absurd hg (by decide)) | ((try simp only [decide_eq_true_eq, decide_eq_false_iff_not, Bool.not_eq_true', Bool.not_eq_false', Bool.not_true, Bool.not_false, Bool.not_not, Int.not_lt, Int.not_le, Nat.not_lt, Nat.not_le, gt_iff_lt, ge_iff_le, List.cons.injEq, and_true] at hg); first | (exact absurd trivial hg) | (exfalso; omega) | (have hT : True := hg; clear hT hg) | skip)))
 | (refine aw_drawq ?_ ?_; (kernel_rfl))
 | ((with_reducible apply ds_nil))
 )
    all_goals exact ret_i rfl (by unfold fitsS; rw [if_neg h1', if_neg (not_not_intro h2), if_neg (not_not_intro h3), if_neg h4', if_neg h5, if_neg h6])
def rowS (o : Ord) (l : List Brd) : List Bool := l.map fun b => decide (fitsS o b = 0)
def tabS (os : List Ord) (l : List Brd) : List (List Bool) := os.map fun o => rowS o l
theorem table_con (os : List Ord) (l : List Brd) (ho : os.length ≤ 32) (hl : l.length ≤ 512) : Con Try.prog gl 7 [LO os, LB18 l] (LLB (tabS os l)) := by
  have hc := fun (o : Ord) (b : Brd) => fits_con (gl := gl) o b
  refine con_of Try.func7 rfl (by kernel_rfl) rfl ?_
  simp only [Try.ntmps7, Try.results7, argEnv, ofC, of1, List.map]
  repeat' (first
 | ((with_reducible apply r_make (enc := rwC) (Rw.nil) os.length); exact inferInstance; exact rfl; exact rfl; exact rfl; exact rfl; exact rfl; omega; omega; exact rfl)
 | ((with_reducible apply aw_seq))
 | ((with_reducible apply aw_region))
 | ((with_reducible apply aw_block))
 | ((with_reducible apply thn_normal))
 | ((with_reducible apply ao_nil))
 | ((with_reducible apply r_move); exact rfl; exact rfl)
 | ((with_reducible apply r_assign); exact rfl; exact rfl)
 | ((with_reducible apply r_len_f); exact rfl; exact inferInstance; exact rfl)
 )
  refine aw_loopG (G := Nat × List Rw) (fun ((i, fl) : Nat × List Rw) => i ≤ os.length ∧ fl = ((os.take i).map fun o => Rw.row (rowS o l)) ++ List.replicate (os.length - i) .nil) (fun ((i, fl) : Nat × List Rw) => os.length - i) (fun ((i, fl) : Nat × List Rw) => [(0, .c (LO os)), (1, .c (LB18 l)), (5, .vec 0 os.length), (12, A os.length), (13, A i)]) (fun ((i, fl) : Nat × List Rw) => [(0, some (.vec 51 1 (fl.flatMap rwC)))]) 1 (0, List.replicate os.length .nil) ?_ (by refine weak_mk rfl ?_ ?_ <;> repeat (first | exact envW_nil | exact heapW_nil | refine envW_cons rfl rfl ?_ | refine heapW_cons rfl rfl rfl ?_)) rfl ?_
  · exact ⟨Nat.zero_le _, by simp⟩
  rintro ⟨i, fl⟩ hI
  try dsimp only at hI
  try dsimp only
  obtain ⟨hi, hfl⟩ := hI
  have hfll : fl.length = os.length := by rw [hfl]; simp; omega
  by_cases hil : i < os.length
  rotate_left
  · obtain rfl : i = os.length := by omega
    have hend : fl.flatMap rwC = (tabS os l).flatMap rowC := by
      rw [hfl, Nat.sub_self, List.take_length]
      simp only [List.replicate_zero, List.append_nil, rw_map]
      unfold tabS
      rw [List.map_map]
      have : ∀ xs : List Ord, xs.map (rwV ∘ fun o => Rw.row (rowS o l)) = (xs.map fun o => rowS o l).flatMap rowC := fun xs => by
        induction xs with
        | nil => rfl
        | cons x xs ih => rw [List.map_cons, List.map_cons, List.flatMap_cons, ih]; rfl
      exact this os
    repeat' (first
 | ((with_reducible apply aw_seq))
 | ((with_reducible apply aw_region))
 | ((with_reducible apply thn_normal))
 | ((with_reducible apply thn_exit))
 | ((with_reducible apply inb_exit))
 | ((with_reducible apply aw_exit))
 | ((with_reducible apply aw_ret))
 | ((with_reducible apply ao_nil))
 | ((with_reducible apply r_move); exact rfl; exact rfl)
 | ((with_reducible apply r_assign); exact rfl; exact rfl)
 | ((with_reducible apply r_lss); exact rfl; exact rfl; exact rfl)
 | (((with_reducible apply aw_cond); exact rfl) <;> intro hg <;> (first | (exact absurd hg (by decide)) | ((try simp only [decide_eq_true_eq, decide_eq_false_iff_not, Bool.not_eq_true', Bool.not_eq_false', Bool.not_true, Bool.not_false, Bool.not_not, Int.not_lt, Int.not_le, Nat.not_lt, Nat.not_le, gt_iff_lt, ge_iff_le, List.cons.injEq, and_true] at hg); first | (exact absurd trivial hg) | (exfalso; omega) | (have hT : True := hg; clear hT hg) | skip)))
 )
    rw [hend]
    exact ret1 (.tmp rfl (cl_vec rfl (by rw [flat_len EncL.len]; unfold tabS; simp)))
  have hset : ∀ x : Rw, fl.set i x = ((os.take i).map fun o => Rw.row (rowS o l)) ++ x :: List.replicate (os.length - (i + 1)) .nil := fun x => by
    rw [hfl]
    apply List.ext_getElem?
    intro k
    rw [List.getElem?_set]
    have hlen : ((os.take i).map fun o => Rw.row (rowS o l)).length = i := by simp; omega
    by_cases e : i = k
    · subst e
      rw [if_pos rfl, if_pos (by simp; omega), List.getElem?_append_right (by omega), hlen, Nat.sub_self]; rfl
    · rw [if_neg e]
      rcases Nat.lt_or_ge k i with hk | hk
      · rw [List.getElem?_append_left (by omega), List.getElem?_append_left (by omega)]
      · rw [List.getElem?_append_right (by omega), List.getElem?_append_right (by omega), hlen]
        have e2 : k - i = (k - i - 1) + 1 := by omega
        rw [e2, List.getElem?_cons_succ, List.getElem?_replicate, List.getElem?_replicate]
        by_cases h1 : k - i - 1 + 1 < os.length - i
        · rw [if_pos h1, if_pos (by omega)]
        · rw [if_neg h1, if_neg (by omega)]
  have hnext : ((os.take i).map fun o => Rw.row (rowS o l)) ++ Rw.row (rowS os[i] l) :: List.replicate (os.length - (i + 1)) .nil = ((os.take (i + 1)).map fun o => Rw.row (rowS o l)) ++ List.replicate (os.length - (i + 1)) .nil := by
    rw [List.take_succ_eq_append_getElem hil, List.map_append, List.append_assoc]; rfl
  have hx0 : ∀ x : Rw, (fl.set i x)[i]? = some x := fun x => by rw [List.getElem?_set, if_pos rfl, if_pos (by omega)]
  have hss : ∀ x y : Rw, (fl.set i x).set i y = fl.set i y := fun x y => by rw [List.set_set]
  by_cases hB : l.length = 0
  · have hl0 : l = [] := List.eq_nil_of_length_eq_zero hB
    subst hl0
    repeat' (first
 | ((with_reducible apply r_make (enc := bitC) false 0); exact inferInstance; exact rfl; exact rfl; exact rfl; exact rfl; exact rfl; omega; omega; exact rfl)
 | ((with_reducible apply aw_seq))
 | ((with_reducible apply aw_region))
 | ((with_reducible apply aw_block))
 | ((with_reducible apply thn_normal))
 | ((with_reducible apply aw_skip))
 | ((with_reducible apply ao_nil))
 | ((with_reducible apply r_move); exact rfl; exact rfl)
 | ((with_reducible apply r_assign); exact rfl; exact rfl)
 | ((with_reducible apply r_lss); exact rfl; exact rfl; exact rfl)
 | ((with_reducible apply r_len_f); exact rfl; exact inferInstance; exact rfl)
 | ((with_reducible apply r_index_vf); exact rfl; exact rfl; exact inferInstance; (first | exact rfl | assumption | omega); exact rfl; exact rfl; (first | assumption | omega); exact rfl)
 | (((with_reducible apply aw_cond); exact rfl) <;> intro hg <;> (first | (exact absurd hg (by decide)) | ((try simp only [decide_eq_true_eq, decide_eq_false_iff_not, Bool.not_eq_true', Bool.not_eq_false', Bool.not_true, Bool.not_false, Bool.not_not, Int.not_lt, Int.not_le, Nat.not_lt, Nat.not_le, gt_iff_lt, ge_iff_le, List.cons.injEq, and_true] at hg); first | (exact absurd trivial hg) | (exfalso; omega) | (have hT : True := hg; clear hT hg) | skip)))
 )
    refine r_freeze 20 rfl rfl rfl ?_
    repeat' (first
 | ((with_reducible apply (r_store_v (enc := rwC) (k := i) (l := fl) (Rw.row []))); exact rfl; exact rfl; exact inferInstance; exact hfll; exact (by omega); exact rfl; exact rfl; exact rfl; exact rfl)
 | ((with_reducible apply aw_seq))
 | ((with_reducible apply aw_region))
 | ((with_reducible apply aw_block))
 | ((with_reducible apply thn_normal))
 | ((with_reducible apply ao_nil))
 | ((with_reducible apply r_move); exact rfl; exact rfl)
 | ((with_reducible apply r_len_f); exact rfl; exact inferInstance; exact rfl)
 )
    refine aw_loopG (G := Nat) (fun (j : Nat) => j = 0) (fun (j : Nat) => 0) (fun (j : Nat) => [(0, .c (LO os)), (1, .c (LB18 [])), (5, .vec 0 os.length), (12, A os.length), (13, A i), (23, A 0), (24, A j)]) (fun (j : Nat) => [(0, some (.vec 51 1 ((fl.set i (Rw.row [])).flatMap rwC)))]) 2 0 ?_ (by refine weak_mk rfl ?_ ?_ <;> repeat (first | exact envW_nil | exact heapW_nil | refine envW_cons rfl rfl ?_ | refine heapW_cons rfl rfl rfl ?_)) rfl ?_
    · rfl
    rintro j hI
    try dsimp only at hI
    try dsimp only
    subst hI
    repeat' (first
 | ((with_reducible apply aw_seq))
 | ((with_reducible apply aw_region))
 | ((with_reducible apply thn_normal))
 | ((with_reducible apply thn_exit))
 | ((with_reducible apply inb_normal))
 | ((with_reducible apply inb_exit))
 | ((with_reducible apply aw_exit))
 | ((with_reducible apply ao_nil))
 | ((with_reducible apply r_move); exact rfl; exact rfl)
 | ((with_reducible apply r_lss); exact rfl; exact rfl; exact rfl)
 | ((with_reducible apply r_add); exact rfl; exact rfl; exact (by first | assumption | (unfold fits; omega)); exact rfl)
 | (((with_reducible apply aw_cond); exact rfl) <;> intro hg <;> (first | (exact absurd hg (by decide)) | ((try simp only [decide_eq_true_eq, decide_eq_false_iff_not, Bool.not_eq_true', Bool.not_eq_false', Bool.not_true, Bool.not_false, Bool.not_not, Int.not_lt, Int.not_le, Nat.not_lt, Nat.not_le, gt_iff_lt, ge_iff_le, List.cons.injEq, and_true] at hg); first | (exact absurd trivial hg) | (exfalso; omega) | (have hT : True := hg; clear hT hg) | skip)))
 )
    have e1 : Rw.row [] = Rw.row (rowS os[i] []) := rfl
    rw [hset, e1, hnext]
    refine ⟨(i + 1, ((os.take (i + 1)).map fun o => Rw.row (rowS o [])) ++ List.replicate (os.length - (i + 1)) .nil), ?_, ?_, by refine weak_mk rfl ?_ ?_ <;> repeat (first | exact envW_nil | exact heapW_nil | refine envW_cons rfl rfl ?_ | refine heapW_cons rfl rfl rfl ?_)⟩
    · show os.length - (i + 1) < os.length - i; omega
    · exact ⟨by show i + 1 ≤ _; omega, rfl⟩
  repeat' (first
 | ((with_reducible apply r_make (enc := bitC) false l.length); exact inferInstance; exact rfl; exact rfl; exact rfl; exact rfl; exact rfl; omega; omega; exact rfl)
 | ((with_reducible apply aw_seq))
 | ((with_reducible apply aw_region))
 | ((with_reducible apply aw_block))
 | ((with_reducible apply thn_normal))
 | ((with_reducible apply aw_skip))
 | ((with_reducible apply ao_nil))
 | ((with_reducible apply r_move); exact rfl; exact rfl)
 | ((with_reducible apply r_assign); exact rfl; exact rfl)
 | ((with_reducible apply r_lss); exact rfl; exact rfl; exact rfl)
 | ((with_reducible apply r_len_f); exact rfl; exact inferInstance; exact rfl)
 | ((with_reducible apply r_index_vf); exact rfl; exact rfl; exact inferInstance; (first | exact rfl | assumption | omega); exact rfl; exact rfl; (first | assumption | omega); exact rfl)
 | (((with_reducible apply aw_cond); exact rfl) <;> intro hg <;> (first | (exact absurd hg (by decide)) | ((try simp only [decide_eq_true_eq, decide_eq_false_iff_not, Bool.not_eq_true', Bool.not_eq_false', Bool.not_true, Bool.not_false, Bool.not_not, Int.not_lt, Int.not_le, Nat.not_lt, Nat.not_le, gt_iff_lt, ge_iff_le, List.cons.injEq, and_true] at hg); first | (exact absurd trivial hg) | (exfalso; omega) | (have hT : True := hg; clear hT hg) | skip)))
 )
  refine ao_torow (l := List.replicate l.length false) 20 rfl rfl (by simp) (by omega) (fun g cap => ?_)
  repeat' (first
 | ((with_reducible apply (r_store_v (enc := rwC) (k := i) (l := fl) (Rw.sl g l.length cap))); exact rfl; exact rfl; exact inferInstance; exact hfll; exact (by omega); exact rfl; exact rfl; exact rfl; exact rfl)
 | ((with_reducible apply aw_seq))
 | ((with_reducible apply aw_region))
 | ((with_reducible apply aw_block))
 | ((with_reducible apply thn_normal))
 | ((with_reducible apply ao_nil))
 | ((with_reducible apply r_move); exact rfl; exact rfl)
 | ((with_reducible apply r_len_f); exact rfl; exact inferInstance; exact rfl)
 )
  have hfs := hx0 (Rw.sl g l.length cap)
  have hsll : (fl.set i (Rw.sl g l.length cap)).length = os.length := by rw [List.length_set]; exact hfll
  refine aw_loopG (G := Nat × List Bool) (fun ((j, r) : Nat × List Bool) => j ≤ l.length ∧ r = (l.take j).map (fun b => decide (fitsS os[i] b = 0)) ++ List.replicate (l.length - j) false) (fun ((j, r) : Nat × List Bool) => l.length - j) (fun ((j, r) : Nat × List Bool) => [(0, .c (LO os)), (1, .c (LB18 l)), (5, .vec 0 os.length), (6, A i), (12, A os.length), (13, A i), (23, A l.length), (24, A j)]) (fun ((j, r) : Nat × List Bool) => [(0, some (.vec 51 1 ((fl.set i (Rw.sl g l.length cap)).flatMap rwC))), (2, some (.obj (bsP 4 cap g r)))]) 3 (0, List.replicate l.length false) ?_ (by refine weak_mk rfl ?_ ?_ <;> repeat (first | exact envW_nil | exact heapW_nil | refine envW_cons rfl rfl ?_ | refine heapW_cons rfl rfl rfl ?_)) rfl ?_
  · exact ⟨Nat.zero_le _, by simp⟩
  rintro ⟨j, r⟩ hI
  try dsimp only at hI
  try dsimp only
  obtain ⟨hj, hr⟩ := hI
  have hrl : r.length = l.length := by rw [hr]; simp; omega
  by_cases hjl : j < l.length
  · have hfc := hc os[i] l[j]
    have hrs : r.set j (decide (fitsS os[i] l[j] = 0)) = (l.take (j + 1)).map (fun b => decide (fitsS os[i] b = 0)) ++ List.replicate (l.length - (j + 1)) false := by
      rw [hr]
      apply List.ext_getElem?
      intro k
      have hlen : ((l.take j).map (fun b => decide (fitsS os[i] b = 0))).length = j := by simp; omega
      have hlen2 : ((l.take (j + 1)).map (fun b => decide (fitsS os[i] b = 0))).length = j + 1 := by simp; omega
      rw [List.getElem?_set]
      by_cases e : j = k
      · subst e
        rw [if_pos rfl, if_pos (by simp; omega), List.getElem?_append_left (by omega), List.getElem?_map, List.getElem?_take, if_pos (Nat.lt_succ_self _), List.getElem?_eq_getElem hjl]; rfl
      · rw [if_neg e]
        rcases Nat.lt_or_ge k j with hk | hk
        · rw [List.getElem?_append_left (by omega), List.getElem?_append_left (by omega), List.getElem?_map, List.getElem?_map, List.getElem?_take, List.getElem?_take, if_pos hk, if_pos (by omega)]
        · rw [List.getElem?_append_right (by omega), List.getElem?_append_right (by omega), hlen, hlen2, List.getElem?_replicate, List.getElem?_replicate]
          by_cases h1 : k - j < l.length - j
          · rw [if_pos h1, if_pos (by omega)]
          · rw [if_neg h1, if_neg (by omega)]
    repeat' (first
 | (refine aw_drawt 16 ?_ ?_; (kernel_rfl); (simp only [List.take_succ_cons, List.take_zero, List.drop_succ_cons, List.drop_zero]))
 | ((with_reducible apply r_load_vf0); exact rfl; exact rfl; exact inferInstance; exact hsll; exact hfs; exact rfl; exact rfl)
 | ((with_reducible apply (r_index_k j)); exact rfl; exact rfl; exact rfl; exact hjl; exact rfl)
 | ((with_reducible apply (r_call (f := 12))); exact rfl; exact rfl; exact hfc; exact rfl; exact rfl)
 | ((with_reducible apply (r_store_k (b := 2))); exact rfl; exact rfl; exact rfl; exact (by omega))
 | ((with_reducible apply aw_seq))
 | ((with_reducible apply aw_region))
 | ((with_reducible apply aw_block))
 | ((with_reducible apply thn_normal))
 | ((with_reducible apply inb_normal))
 | ((with_reducible apply aw_skip))
 | ((with_reducible apply ao_nil))
 | ((with_reducible apply r_move); exact rfl; exact rfl)
 | ((with_reducible apply r_assign); exact rfl; exact rfl)
 | ((with_reducible apply r_lss); exact rfl; exact rfl; exact rfl)
 | ((with_reducible apply r_eql); exact rfl; exact rfl; exact rfl)
 | ((with_reducible apply r_add); exact rfl; exact rfl; exact (by first | assumption | (unfold fits; omega)); exact rfl)
 | ((with_reducible apply r_index_f); exact rfl; exact inferInstance; exact rfl; exact rfl; (first | assumption | omega); exact rfl)
 | ((with_reducible apply r_load_fa0); exact rfl; exact inferInstance; exact List.getElem?_eq_getElem (by first | assumption | omega); exact rfl; exact rfl; exact rfl)
 | ((with_reducible apply r_index_vf); exact rfl; exact rfl; exact inferInstance; (first | exact rfl | assumption | omega); exact rfl; exact rfl; (first | assumption | omega); exact rfl)
 | (((with_reducible apply aw_cond); exact rfl) <;> intro hg <;> (first | (exact absurd hg (by decide)) | ((try simp only [decide_eq_true_eq, decide_eq_false_iff_not, Bool.not_eq_true', Bool.not_eq_false', Bool.not_true, Bool.not_false, Bool.not_not, Int.not_lt, Int.not_le, Nat.not_lt, Nat.not_le, gt_iff_lt, ge_iff_le, List.cons.injEq, and_true] at hg); first | (exact absurd trivial hg) | (exfalso; omega) | (have hT : True := hg; clear hT hg) | skip)))
 | ((with_reducible apply ds_nil))
 )
    rw [hrs]
    refine ⟨(j + 1, (l.take (j + 1)).map (fun b => decide (fitsS os[i] b = 0)) ++ List.replicate (l.length - (j + 1)) false), ?_, ?_, by refine weak_mk rfl ?_ ?_ <;> repeat (first | exact envW_nil | exact heapW_nil | refine envW_cons rfl rfl ?_ | refine heapW_cons rfl rfl rfl ?_)⟩
    · show l.length - (j + 1) < l.length - j; omega
    · exact ⟨by show j + 1 ≤ _; omega, rfl⟩
  obtain rfl : j = l.length := by omega
  have hrr : r = rowS os[i] l := by
    rw [hr, List.take_length, Nat.sub_self]
    simp [rowS]
  subst hrr
  refine aw_freezeRow (fl := fl.set i (Rw.sl g l.length cap)) 2 0 i rfl hrl rfl rfl hfs ?_
  rw [hss]
  repeat' (first
 | ((with_reducible apply aw_seq))
 | ((with_reducible apply aw_region))
 | ((with_reducible apply thn_normal))
 | ((with_reducible apply thn_exit))
 | ((with_reducible apply inb_normal))
 | ((with_reducible apply inb_exit))
 | ((with_reducible apply aw_exit))
 | ((with_reducible apply ao_nil))
 | ((with_reducible apply r_move); exact rfl; exact rfl)
 | ((with_reducible apply r_lss); exact rfl; exact rfl; exact rfl)
 | ((with_reducible apply r_add); exact rfl; exact rfl; exact (by first | assumption | (unfold fits; omega)); exact rfl)
 | (((with_reducible apply aw_cond); exact rfl) <;> intro hg <;> (first | (exact absurd hg (by decide)) | ((try simp only [decide_eq_true_eq, decide_eq_false_iff_not, Bool.not_eq_true', Bool.not_eq_false', Bool.not_true, Bool.not_false, Bool.not_not, Int.not_lt, Int.not_le, Nat.not_lt, Nat.not_le, gt_iff_lt, ge_iff_le, List.cons.injEq, and_true] at hg); first | (exact absurd trivial hg) | (exfalso; omega) | (have hT : True := hg; clear hT hg) | skip)))
 )
  rw [hset, hnext]
  refine ⟨(i + 1, ((os.take (i + 1)).map fun o => Rw.row (rowS o l)) ++ List.replicate (os.length - (i + 1)) .nil), ?_, ?_, by refine weak_mk rfl ?_ ?_ <;> repeat (first | exact envW_nil | exact heapW_nil | refine envW_cons rfl rfl ?_ | refine heapW_cons rfl rfl rfl ?_)⟩
  · show os.length - (i + 1) < os.length - i; omega
  · exact ⟨by show i + 1 ≤ _; omega, rfl⟩
end Go.Proofs.Ytdndfncpglfdeaa.To
/- Boards for orders: numbers of boards, the examples. -/
namespace Go.Proofs.Ytdndfncpglfdeaa.To
set_option linter.unusedVariables false
set_option linter.unusedSimpArgs false
open Go.RowKit Go.Proofs.Ytdndfncpglfdeaa.Ev
variable {gl : List (Nat × List CV)}
instance : StrTy Try.prog 9 := ⟨Try.underlying9⟩
def Good (o : Ord) : Prop := 1 ≤ o.want ∧ o.want ≤ 200 ∧ 0 ≤ o.minus ∧ o.minus < o.want ∧ 0 ≤ o.plus ∧ o.plus ≤ 200 - o.want
def leastI (o : Ord) : Int := o.want - o.minus
def mostI (o : Ord) : Int := o.want + o.plus
theorem sound_con (o : Ord) (h : Good o) : Con Try.prog gl 15 [ordC o] (BO true) := by
  obtain ⟨h1, h2, h3, h4, h5, h6⟩ := h
  refine con_of Try.func15 rfl (by kernel_rfl) rfl ?_
  simp only [Try.ntmps15, Try.results15, argEnv, ofC, of1, List.map, ordL]
  repeat' (first
 | ((with_reducible apply aw_seq))
 | ((with_reducible apply aw_region))
 | ((with_reducible apply thn_normal))
 | ((with_reducible apply aw_ret))
 | ((with_reducible apply ao_nil))
 | ((with_reducible apply r_move); exact rfl; exact rfl)
 | ((with_reducible apply r_assign); exact rfl; exact rfl)
 | ((with_reducible apply r_field_p); exact rfl; exact rfl)
 | ((with_reducible apply r_load_p); exact rfl; exact rfl; exact rfl; exact rfl)
 | ((with_reducible apply r_leq); exact rfl; exact rfl; exact rfl)
 | ((with_reducible apply r_geq); exact rfl; exact rfl; exact rfl)
 | ((with_reducible apply r_sub); exact rfl; exact rfl; exact (by first | assumption | (unfold fits; omega)); exact rfl)
 | ((with_reducible apply r_box_a); exact rfl; exact rfl)
 | ((with_reducible apply r_pick_t); exact rfl; exact rfl; exact rfl)
 | (((with_reducible apply r_guard); exact rfl; exact rfl; exact rfl; exact rfl) <;> intro hg <;> (first | (exact absurd hg (by decide)) | ((try simp only [decide_eq_true_eq, decide_eq_false_iff_not, Bool.not_eq_true', Bool.not_eq_false', Bool.not_true, Bool.not_false, Bool.not_not, Int.not_lt, Int.not_le, Nat.not_lt, Nat.not_le, gt_iff_lt, ge_iff_le, List.cons.injEq, and_true] at hg); first | (exact absurd trivial hg) | (exfalso; omega) | (have hT : True := hg; clear hT hg) | skip)))
 )
  all_goals exact ret_b rfl (by simp; omega)
theorem least_con (o : Ord) (h : Good o) : Con Try.prog gl 5 [ordC o] (I (leastI o)) := by
  have c1 := sound_con (gl := gl) o h
  obtain ⟨h1, h2, h3, h4, h5, h6⟩ := h
  refine con_of Try.func5 rfl (by kernel_rfl) rfl ?_
  simp only [Try.ntmps5, Try.results5, argEnv, ofC, of1, List.map, ordL]
  repeat' (first
 | ((with_reducible apply (r_call (f := 15))); exact rfl; exact rfl; exact c1; exact rfl; exact rfl)
 | ((with_reducible apply aw_seq))
 | ((with_reducible apply aw_region))
 | ((with_reducible apply thn_normal))
 | ((with_reducible apply aw_skip))
 | ((with_reducible apply aw_ret))
 | ((with_reducible apply ao_nil))
 | ((with_reducible apply r_assign); exact rfl; exact rfl)
 | ((with_reducible apply r_field_p); exact rfl; exact rfl)
 | ((with_reducible apply r_load_p); exact rfl; exact rfl; exact rfl; exact rfl)
 | ((with_reducible apply r_load_pa); exact rfl; exact rfl; exact rfl; exact rfl; exact rfl)
 | ((with_reducible apply r_sub); exact rfl; exact rfl; exact (by first | assumption | (unfold fits; omega)); exact rfl)
 | ((with_reducible apply r_box_a); exact rfl; exact rfl)
 | ((with_reducible apply r_not); exact rfl; exact rfl)
 | (((with_reducible apply aw_cond); exact rfl) <;> intro hg <;> (first | (exact absurd hg (by decide)) | ((try simp only [decide_eq_true_eq, decide_eq_false_iff_not, Bool.not_eq_true', Bool.not_eq_false', Bool.not_true, Bool.not_false, Bool.not_not, Int.not_lt, Int.not_le, Nat.not_lt, Nat.not_le, gt_iff_lt, ge_iff_le, List.cons.injEq, and_true] at hg); first | (exact absurd trivial hg) | (exfalso; omega) | (have hT : True := hg; clear hT hg) | skip)))
 )
  all_goals exact ret_i rfl rfl
theorem most_con (o : Ord) (h : Good o) : Con Try.prog gl 6 [ordC o] (I (mostI o)) := by
  have c1 := sound_con (gl := gl) o h
  obtain ⟨h1, h2, h3, h4, h5, h6⟩ := h
  refine con_of Try.func6 rfl (by kernel_rfl) rfl ?_
  simp only [Try.ntmps6, Try.results6, argEnv, ofC, of1, List.map, ordL]
  repeat' (first
 | ((with_reducible apply (r_call (f := 15))); exact rfl; exact rfl; exact c1; exact rfl; exact rfl)
 | ((with_reducible apply aw_seq))
 | ((with_reducible apply aw_region))
 | ((with_reducible apply thn_normal))
 | ((with_reducible apply aw_skip))
 | ((with_reducible apply aw_ret))
 | ((with_reducible apply ao_nil))
 | ((with_reducible apply r_assign); exact rfl; exact rfl)
 | ((with_reducible apply r_field_p); exact rfl; exact rfl)
 | ((with_reducible apply r_load_p); exact rfl; exact rfl; exact rfl; exact rfl)
 | ((with_reducible apply r_load_pa); exact rfl; exact rfl; exact rfl; exact rfl; exact rfl)
 | ((with_reducible apply r_add); exact rfl; exact rfl; exact (by first | assumption | (unfold fits; omega)); exact rfl)
 | ((with_reducible apply r_box_a); exact rfl; exact rfl)
 | ((with_reducible apply r_not); exact rfl; exact rfl)
 | (((with_reducible apply aw_cond); exact rfl) <;> intro hg <;> (first | (exact absurd hg (by decide)) | ((try simp only [decide_eq_true_eq, decide_eq_false_iff_not, Bool.not_eq_true', Bool.not_eq_false', Bool.not_true, Bool.not_false, Bool.not_not, Int.not_lt, Int.not_le, Nat.not_lt, Nat.not_le, gt_iff_lt, ge_iff_le, List.cons.injEq, and_true] at hg); first | (exact absurd trivial hg) | (exfalso; omega) | (have hT : True := hg; clear hT hg) | skip)))
 )
  all_goals exact ret_i rfl rfl
def exO1 : Ord := ⟨⟨#[79, 48, 48, 48, 48, 48, 49, 67]⟩, ⟨#[112, 105, 110, 101]⟩, 0, 2000, 1, 2000, 2, 0, 0, 0, 100⟩
def exO2 : Ord := ⟨⟨#[79, 48, 48, 48, 48, 48, 50, 74]⟩, ⟨#[112, 105, 110, 101]⟩, 0, 2000, 3, 2000, 2, 0, 0, 0, 100⟩
def exG (m : Int) (dr : Bool) (g : Int) : Brd := ⟨⟨#[66, 48, 48, 48, 48, 48, 49, 77]⟩, ⟨#[76, 48, 48, 48, 48, 48, 49, 87]⟩, ⟨#[112, 105, 110, 101]⟩, 0, 0, 105, 0, 42, 0, 2000, 8820000, [], 0, m, m, 0, dr, g⟩
theorem want1_con : Con Try.prog gl 13 [.v (.int .u8 1), I 1, I 2] (ordC exO1) := by
  refine con_of Try.func13 rfl (by kernel_rfl) rfl ?_
  simp only [Try.ntmps13, Try.results13, argEnv, ofC, of1, List.map]
  repeat' (first
 | ((with_reducible apply aw_seq))
 | ((with_reducible apply aw_region))
 | ((with_reducible apply thn_normal))
 | ((with_reducible apply aw_skip))
 | ((with_reducible apply aw_ret))
 | ((with_reducible apply ao_nil))
 | ((with_reducible apply r_move); exact rfl; exact rfl)
 | ((with_reducible apply r_assign); exact rfl; exact rfl)
 | ((with_reducible apply r_eql); exact rfl; exact rfl; exact rfl)
 | ((with_reducible apply r_store_pa); exact rfl; exact rfl; exact rfl; exact rfl; exact rfl; exact rfl)
 | ((with_reducible apply r_build); exact rfl; exact rfl; exact rfl)
 | ((with_reducible apply r_alloc); exact rfl)
 | (((with_reducible apply aw_cond); exact rfl) <;> intro hg <;> (first | (exact absurd hg (by decide)) | ((try simp only [decide_eq_true_eq, decide_eq_false_iff_not, Bool.not_eq_true', Bool.not_eq_false', Bool.not_true, Bool.not_false, Bool.not_not, Int.not_lt, Int.not_le, Nat.not_lt, Nat.not_le, gt_iff_lt, ge_iff_le, List.cons.injEq, and_true] at hg); first | (exact absurd trivial hg) | (exfalso; omega) | (have hT : True := hg; clear hT hg) | skip)))
 )
  all_goals exact ret1 (.cell_a inferInstance rfl rfl rfl rfl (cl_cons cl_c (cl_cons cl_c (cl_cons cl_c (cl_cons cl_c (cl_cons cl_c (cl_cons cl_c (cl_cons cl_c (cl_cons cl_c (cl_cons cl_c (cl_cons cl_c (cl_cons cl_c cl_nil))))))))))))
theorem want2_con : Con Try.prog gl 13 [.v (.int .u8 2), I 3, I 2] (ordC exO2) := by
  refine con_of Try.func13 rfl (by kernel_rfl) rfl ?_
  simp only [Try.ntmps13, Try.results13, argEnv, ofC, of1, List.map]
  repeat' (first
 | ((with_reducible apply aw_seq))
 | ((with_reducible apply aw_region))
 | ((with_reducible apply thn_normal))
 | ((with_reducible apply aw_ret))
 | ((with_reducible apply ao_nil))
 | ((with_reducible apply r_move); exact rfl; exact rfl)
 | ((with_reducible apply r_assign); exact rfl; exact rfl)
 | ((with_reducible apply r_eql); exact rfl; exact rfl; exact rfl)
 | ((with_reducible apply r_store_pa); exact rfl; exact rfl; exact rfl; exact rfl; exact rfl; exact rfl)
 | ((with_reducible apply r_build); exact rfl; exact rfl; exact rfl)
 | ((with_reducible apply r_alloc); exact rfl)
 | (((with_reducible apply aw_cond); exact rfl) <;> intro hg <;> (first | (exact absurd hg (by decide)) | ((try simp only [decide_eq_true_eq, decide_eq_false_iff_not, Bool.not_eq_true', Bool.not_eq_false', Bool.not_true, Bool.not_false, Bool.not_not, Int.not_lt, Int.not_le, Nat.not_lt, Nat.not_le, gt_iff_lt, ge_iff_le, List.cons.injEq, and_true] at hg); first | (exact absurd trivial hg) | (exfalso; omega) | (have hT : True := hg; clear hT hg) | skip)))
 )
  all_goals exact ret1 (.cell_a inferInstance rfl rfl rfl rfl (cl_cons cl_c (cl_cons cl_c (cl_cons cl_c (cl_cons cl_c (cl_cons cl_c (cl_cons cl_c (cl_cons cl_c (cl_cons cl_c (cl_cons cl_c (cl_cons cl_c (cl_cons cl_c cl_nil))))))))))))
theorem brd_cl {H : Nat → Option AB} {m g : Int} {dr : Bool} {b : Brd} (hb : exG m dr g = b) : cl.clL H [.c (S b.id), .c (S b.log), .c (S b.sp), .c (I 0), .c (I 0), .c (I 105), .c (I 0), .c (I 42), .c (I 0), .c (I 2000), .c (I 8820000), .c (.v (.slice none 0 0)), .c (I 0), .c (I m), .c (I m), .c (I 0), .c (BO dr), .c (I g)] (brdL b) := by
  subst hb
  exact cl_cons cl_c (cl_cons cl_c (cl_cons cl_c (cl_cons cl_c (cl_cons cl_c (cl_cons cl_c (cl_cons cl_c (cl_cons cl_c (cl_cons cl_c (cl_cons cl_c (cl_cons cl_c (cl_cons cl_none (cl_cons cl_c (cl_cons cl_c (cl_cons cl_c (cl_cons cl_c (cl_cons cl_c (cl_cons cl_c cl_nil)))))))))))))))))
theorem green_con (m : Int) : Con Try.prog gl 25 [I m] (brdC (exG m false 0)) := by
  refine con_of Try.func25 rfl (by kernel_rfl) rfl ?_
  simp only [Try.ntmps25, Try.results25, argEnv, ofC, of1, List.map]
  repeat' (first
 | ((with_reducible apply aw_seq))
 | ((with_reducible apply aw_region))
 | ((with_reducible apply thn_normal))
 | ((with_reducible apply aw_ret))
 | ((with_reducible apply ao_nil))
 | ((with_reducible apply r_move); exact rfl; exact rfl)
 | ((with_reducible apply r_store_pa); exact rfl; exact rfl; exact rfl; exact rfl; exact rfl; exact rfl)
 | ((with_reducible apply r_build); exact rfl; exact rfl; exact rfl)
 | ((with_reducible apply r_alloc); exact rfl)
 )
  all_goals exact ret1 (.cell_a inferInstance rfl rfl rfl rfl (brd_cl rfl))
theorem stored_con (g : Int) : Con Try.prog gl 14 [I g] (brdC (exG 1500 true g)) := by
  have c1 := green_con (gl := gl) 1500
  refine con_of Try.func14 rfl (by kernel_rfl) rfl ?_
  simp only [Try.ntmps14, Try.results14, argEnv, ofC, of1, List.map]
  repeat' (first
 | ((with_reducible apply (r_call (f := 25))); exact rfl; exact rfl; exact c1; exact rfl; exact rfl)
 | ((with_reducible apply aw_seq))
 | ((with_reducible apply aw_region))
 | ((with_reducible apply thn_normal))
 | ((with_reducible apply aw_ret))
 | ((with_reducible apply ao_nil))
 | ((with_reducible apply r_move); exact rfl; exact rfl)
 | ((with_reducible apply r_field_p); exact rfl; exact rfl)
 | ((with_reducible apply r_load_pa); exact rfl; exact rfl; exact rfl; exact rfl; exact rfl)
 | ((with_reducible apply r_store_p); exact rfl; exact rfl; exact rfl; exact rfl; exact rfl; exact rfl)
 | ((with_reducible apply r_store_pa); exact rfl; exact rfl; exact rfl; exact rfl; exact rfl; exact rfl)
 | ((with_reducible apply r_alloc); exact rfl)
 )
  all_goals exact ret1 (.cell_a inferInstance rfl rfl rfl rfl (cl_cons cl_c (cl_cons cl_c (cl_cons cl_c (cl_cons cl_c (cl_cons cl_c (cl_cons cl_c (cl_cons cl_c (cl_cons cl_c (cl_cons cl_c (cl_cons cl_c (cl_cons cl_c (cl_cons cl_c (cl_cons cl_c (cl_cons cl_c (cl_cons cl_c (cl_cons cl_c (cl_cons cl_c (cl_cons cl_c cl_nil)))))))))))))))))))
theorem ex_tab : tabS [exO1, exO2] [exG 1500 true 1, exG 1500 true 3, exG 1500 true 1] = exF := by decide +kernel
theorem ex_isTab : Tab exF 3 := ⟨by decide, by decide, by decide, fun i h => by
  match i with
  | 0 => rfl
  | 1 => rfl
  | i + 2 => exact absurd h (by simp [exF])⟩
theorem ex_most : MostA exF [2, 2] := ⟨rfl, fun i h => by
  match i with
  | 0 => exact ⟨by show (0 : Int) ≤ 2; decide, by show (2 : Int) ≤ 200; decide⟩
  | 1 => exact ⟨by show (0 : Int) ≤ 2; decide, by show (2 : Int) ≤ 200; decide⟩
  | i + 2 => exact absurd h (by simp)⟩
theorem ex_least : LeastA exF [2, 1] [2, 2] := ⟨rfl, fun i h h2 => by
  match i with
  | 0 => exact ⟨by show (0 : Int) ≤ 2; decide, by show (2 : Int) ≤ 2; decide⟩
  | 1 => exact ⟨by show (0 : Int) ≤ 1; decide, by show (1 : Int) ≤ 2; decide⟩
  | i + 2 => exact absurd h (by simp)⟩
theorem ex_c {c : List Int} (h : CountsA exF 3 [2, 2] c) : c = [2, 1] := by
  obtain ⟨g, hg, rfl⟩ := h
  obtain ⟨h1, h2⟩ := ex_counts hg
  show cntL g 2 3 = _
  unfold cntL
  have hr : List.range 2 = [0, 1] := rfl
  rw [hr]
  simp only [List.map_cons, List.map_nil, h1, h2]; rfl
theorem ex_b {b : List Int} (h : BestA exF 3 [2, 1] [2, 2] b) : b = [0, 1, 0] := by
  obtain ⟨f, g, hg, hf, h1, h2, h3, rfl⟩ := h.h
  obtain ⟨g1, g2⟩ := ex_counts hg
  have hF : Filled exF.length 3 [2, 1] g := fun i hi => by
    match i with
    | 0 => right; rw [g1]; decide
    | 1 => right; rw [g2]; decide
    | i + 2 => exact absurd hi (by simp [exF])
  have e := h3 hF
  exact ex_list hf (by rw [e 0, g1]) (by rw [e 1, g2])
abbrev T : CV := .v (.bool true)
theorem awake_con : Con Try.prog gl 4 [] T := by
  have w1 := want1_con (gl := gl)
  have w2 := want2_con (gl := gl)
  have s1 := stored_con (gl := gl) 1
  have s3 := stored_con (gl := gl) 3
  have ct := table_con (gl := gl) [exO1, exO2] [exG 1500 true 1, exG 1500 true 3, exG 1500 true 1] (by decide) (by decide)
  rw [ex_tab] at ct
  refine con_of Try.func4 rfl (by kernel_rfl) rfl ?_
  simp only [Try.ntmps4, Try.results4, argEnv, ofC, of1, List.map]
  repeat' (first
 | ((with_reducible apply (r_call (f := 13))); exact rfl; exact rfl; (first | exact w1 | exact w2); exact rfl; exact rfl)
 | ((with_reducible apply (r_call (f := 14))); exact rfl; exact rfl; (first | exact s1 | exact s3); exact rfl; exact rfl)
 | ((with_reducible apply r_litq); exact rfl; exact rfl; exact rfl; exact rfl; exact rfl; exact rfl; exact rfl)
 | ((with_reducible apply (r_call (f := 7))); exact rfl; exact rfl; exact ct; exact rfl; exact rfl)
 | ((with_reducible apply aw_seq))
 | ((with_reducible apply aw_region))
 | ((with_reducible apply thn_normal))
 | ((with_reducible apply ao_nil))
 | ((with_reducible apply r_move); exact rfl; exact rfl)
 | ((with_reducible apply r_assign); exact rfl; exact rfl)
 )
  refine r_callE (f := 8) (countsF_con exF 3 [2, 2] ex_isTab ex_most) rfl rfl rfl ?_
  intro γ
  obtain ⟨c, hc⟩ : ∃ c, γ.1 = c := ⟨_, rfl⟩
  rw [hc]
  have hc : c = [2, 1] := by rw [← hc]; exact ex_c γ.2
  have c0 : c.length = 2 := by rw [hc]; rfl
  have c1 : c[0] = 2 := by subst hc; rfl
  have c2 : c[1] = 1 := by subst hc; rfl
  repeat' (first
 | ((with_reducible apply r_litq); exact rfl; exact rfl; exact rfl; exact rfl; exact rfl; exact rfl; exact rfl)
 | ((with_reducible apply aw_seq))
 | ((with_reducible apply aw_region))
 | ((with_reducible apply thn_normal))
 | ((with_reducible apply ao_nil))
 | ((with_reducible apply r_move); exact rfl; exact rfl)
 | ((with_reducible apply r_assign); exact rfl; exact rfl)
 | ((with_reducible apply r_extract); exact rfl; exact rfl; exact rfl)
 )
  refine r_callE (f := 9) (best_con exF 3 [2, 1] [2, 2] ex_isTab ex_most ex_least) rfl rfl rfl ?_
  intro γ
  obtain ⟨b, hb⟩ : ∃ b, γ.1 = b := ⟨_, rfl⟩
  rw [hb]
  have hb : b = [0, 1, 0] := by rw [← hb]; exact ex_b γ.2
  have b0 : b.length = 3 := by rw [hb]; rfl
  have b1 : b[0] = 0 := by subst hb; rfl
  have b2 : b[1] = 1 := by subst hb; rfl
  have b3 : b[2] = 0 := by subst hb; rfl
  repeat' (first
 | ((with_reducible apply aw_seq))
 | ((with_reducible apply aw_region))
 | ((with_reducible apply thn_normal))
 | ((with_reducible apply aw_ret))
 | ((with_reducible apply ao_nil))
 | ((with_reducible apply r_move); exact rfl; exact rfl)
 | ((with_reducible apply r_assign); exact rfl; exact rfl)
 | ((with_reducible apply r_eql); exact rfl; exact rfl; exact rfl)
 | ((with_reducible apply r_pick_t); exact rfl; exact rfl; exact rfl)
 | ((with_reducible apply r_pick_f); exact rfl; exact rfl; exact rfl)
 | ((with_reducible apply r_len_f); exact rfl; exact inferInstance; exact rfl)
 | ((with_reducible apply r_index_f); exact rfl; exact inferInstance; exact rfl; exact (Int.toNat_of_nonneg (by omega)).symm; (first | assumption | omega); exact rfl)
 | ((with_reducible apply r_load_f0); exact rfl; exact inferInstance; exact List.getElem?_eq_getElem (by first | assumption | omega); exact rfl; exact rfl)
 | ((with_reducible apply r_extract); exact rfl; exact rfl; exact rfl)
 | (((with_reducible apply r_guard); exact rfl; exact rfl; exact rfl; exact rfl) <;> intro hg <;> (first | (exact absurd hg (by decide)) | ((try simp only [decide_eq_true_eq, decide_eq_false_iff_not, Bool.not_eq_true', Bool.not_eq_false', Bool.not_true, Bool.not_false, Bool.not_not, Int.not_lt, Int.not_le, Nat.not_lt, Nat.not_le, gt_iff_lt, ge_iff_le, List.cons.injEq, and_true] at hg); first | (exact absurd trivial hg) | (exfalso; omega) | (have hT : True := hg; clear hT hg) | skip)))
 )
  all_goals first | exact absurd c1 ‹_› | exact absurd c2 ‹_› | exact absurd b1 ‹_› | exact absurd b2 ‹_› | exact ret_b rfl (decide_eq_true b3)
end Go.Proofs.Ytdndfncpglfdeaa.To
