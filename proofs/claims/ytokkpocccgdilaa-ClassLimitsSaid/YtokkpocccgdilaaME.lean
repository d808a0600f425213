/- Walks of classes: Fits, Of, Price in both. -/
import Derived.Test.YtokkpocccgdilaaMD
import Derived.Test.YtokkpocccgdilaaMC
import Derived.Test.YtokkpocccgdilaaHD
namespace Go.Proofs.Ytokkpocccgdilaa.Ge
set_option linter.unusedVariables false
set_option linter.unusedSimpArgs false
open Go.RowKit Go.Proofs.Ytokkpocccgdilaa.Ev
variable {gl : List (Nat × List CV)}

/-- What a class is compared with. -/
structure Meas where
  top : Int
  len : Int
  sweep : Int
  taper : Int
  knots : Int
  rot : Int
noncomputable def measL (l : List Slc) (d : List Dfc) : Meas := ⟨topS l, lengthS l, sweepS l, taperS l, cnt d 1 + cnt d 2, cnt d 3⟩
/-- The numbers of a class stand in the order of its struct: len: least diameter; lo, hi: least and greatest length; taper: greatest sweep; sweep: greatest taper; knots; rot; price. -/
def fitM (m : Meas) (c : Kl) : Bool := decide (c.len ≤ m.top ∧ c.lo ≤ m.len ∧ m.len ≤ c.hi ∧ m.sweep ≤ c.taper ∧ m.taper ≤ c.sweep ∧ m.knots ≤ c.knots ∧ m.rot ≤ c.rot)
def bothOk (l : List Slc) (d : List Dfc) : Prop := solChk l = 0 ∧ defChk d = 0
noncomputable def fitS (l : List Slc) (d : List Dfc) (c : Kl) : Bool := open Classical in if bothOk l d then fitM (measL l d) c else false
theorem fit_no {l : List Slc} {d : List Dfc} (h : ¬ bothOk l d) (c : Kl) : fitS l d c = false := if_neg h
theorem fit_ok {l : List Slc} {d : List Dfc} (h : bothOk l d) (c : Kl) : fitS l d c = fitM (measL l d) c := if_pos h
abbrev klV (c : Kl) : CV := .agg [STR c.name, I c.len, I c.lo, I c.hi, I c.taper, I c.sweep, I c.knots, I c.rot, I c.price]
theorem def_len {d : List Dfc} (h : defChk d = 0) : d.length ≤ 64 := by
  unfold defChk at h
  split at h
  · cases h
  · omega
abbrev MC (f : Nat) (n : Int) : Option AB := some (.cells f [A n])
set_option maxRecDepth 100000 in
set_option maxHeartbeats 8000000 in
theorem fits_con (c : Kl) (l : List Slc) (d : List Dfc) (hl : l.length ≤ maxLen) (hd : d.length ≤ maxLen) : Con Try.prog gl 15 [klV c, LL l, LD d] (.v (.bool (fitS l d c))) := by
  have c1 := scheck_con (gl := gl) l hl
  have c2 := dcheck_con (gl := gl) d hd
  refine con_of Try.func15 rfl (by kernel_rfl) rfl ?_
  simp only [Try.ntmps15, Try.results15, argEnv, ofC, of1, List.map]
  by_cases hb : bothOk l d
  rotate_left
  · rw [fit_no hb]
    by_cases h1 : solChk l = 0
    · have h2 : ¬ defChk d = 0 := fun h => hb ⟨h1, h⟩
      repeat' (first
        | ((with_reducible apply r_call); exact rfl; exact rfl; (first | exact c1 | exact c2); exact rfl; exact rfl)
        | ((with_reducible apply (r_in Try.func30 rfl Try.results30 (by kernel_rfl) Try.ntmps30)); exact rfl; exact rfl; exact rfl; exact rfl)
        | ((with_reducible apply (r_inF Try.func47 rfl Try.results47 (by kernel_rfl) Try.ntmps47)); exact rfl; exact rfl; exact rfl; exact rfl; exact rfl)
        | (refine back_ret rfl ?_)
        | ((with_reducible apply aw_seq))
        | ((with_reducible apply aw_region))
        | ((with_reducible apply thn_normal))
        | ((with_reducible apply thn_ret))
        | ((with_reducible apply aw_ret))
        | ((with_reducible apply ao_nil))
        | ((with_reducible apply r_move); exact rfl; exact rfl)
        | ((with_reducible apply r_assign); exact rfl; exact rfl)
        | ((with_reducible apply r_load_pa); exact rfl; exact rfl; exact rfl; exact rfl; exact rfl)
        | ((with_reducible apply r_neq); exact rfl; exact rfl; exact rfl)
        | ((with_reducible apply r_box_a); exact rfl; exact rfl)
        | ((with_reducible apply r_pick_f); exact rfl; exact rfl; exact rfl)
        | (((with_reducible apply r_guard); exact rfl; exact rfl; exact rfl; exact rfl) <;> intro hg <;> (first | (exact absurd hg (by decide)) | ((try simp only [decide_eq_true_eq, decide_eq_false_iff_not, Bool.not_eq_true', Bool.not_eq_false', Bool.not_true, Bool.not_false, Bool.not_not, Int.not_lt, Int.not_le, Nat.not_lt, Nat.not_le, gt_iff_lt, ge_iff_le, List.cons.injEq, and_true] at hg); first | (exact absurd trivial hg) | (exfalso; omega) | (have hT : True := hg; clear hT hg) | skip)))
        | (((with_reducible apply aw_cond); exact rfl) <;> intro hg <;> (first | (exact absurd hg (by decide)) | ((try simp only [decide_eq_true_eq, decide_eq_false_iff_not, Bool.not_eq_true', Bool.not_eq_false', Bool.not_true, Bool.not_false, Bool.not_not, Int.not_lt, Int.not_le, Nat.not_lt, Nat.not_le, gt_iff_lt, ge_iff_le, List.cons.injEq, and_true] at hg); first | (exact absurd trivial hg) | (exfalso; omega) | (have hT : True := hg; clear hT hg) | skip)))
        )
      all_goals exact ret_b rfl rfl
    · skip
      repeat' (first
        | ((with_reducible apply r_call); exact rfl; exact rfl; (first | exact c1 | exact c2); exact rfl; exact rfl)
        | ((with_reducible apply (r_in Try.func30 rfl Try.results30 (by kernel_rfl) Try.ntmps30)); exact rfl; exact rfl; exact rfl; exact rfl)
        | ((with_reducible apply (r_inF Try.func47 rfl Try.results47 (by kernel_rfl) Try.ntmps47)); exact rfl; exact rfl; exact rfl; exact rfl; exact rfl)
        | (refine back_ret rfl ?_)
        | ((with_reducible apply aw_seq))
        | ((with_reducible apply aw_region))
        | ((with_reducible apply thn_normal))
        | ((with_reducible apply thn_ret))
        | ((with_reducible apply aw_ret))
        | ((with_reducible apply ao_nil))
        | ((with_reducible apply r_move); exact rfl; exact rfl)
        | ((with_reducible apply r_assign); exact rfl; exact rfl)
        | ((with_reducible apply r_load_pa); exact rfl; exact rfl; exact rfl; exact rfl; exact rfl)
        | ((with_reducible apply r_neq); exact rfl; exact rfl; exact rfl)
        | ((with_reducible apply r_box_a); exact rfl; exact rfl)
        | ((with_reducible apply r_pick_t); exact rfl; exact rfl; exact rfl)
        | (((with_reducible apply r_guard); exact rfl; exact rfl; exact rfl; exact rfl) <;> intro hg <;> (first | (exact absurd hg (by decide)) | ((try simp only [decide_eq_true_eq, decide_eq_false_iff_not, Bool.not_eq_true', Bool.not_eq_false', Bool.not_true, Bool.not_false, Bool.not_not, Int.not_lt, Int.not_le, Nat.not_lt, Nat.not_le, gt_iff_lt, ge_iff_le, List.cons.injEq, and_true] at hg); first | (exact absurd trivial hg) | (exfalso; omega) | (have hT : True := hg; clear hT hg) | skip)))
        | (((with_reducible apply aw_cond); exact rfl) <;> intro hg <;> (first | (exact absurd hg (by decide)) | ((try simp only [decide_eq_true_eq, decide_eq_false_iff_not, Bool.not_eq_true', Bool.not_eq_false', Bool.not_true, Bool.not_false, Bool.not_not, Int.not_lt, Int.not_le, Nat.not_lt, Nat.not_le, gt_iff_lt, ge_iff_le, List.cons.injEq, and_true] at hg); first | (exact absurd trivial hg) | (exfalso; omega) | (have hT : True := hg; clear hT hg) | skip)))
        )
      all_goals exact ret_b rfl rfl
  rw [fit_ok hb]
  obtain ⟨h1, h2⟩ := hb
  rw [h1] at c1
  rw [h2] at c2
  have b1 := top_con (gl := gl) l hl
  have b2 := slength_con (gl := gl) l hl
  have b3 := sweep_con (gl := gl) l hl
  have b4 := taper_con (gl := gl) l hl
  have b5 := count_con (gl := gl) d 1 hd
  have b6 := count_con (gl := gl) d 2 hd
  have b7 := count_con (gl := gl) d 3 hd
  have d1 := cnt_bd d 1 d.length
  have d2 := cnt_bd d 2 d.length
  have d3 := def_len h2
  unfold measL
  have hf : fits (cnt d 1 + cnt d 2) := by
    show fits (cntN d 1 d.length + cntN d 2 d.length)
    unfold fits; omega
  clear d1 d2 d3
  revert b1 b2 b3 b4 b5 b6 b7 hf
  generalize topS l = m1
  generalize lengthS l = m2
  generalize sweepS l = m3
  generalize taperS l = m4
  generalize cnt d 1 = m5
  generalize cnt d 2 = m6
  generalize cnt d 3 = m7
  intro b1 b2 b3 b4 b5 b6 b7 hf
  unfold fitM
  dsimp only
  repeat' (first
    | ((with_reducible apply r_call); exact rfl; exact rfl; (first | exact c1 | exact c2 | exact b1 | exact b2 | exact b3 | exact b4 | exact b5 | exact b6 | exact b7); exact rfl; exact rfl)
    | ((with_reducible apply (r_in Try.func30 rfl Try.results30 (by kernel_rfl) Try.ntmps30)); exact rfl; exact rfl; exact rfl; exact rfl)
    | ((with_reducible apply (r_inF Try.func53 rfl Try.results53 (by kernel_rfl) Try.ntmps53)); exact rfl; exact rfl; exact rfl; exact rfl; exact rfl)
    | (refine back_ret rfl ?_)
    | ((with_reducible apply r_makefn); exact rfl; exact rfl)
    | ((with_reducible apply aw_seq))
    | ((with_reducible apply aw_region))
    | ((with_reducible apply thn_normal))
    | ((with_reducible apply aw_skip))
    | ((with_reducible apply aw_ret))
    | ((with_reducible apply ao_nil))
    | ((with_reducible apply r_move); exact rfl; exact rfl)
    | ((with_reducible apply r_assign); exact rfl; exact rfl)
    | ((with_reducible apply r_field_p); exact rfl; exact rfl)
    | ((with_reducible apply r_load_p); exact rfl; exact rfl; exact rfl; exact rfl)
    | ((with_reducible apply r_load_pa); exact rfl; exact rfl; exact rfl; exact rfl; exact rfl)
    | ((with_reducible apply r_leq); exact rfl; exact rfl; exact rfl)
    | ((with_reducible apply r_geq); exact rfl; exact rfl; exact rfl)
    | ((with_reducible apply r_neq); exact rfl; exact rfl; exact rfl)
    | ((with_reducible apply r_add); exact rfl; exact rfl; exact (by first | assumption | (unfold fits; omega)); exact rfl)
    | ((with_reducible apply r_box_a); exact rfl; exact rfl)
    | ((with_reducible apply r_pick_t); exact rfl; exact rfl; exact rfl)
    | ((with_reducible apply r_pick_f); exact rfl; exact rfl; exact rfl)
    | ((with_reducible apply r_store_p); exact rfl; exact rfl; exact rfl; exact rfl; exact rfl; exact rfl)
    | ((with_reducible apply r_alloc); exact rfl)
    | (((with_reducible apply r_guard); exact rfl; exact rfl; exact rfl; exact rfl) <;> intro hg <;> (first | (exact absurd hg (by decide)) | ((try simp only [decide_eq_true_eq, decide_eq_false_iff_not, Bool.not_eq_true', Bool.not_eq_false', Bool.not_true, Bool.not_false, Bool.not_not, Int.not_lt, Int.not_le, Nat.not_lt, Nat.not_le, gt_iff_lt, ge_iff_le, List.cons.injEq, and_true] at hg); first | (exact absurd trivial hg) | (exfalso; omega) | (have hT : True := hg; clear hT hg) | skip)))
    | (((with_reducible apply aw_cond); exact rfl) <;> intro hg <;> (first | (exact absurd hg (by decide)) | ((try simp only [decide_eq_true_eq, decide_eq_false_iff_not, Bool.not_eq_true', Bool.not_eq_false', Bool.not_true, Bool.not_false, Bool.not_not, Int.not_lt, Int.not_le, Nat.not_lt, Nat.not_le, gt_iff_lt, ge_iff_le, List.cons.injEq, and_true] at hg); first | (exact absurd trivial hg) | (exfalso; omega) | (have hT : True := hg; clear hT hg) | skip)))
    )
  all_goals first
    | exact ret_b rfl (by rw [eq_comm, decide_eq_false_iff_not]; omega)
    | exact ret_b rfl (decide_eq_decide.2 (by omega))
    | trace_state
set_option maxRecDepth 100000 in
set_option maxHeartbeats 8000000 in
theorem rfits_con (c : Kl) (l : List Slc) (d : List Dfc) (hl : l.length ≤ maxLen) (hd : d.length ≤ maxLen) : Con Try.prog gl 16 [klV c, LL l, LD d] (.v (.bool (fitS l d c))) := by
  have c1 := rscheck_con (gl := gl) l hl
  have c2 := rdcheck_con (gl := gl) d hd
  refine con_of Try.func16 rfl (by kernel_rfl) rfl ?_
  simp only [Try.ntmps16, Try.results16, argEnv, ofC, of1, List.map]
  by_cases hb : bothOk l d
  rotate_left
  · rw [fit_no hb]
    by_cases h1 : solChk l = 0
    · have h2 : ¬ defChk d = 0 := fun h => hb ⟨h1, h⟩
      repeat' (first
        | ((with_reducible apply r_call); exact rfl; exact rfl; (first | exact c1 | exact c2); exact rfl; exact rfl)
        | ((with_reducible apply aw_seq))
        | ((with_reducible apply aw_region))
        | ((with_reducible apply thn_normal))
        | ((with_reducible apply thn_ret))
        | ((with_reducible apply aw_ret))
        | ((with_reducible apply ao_nil))
        | ((with_reducible apply r_move); exact rfl; exact rfl)
        | ((with_reducible apply r_assign); exact rfl; exact rfl)
        | ((with_reducible apply r_neq); exact rfl; exact rfl; exact rfl)
        | ((with_reducible apply r_box_a); exact rfl; exact rfl)
        | ((with_reducible apply r_pick_f); exact rfl; exact rfl; exact rfl)
        | (((with_reducible apply r_guard); exact rfl; exact rfl; exact rfl; exact rfl) <;> intro hg <;> (first | (exact absurd hg (by decide)) | ((try simp only [decide_eq_true_eq, decide_eq_false_iff_not, Bool.not_eq_true', Bool.not_eq_false', Bool.not_true, Bool.not_false, Bool.not_not, Int.not_lt, Int.not_le, Nat.not_lt, Nat.not_le, gt_iff_lt, ge_iff_le, List.cons.injEq, and_true] at hg); first | (exact absurd trivial hg) | (exfalso; omega) | (have hT : True := hg; clear hT hg) | skip)))
        | (((with_reducible apply aw_cond); exact rfl) <;> intro hg <;> (first | (exact absurd hg (by decide)) | ((try simp only [decide_eq_true_eq, decide_eq_false_iff_not, Bool.not_eq_true', Bool.not_eq_false', Bool.not_true, Bool.not_false, Bool.not_not, Int.not_lt, Int.not_le, Nat.not_lt, Nat.not_le, gt_iff_lt, ge_iff_le, List.cons.injEq, and_true] at hg); first | (exact absurd trivial hg) | (exfalso; omega) | (have hT : True := hg; clear hT hg) | skip)))
        )
      all_goals exact ret_b rfl rfl
    · skip
      repeat' (first
        | ((with_reducible apply r_call); exact rfl; exact rfl; (first | exact c1 | exact c2); exact rfl; exact rfl)
        | ((with_reducible apply aw_seq))
        | ((with_reducible apply aw_region))
        | ((with_reducible apply thn_normal))
        | ((with_reducible apply thn_ret))
        | ((with_reducible apply aw_ret))
        | ((with_reducible apply ao_nil))
        | ((with_reducible apply r_move); exact rfl; exact rfl)
        | ((with_reducible apply r_assign); exact rfl; exact rfl)
        | ((with_reducible apply r_neq); exact rfl; exact rfl; exact rfl)
        | ((with_reducible apply r_box_a); exact rfl; exact rfl)
        | ((with_reducible apply r_pick_t); exact rfl; exact rfl; exact rfl)
        | (((with_reducible apply r_guard); exact rfl; exact rfl; exact rfl; exact rfl) <;> intro hg <;> (first | (exact absurd hg (by decide)) | ((try simp only [decide_eq_true_eq, decide_eq_false_iff_not, Bool.not_eq_true', Bool.not_eq_false', Bool.not_true, Bool.not_false, Bool.not_not, Int.not_lt, Int.not_le, Nat.not_lt, Nat.not_le, gt_iff_lt, ge_iff_le, List.cons.injEq, and_true] at hg); first | (exact absurd trivial hg) | (exfalso; omega) | (have hT : True := hg; clear hT hg) | skip)))
        | (((with_reducible apply aw_cond); exact rfl) <;> intro hg <;> (first | (exact absurd hg (by decide)) | ((try simp only [decide_eq_true_eq, decide_eq_false_iff_not, Bool.not_eq_true', Bool.not_eq_false', Bool.not_true, Bool.not_false, Bool.not_not, Int.not_lt, Int.not_le, Nat.not_lt, Nat.not_le, gt_iff_lt, ge_iff_le, List.cons.injEq, and_true] at hg); first | (exact absurd trivial hg) | (exfalso; omega) | (have hT : True := hg; clear hT hg) | skip)))
        )
      all_goals exact ret_b rfl rfl
  rw [fit_ok hb]
  obtain ⟨h1, h2⟩ := hb
  rw [h1] at c1
  rw [h2] at c2
  have b1 := rtop_con (gl := gl) l hl
  have b2 := rslength_con (gl := gl) l hl
  have b3 := rsweep_con (gl := gl) l hl
  have b4 := rtaper_con (gl := gl) l hl
  have b5 := rcount_con (gl := gl) d 1 hd
  have b6 := rcount_con (gl := gl) d 2 hd
  have b7 := rcount_con (gl := gl) d 3 hd
  have d1 := cnt_bd d 1 d.length
  have d2 := cnt_bd d 2 d.length
  have d3 := def_len h2
  unfold measL
  have hf : fits (cnt d 1 + cnt d 2) := by
    show fits (cntN d 1 d.length + cntN d 2 d.length)
    unfold fits; omega
  clear d1 d2 d3
  revert b1 b2 b3 b4 b5 b6 b7 hf
  generalize topS l = m1
  generalize lengthS l = m2
  generalize sweepS l = m3
  generalize taperS l = m4
  generalize cnt d 1 = m5
  generalize cnt d 2 = m6
  generalize cnt d 3 = m7
  intro b1 b2 b3 b4 b5 b6 b7 hf
  unfold fitM
  dsimp only
  by_cases g : m1 < c.len ∨ m2 < c.lo ∨ c.hi < m2 ∨ c.taper < m3 ∨ c.sweep < m4
  · rw [decide_eq_false (by omega)]
    rcases (show m1 < c.len ∨ (¬ m1 < c.len ∧ m2 < c.lo) ∨ (¬ m1 < c.len ∧ ¬ m2 < c.lo ∧ c.hi < m2) ∨ (¬ m1 < c.len ∧ ¬ m2 < c.lo ∧ ¬ c.hi < m2 ∧ c.taper < m3) ∨ (¬ m1 < c.len ∧ ¬ m2 < c.lo ∧ ¬ c.hi < m2 ∧ ¬ c.taper < m3 ∧ c.sweep < m4) by omega) with g | ⟨g1, g⟩ | ⟨g1, g2, g⟩ | ⟨g1, g2, g3, g⟩ | ⟨g1, g2, g3, g4, g⟩
    all_goals
      repeat' (first
        | ((with_reducible apply r_call); exact rfl; exact rfl; (first | exact c1 | exact c2 | exact b1 | exact b2 | exact b3 | exact b4 | exact b5 | exact b6 | exact b7); exact rfl; exact rfl)
        | ((with_reducible apply aw_seq))
        | ((with_reducible apply aw_region))
        | ((with_reducible apply thn_normal))
        | ((with_reducible apply thn_ret))
        | ((with_reducible apply aw_skip))
        | ((with_reducible apply aw_ret))
        | ((with_reducible apply ao_nil))
        | ((with_reducible apply r_move); exact rfl; exact rfl)
        | ((with_reducible apply r_assign); exact rfl; exact rfl)
        | ((with_reducible apply r_field_p); exact rfl; exact rfl)
        | ((with_reducible apply r_load_p); exact rfl; exact rfl; exact rfl; exact rfl)
        | ((with_reducible apply r_lss); exact rfl; exact rfl; exact rfl)
        | ((with_reducible apply r_gtr); exact rfl; exact rfl; exact rfl)
        | ((with_reducible apply r_neq); exact rfl; exact rfl; exact rfl)
        | ((with_reducible apply r_box_a); exact rfl; exact rfl)
        | ((with_reducible apply r_pick_t); exact rfl; exact rfl; exact rfl)
        | ((with_reducible apply r_pick_f); exact rfl; exact rfl; exact rfl)
        | (((with_reducible apply r_guard); exact rfl; exact rfl; exact rfl; exact rfl) <;> intro hg <;> (first | (exact absurd hg (by decide)) | ((try simp only [decide_eq_true_eq, decide_eq_false_iff_not, Bool.not_eq_true', Bool.not_eq_false', Bool.not_true, Bool.not_false, Bool.not_not, Int.not_lt, Int.not_le, Nat.not_lt, Nat.not_le, gt_iff_lt, ge_iff_le, List.cons.injEq, and_true] at hg); first | (exact absurd trivial hg) | (exfalso; omega) | (have hT : True := hg; clear hT hg) | skip)))
        | (((with_reducible apply aw_cond); exact rfl) <;> intro hg <;> (first | (exact absurd hg (by decide)) | ((try simp only [decide_eq_true_eq, decide_eq_false_iff_not, Bool.not_eq_true', Bool.not_eq_false', Bool.not_true, Bool.not_false, Bool.not_not, Int.not_lt, Int.not_le, Nat.not_lt, Nat.not_le, gt_iff_lt, ge_iff_le, List.cons.injEq, and_true] at hg); first | (exact absurd trivial hg) | (exfalso; omega) | (have hT : True := hg; clear hT hg) | skip)))
        | (refine aw_drawq ?_ ?_; (kernel_rfl))
        | ((with_reducible apply ds_nil))
        | (((with_reducible apply rd_guard); exact rfl; exact rfl; exact rfl) <;> intro hg <;> (first | (exact absurd hg (by decide)) | ((try rw [hg]); (try simp only [decide_eq_true_eq, decide_eq_false_iff_not, Bool.not_eq_true', Bool.not_eq_false', Bool.not_true, Bool.not_false, Bool.not_not, Int.not_lt, Int.not_le, Nat.not_lt, Nat.not_le, gt_iff_lt, ge_iff_le, List.cons.injEq, and_true] at hg); first | (exact absurd trivial hg) | (exfalso; omega) | (have hT : True := hg; clear hT hg) | skip)))
        )
      all_goals exact ret_b rfl rfl
  · by_cases gk : m5 + m6 ≤ c.knots
    all_goals
      repeat' (first
        | ((with_reducible apply r_call); exact rfl; exact rfl; (first | exact c1 | exact c2 | exact b1 | exact b2 | exact b3 | exact b4 | exact b5 | exact b6 | exact b7); exact rfl; exact rfl)
        | ((with_reducible apply aw_seq))
        | ((with_reducible apply aw_region))
        | ((with_reducible apply thn_normal))
        | ((with_reducible apply aw_skip))
        | ((with_reducible apply aw_ret))
        | ((with_reducible apply ao_nil))
        | ((with_reducible apply r_move); exact rfl; exact rfl)
        | ((with_reducible apply r_assign); exact rfl; exact rfl)
        | ((with_reducible apply r_field_p); exact rfl; exact rfl)
        | ((with_reducible apply r_load_p); exact rfl; exact rfl; exact rfl; exact rfl)
        | ((with_reducible apply r_lss); exact rfl; exact rfl; exact rfl)
        | ((with_reducible apply r_leq); exact rfl; exact rfl; exact rfl)
        | ((with_reducible apply r_gtr); exact rfl; exact rfl; exact rfl)
        | ((with_reducible apply r_neq); exact rfl; exact rfl; exact rfl)
        | ((with_reducible apply r_add); exact rfl; exact rfl; exact (by first | assumption | (unfold fits; omega)); exact rfl)
        | ((with_reducible apply r_box_a); exact rfl; exact rfl)
        | ((with_reducible apply r_pick_t); exact rfl; exact rfl; exact rfl)
        | ((with_reducible apply r_pick_f); exact rfl; exact rfl; exact rfl)
        | (((with_reducible apply r_guard); exact rfl; exact rfl; exact rfl; exact rfl) <;> intro hg <;> (first | (exact absurd hg (by decide)) | ((try simp only [decide_eq_true_eq, decide_eq_false_iff_not, Bool.not_eq_true', Bool.not_eq_false', Bool.not_true, Bool.not_false, Bool.not_not, Int.not_lt, Int.not_le, Nat.not_lt, Nat.not_le, gt_iff_lt, ge_iff_le, List.cons.injEq, and_true] at hg); first | (exact absurd trivial hg) | (exfalso; omega) | (have hT : True := hg; clear hT hg) | skip)))
        | (((with_reducible apply aw_cond); exact rfl) <;> intro hg <;> (first | (exact absurd hg (by decide)) | ((try simp only [decide_eq_true_eq, decide_eq_false_iff_not, Bool.not_eq_true', Bool.not_eq_false', Bool.not_true, Bool.not_false, Bool.not_not, Int.not_lt, Int.not_le, Nat.not_lt, Nat.not_le, gt_iff_lt, ge_iff_le, List.cons.injEq, and_true] at hg); first | (exact absurd trivial hg) | (exfalso; omega) | (have hT : True := hg; clear hT hg) | skip)))
        | (refine aw_drawq ?_ ?_; (kernel_rfl))
        | ((with_reducible apply ds_nil))
        | (((with_reducible apply rd_guard); exact rfl; exact rfl; exact rfl) <;> intro hg <;> (first | (exact absurd hg (by decide)) | ((try rw [hg]); (try simp only [decide_eq_true_eq, decide_eq_false_iff_not, Bool.not_eq_true', Bool.not_eq_false', Bool.not_true, Bool.not_false, Bool.not_not, Int.not_lt, Int.not_le, Nat.not_lt, Nat.not_le, gt_iff_lt, ge_iff_le, List.cons.injEq, and_true] at hg); first | (exact absurd trivial hg) | (exfalso; omega) | (have hT : True := hg; clear hT hg) | skip)))
        )
      all_goals first
        | exact ret_b rfl (by rw [eq_comm, decide_eq_false_iff_not]; omega)
        | exact ret_b rfl (decide_eq_decide.2 (by omega))
        | trace_state
/-- The class of a log. -/
noncomputable def ofN (c : List Kl) (l : List Slc) (d : List Dfc) : Option Nat := open Classical in if klChk c = 0 then c.findIdx? (fitS l d) else none
def idxR : Option Nat → Int × Bool
  | some i => ((i : Int), true)
  | none => (0, false)
noncomputable def ofS (c : List Kl) (l : List Slc) (d : List Dfc) : Int × Bool := idxR (ofN c l d)
abbrev ofV (r : Int × Bool) : CV := .tup [I r.1, .v (.bool r.2)]
theorem of_bad {c : List Kl} {l : List Slc} {d : List Dfc} (h : ¬ klChk c = 0) : ofS c l d = (0, false) := by unfold ofS ofN; rw [if_neg h]; rfl
theorem of_some {c : List Kl} {l : List Slc} {d : List Dfc} (h : klChk c = 0) {i : Nat} (hi : i < c.length) (h1 : fitS l d c[i] = true) (h2 : ∀ j (hj : j < c.length), j < i → fitS l d c[j] = false) : ofS c l d = ((i : Int), true) := by
  unfold ofS ofN
  rw [if_pos h, (List.findIdx?_eq_some_iff_getElem (i := i)).2 ⟨hi, h1, fun j hj => by rw [h2 j (by omega) hj]; decide⟩]
  rfl
theorem of_none {c : List Kl} {l : List Slc} {d : List Dfc} (h : klChk c = 0) (h2 : ∀ j (hj : j < c.length), fitS l d c[j] = false) : ofS c l d = (0, false) := by
  unfold ofS ofN
  rw [if_pos h, List.findIdx?_eq_none_iff.2 (fun x hx => by obtain ⟨i, hi, rfl⟩ := List.mem_iff_getElem.1 hx; exact h2 i hi)]
  rfl
end Go.Proofs.Ytokkpocccgdilaa.Ge
