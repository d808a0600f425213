/- TE TF: texts laid together. -/
import Derived.Test.YtdndfncpglfdeaaMrgX0
import Derived.Test.YtdndfncpglfdeaaMrgE5
set_option maxRecDepth 100000
set_option maxHeartbeats 64000000
/- Boards for orders: Valid, unfilled. -/
namespace Go.Proofs.Ytdndfncpglfdeaa.To
set_option linter.unusedVariables false
set_option linter.unusedSimpArgs false
open Go.RowKit Go.Proofs.Ytdndfncpglfdeaa.Ev
variable {gl : List (Nat × List CV)}
theorem cnt_mono (f : Asg) (i : Nat) {j k : Nat} (h : j ≤ k) : cnt f i j ≤ cnt f i k := by
  induction k with
  | zero => rw [show j = 0 by omega]; exact Nat.le_refl _
  | succ k ih =>
    rcases Nat.lt_or_ge k j with hc | hc
    · rw [show j = k + 1 by omega]; exact Nat.le_refl _
    · have := ih hc
      rw [cnt_succ]; omega
theorem fit_get {F : List (List Bool)} {B i b : Nat} (h : Tab F B) (hi : i < F.length) (hb : b < B) : fit F i b = (F[i])[b]'(by rw [h.row i hi]; exact hb) := by
  unfold fit
  have hb' : b < F[i].length := by rw [h.row i hi]; exact hb
  rw [List.getD_eq_getElem?_getD (l := F), List.getElem?_eq_getElem hi]
  show F[i].getD b false = _
  rw [List.getD_eq_getElem?_getD, List.getElem?_eq_getElem hb']; rfl
theorem valid_con (F : List (List Bool)) (B : Nat) (most to : List Int) (h : Tab F B) (hm : MostA F most) (hl : to.length ≤ 1000000000) (vb : Bool) (hvb : vb = true ↔ ValidA F B most to) : Con Try.prog gl 10 [LLB F, LI most, LI to] (BO vb) := by
  have hn := h.n
  have hb := h.b
  have hml := hm.len
  have c1 := check_con (gl := gl) F B most h hm
  have c2 := columns_con (gl := gl) F B h
  by_cases hlen : to.length = B
  rotate_left
  · have hvf : vb = false := by
      cases hv : vb with
      | false => rfl
      | true => exact absurd (hvb.1 hv).len hlen
    subst hvf
    refine con_of Try.func10 rfl (by kernel_rfl) rfl ?_
    simp only [Try.ntmps10, Try.results10, argEnv, ofC, of1, List.map]
    repeat' (first
 | ((with_reducible apply (r_call (f := 16))); exact rfl; exact rfl; exact c1; exact rfl; exact rfl)
 | ((with_reducible apply (r_call (f := 22))); exact rfl; exact rfl; exact c2; exact rfl; exact rfl)
 | ((with_reducible apply aw_seq))
 | ((with_reducible apply aw_region))
 | ((with_reducible apply thn_normal))
 | ((with_reducible apply thn_ret))
 | ((with_reducible apply aw_ret))
 | ((with_reducible apply ao_nil))
 | ((with_reducible apply r_move); exact rfl; exact rfl)
 | ((with_reducible apply r_assign); exact rfl; exact rfl)
 | ((with_reducible apply r_neq); exact rfl; exact rfl; exact rfl)
 | ((with_reducible apply r_pick_f); exact rfl; exact rfl; exact rfl)
 | ((with_reducible apply r_len_f); exact rfl; exact inferInstance; exact rfl)
 | (((with_reducible apply r_guard); exact rfl; exact rfl; exact rfl; exact rfl) <;> intro hg <;> (first | (exact absurd hg (by decide)) | ((try simp only [decide_eq_true_eq, decide_eq_false_iff_not, Bool.not_eq_true', Bool.not_eq_false', Bool.not_true, Bool.not_false, Bool.not_not, Int.not_lt, Int.not_le, Nat.not_lt, Nat.not_le, gt_iff_lt, ge_iff_le, List.cons.injEq, and_true] at hg); first | (exact absurd trivial hg) | (exfalso; omega) | (have hT : True := hg; clear hT hg) | skip)))
 | (((with_reducible apply aw_cond); exact rfl) <;> intro hg <;> (first | (exact absurd hg (by decide)) | ((try simp only [decide_eq_true_eq, decide_eq_false_iff_not, Bool.not_eq_true', Bool.not_eq_false', Bool.not_true, Bool.not_false, Bool.not_not, Int.not_lt, Int.not_le, Nat.not_lt, Nat.not_le, gt_iff_lt, ge_iff_le, List.cons.injEq, and_true] at hg); first | (exact absurd trivial hg) | (exfalso; omega) | (have hT : True := hg; clear hT hg) | skip)))
 )
    all_goals exact ret_b rfl rfl
  refine con_of Try.func10 rfl (by kernel_rfl) rfl ?_
  simp only [Try.ntmps10, Try.results10, argEnv, ofC, of1, List.map]
  repeat' (first
 | ((with_reducible apply (r_call (f := 16))); exact rfl; exact rfl; exact c1; exact rfl; exact rfl)
 | ((with_reducible apply (r_call (f := 22))); exact rfl; exact rfl; exact c2; exact rfl; exact rfl)
 | ((with_reducible apply r_make (enc := intC) (0 : Int) F.length); exact inferInstance; exact rfl; exact rfl; exact rfl; exact rfl; exact rfl; omega; omega; exact rfl)
 | ((with_reducible apply aw_seq))
 | ((with_reducible apply aw_region))
 | ((with_reducible apply aw_block))
 | ((with_reducible apply thn_normal))
 | ((with_reducible apply aw_skip))
 | ((with_reducible apply ao_nil))
 | ((with_reducible apply r_move); exact rfl; exact rfl)
 | ((with_reducible apply r_assign); exact rfl; exact rfl)
 | ((with_reducible apply r_neq); exact rfl; exact rfl; exact rfl)
 | ((with_reducible apply r_pick_f); exact rfl; exact rfl; exact rfl)
 | ((with_reducible apply r_len_f); exact rfl; exact inferInstance; exact rfl)
 | (((with_reducible apply r_guard); exact rfl; exact rfl; exact rfl; exact rfl) <;> intro hg <;> (first | (exact absurd hg (by decide)) | ((try simp only [decide_eq_true_eq, decide_eq_false_iff_not, Bool.not_eq_true', Bool.not_eq_false', Bool.not_true, Bool.not_false, Bool.not_not, Int.not_lt, Int.not_le, Nat.not_lt, Nat.not_le, gt_iff_lt, ge_iff_le, List.cons.injEq, and_true] at hg); first | (exact absurd trivial hg) | (exfalso; omega) | (have hT : True := hg; clear hT hg) | skip)))
 | (((with_reducible apply aw_cond); exact rfl) <;> intro hg <;> (first | (exact absurd hg (by decide)) | ((try simp only [decide_eq_true_eq, decide_eq_false_iff_not, Bool.not_eq_true', Bool.not_eq_false', Bool.not_true, Bool.not_false, Bool.not_not, Int.not_lt, Int.not_le, Nat.not_lt, Nat.not_le, gt_iff_lt, ge_iff_le, List.cons.injEq, and_true] at hg); first | (exact absurd trivial hg) | (exfalso; omega) | (have hT : True := hg; clear hT hg) | skip)))
 )
  refine aw_loopG (G := Nat × List Int) (fun ((j, s) : Nat × List Int) => j ≤ to.length ∧ s = cntL (asgL to) F.length j ∧ (∀ (b : Nat) (x : Int), b < j → to[b]? = some x → x = -1 ∨ (0 ≤ x ∧ x < F.length ∧ fit F x.toNat b = true)) ∧ ∀ i, i < F.length → (cnt (asgL to) i j : Int) ≤ most.getD i 0) (fun ((j, s) : Nat × List Int) => to.length - j) (fun ((j, s) : Nat × List Int) => [(0, .c (LLB F)), (1, .c (LI most)), (7, .vec 0 F.length), (24, .c (LI to)), (25, A to.length), (26, A j)]) (fun ((j, s) : Nat × List Int) => [(0, some (.vec 3 1 (s.flatMap intC)))]) 1 (0, List.replicate F.length 0) ?_ (by refine weak_mk rfl ?_ ?_ <;> repeat (first | exact envW_nil | exact heapW_nil | refine envW_cons rfl rfl ?_ | refine heapW_cons rfl rfl rfl ?_)) rfl ?_
  · refine ⟨Nat.zero_le _, (cntL_zero _ _).symm, fun b x hb' => absurd hb' (Nat.not_lt_zero _), fun i hi => ?_⟩
    have h1 : i < most.length := by omega
    rw [getD_get h1]
    exact (hm.bd i h1).1
  rintro ⟨j, s⟩ hI
  try dsimp only at hI
  try dsimp only
  obtain ⟨hj, hs, hat, hle⟩ := hI
  have hsl : s.length = F.length := by rw [hs, cntL_len]
  by_cases hjl : j < to.length
  rotate_left
  · obtain rfl : j = to.length := by omega
    have hvt : vb = true := hvb.2 ⟨hlen, fun b x hx => hat b x (List.getElem?_eq_some_iff.1 hx).1 hx, fun i hi => by rw [← hlen]; exact hle i hi⟩
    subst hvt
    repeat' (first
 | ((with_reducible apply aw_seq))
 | ((with_reducible apply aw_region))
 | ((with_reducible apply thn_normal))
 | ((with_reducible apply thn_exit))
 | ((with_reducible apply inb_exit))
 | ((with_reducible apply aw_exit))
 | ((with_reducible apply aw_ret))
 | ((with_reducible apply ao_nil))
 | ((with_reducible apply r_assign); exact rfl; exact rfl)
 | ((with_reducible apply r_lss); exact rfl; exact rfl; exact rfl)
 | (((with_reducible apply aw_cond); exact rfl) <;> intro hg <;> (first | (exact absurd hg (by decide)) | ((try simp only [decide_eq_true_eq, decide_eq_false_iff_not, Bool.not_eq_true', Bool.not_eq_false', Bool.not_true, Bool.not_false, Bool.not_not, Int.not_lt, Int.not_le, Nat.not_lt, Nat.not_le, gt_iff_lt, ge_iff_le, List.cons.injEq, and_true] at hg); first | (exact absurd trivial hg) | (exfalso; omega) | (have hT : True := hg; clear hT hg) | skip)))
 )
    exact ret_b rfl rfl
  have hget : to[j]? = some to[j] := List.getElem?_eq_getElem hjl
  by_cases h1 : to[j] = -1
  · have hset : cntL (asgL to) F.length (j + 1) = cntL (asgL to) F.length j := cntL_same (fun i hi e => by
      rw [asgL_neg hjl (by omega)] at e; cases e)
    repeat' (first
 | ((with_reducible apply aw_seq))
 | ((with_reducible apply aw_region))
 | ((with_reducible apply aw_block))
 | ((with_reducible apply thn_normal))
 | ((with_reducible apply thn_exit))
 | ((with_reducible apply inb_exit))
 | ((with_reducible apply aw_skip))
 | ((with_reducible apply aw_exit))
 | ((with_reducible apply ao_nil))
 | ((with_reducible apply r_move); exact rfl; exact rfl)
 | ((with_reducible apply r_assign); exact rfl; exact rfl)
 | ((with_reducible apply r_lss); exact rfl; exact rfl; exact rfl)
 | ((with_reducible apply r_eql); exact rfl; exact rfl; exact rfl)
 | ((with_reducible apply r_add); exact rfl; exact rfl; exact (by first | assumption | (unfold fits; omega)); exact rfl)
 | ((with_reducible apply r_index_f); exact rfl; exact inferInstance; exact rfl; exact rfl; (first | assumption | omega); exact rfl)
 | ((with_reducible apply r_load_f0); exact rfl; exact inferInstance; exact List.getElem?_eq_getElem (by first | assumption | omega); exact rfl; exact rfl)
 | (((with_reducible apply aw_cond); exact rfl) <;> intro hg <;> (first | (exact absurd hg (by decide)) | ((try simp only [decide_eq_true_eq, decide_eq_false_iff_not, Bool.not_eq_true', Bool.not_eq_false', Bool.not_true, Bool.not_false, Bool.not_not, Int.not_lt, Int.not_le, Nat.not_lt, Nat.not_le, gt_iff_lt, ge_iff_le, List.cons.injEq, and_true] at hg); first | (exact absurd trivial hg) | (exfalso; omega) | (have hT : True := hg; clear hT hg) | skip)))
 )
    all_goals
      refine ⟨(j + 1, s), ?_, ?_, by refine weak_mk rfl ?_ ?_ <;> repeat (first | exact envW_nil | exact heapW_nil | refine envW_cons rfl rfl ?_ | refine heapW_cons rfl rfl rfl ?_)⟩
      · show to.length - (j + 1) < to.length - j; omega
      · refine ⟨by show j + 1 ≤ _; omega, hs.trans hset.symm, fun b x hb' hx => ?_, fun i hi => ?_⟩
        · by_cases e : b = j
          · subst e; rw [hget] at hx; cases hx; exact .inl h1
          · exact hat b x (by show b < j; have hb' : b < j + 1 := hb'; omega) hx
        · show (cnt (asgL to) i (j + 1) : Int) ≤ _
          rw [cnt_succ, asgL_neg hjl (by omega), if_neg (fun e => by cases e)]
          exact hle i hi
  by_cases hin : 0 ≤ to[j] ∧ to[j] < F.length
  rotate_left
  · have hvf : vb = false := by
      cases hv : vb with
      | false => rfl
      | true =>
        rcases (hvb.1 hv).at_ j _ hget with e | e
        · exact absurd e h1
        · exact absurd ⟨e.1, e.2.1⟩ hin
    subst hvf
    repeat' (first
 | ((with_reducible apply aw_seq))
 | ((with_reducible apply aw_region))
 | ((with_reducible apply aw_block))
 | ((with_reducible apply thn_normal))
 | ((with_reducible apply thn_ret))
 | ((with_reducible apply inb_ret))
 | ((with_reducible apply aw_skip))
 | ((with_reducible apply aw_ret))
 | ((with_reducible apply ao_nil))
 | ((with_reducible apply r_move); exact rfl; exact rfl)
 | ((with_reducible apply r_assign); exact rfl; exact rfl)
 | ((with_reducible apply r_lss); exact rfl; exact rfl; exact rfl)
 | ((with_reducible apply r_geq); exact rfl; exact rfl; exact rfl)
 | ((with_reducible apply r_eql); exact rfl; exact rfl; exact rfl)
 | ((with_reducible apply r_pick_t); exact rfl; exact rfl; exact rfl)
 | ((with_reducible apply r_pick_f); exact rfl; exact rfl; exact rfl)
 | ((with_reducible apply r_len_f); exact rfl; exact inferInstance; exact rfl)
 | ((with_reducible apply r_index_f); exact rfl; exact inferInstance; exact rfl; exact rfl; (first | assumption | omega); exact rfl)
 | ((with_reducible apply r_load_f0); exact rfl; exact inferInstance; exact List.getElem?_eq_getElem (by first | assumption | omega); exact rfl; exact rfl)
 | (((with_reducible apply r_guard); exact rfl; exact rfl; exact rfl; exact rfl) <;> intro hg <;> (first | (exact absurd hg (by decide)) | ((try simp only [decide_eq_true_eq, decide_eq_false_iff_not, Bool.not_eq_true', Bool.not_eq_false', Bool.not_true, Bool.not_false, Bool.not_not, Int.not_lt, Int.not_le, Nat.not_lt, Nat.not_le, gt_iff_lt, ge_iff_le, List.cons.injEq, and_true] at hg); first | (exact absurd trivial hg) | (exfalso; omega) | (have hT : True := hg; clear hT hg) | skip)))
 | (((with_reducible apply aw_cond); exact rfl) <;> intro hg <;> (first | (exact absurd hg (by decide)) | ((try simp only [decide_eq_true_eq, decide_eq_false_iff_not, Bool.not_eq_true', Bool.not_eq_false', Bool.not_true, Bool.not_false, Bool.not_not, Int.not_lt, Int.not_le, Nat.not_lt, Nat.not_le, gt_iff_lt, ge_iff_le, List.cons.injEq, and_true] at hg); first | (exact absurd trivial hg) | (exfalso; omega) | (have hT : True := hg; clear hT hg) | skip)))
 )
    all_goals exact ret_b rfl rfl
  have hk : to[j].toNat < F.length := by omega
  have hrow := h.row _ hk
  have hfg := fit_get h hk (b := j) (by omega)
  by_cases hf : fit F to[j].toNat j = true
  rotate_left
  · have hvf : vb = false := by
      cases hv : vb with
      | false => rfl
      | true =>
        rcases (hvb.1 hv).at_ j _ hget with e | e
        · exact absurd e h1
        · exact absurd e.2.2 hf
    subst hvf
    have hff : (F[to[j].toNat])[j]'(by omega) = false := by
      rw [← hfg]; simpa using hf
    repeat' (first
 | ((with_reducible apply r_not); exact (by rw [hff]; rfl); exact rfl)
 | ((with_reducible apply aw_seq))
 | ((with_reducible apply aw_region))
 | ((with_reducible apply aw_block))
 | ((with_reducible apply thn_normal))
 | ((with_reducible apply thn_ret))
 | ((with_reducible apply inb_ret))
 | ((with_reducible apply aw_skip))
 | ((with_reducible apply aw_ret))
 | ((with_reducible apply ao_nil))
 | ((with_reducible apply r_move); exact rfl; exact rfl)
 | ((with_reducible apply r_assign); exact rfl; exact rfl)
 | ((with_reducible apply r_lss); exact rfl; exact rfl; exact rfl)
 | ((with_reducible apply r_geq); exact rfl; exact rfl; exact rfl)
 | ((with_reducible apply r_eql); exact rfl; exact rfl; exact rfl)
 | ((with_reducible apply r_pick_f); exact rfl; exact rfl; exact rfl)
 | ((with_reducible apply r_len_f); exact rfl; exact inferInstance; exact rfl)
 | ((with_reducible apply r_index_f); exact rfl; exact inferInstance; exact rfl; exact rfl; (first | assumption | omega); exact rfl)
 | ((with_reducible apply r_index_f); exact rfl; exact inferInstance; exact rfl; exact (Int.toNat_of_nonneg (by omega)).symm; (first | assumption | omega); exact rfl)
 | ((with_reducible apply r_load_f0); exact rfl; exact inferInstance; exact List.getElem?_eq_getElem (by first | assumption | omega); exact rfl; exact rfl)
 | (((with_reducible apply r_guard); exact rfl; exact rfl; exact rfl; exact rfl) <;> intro hg <;> (first | (exact absurd hg (by decide)) | ((try simp only [decide_eq_true_eq, decide_eq_false_iff_not, Bool.not_eq_true', Bool.not_eq_false', Bool.not_true, Bool.not_false, Bool.not_not, Int.not_lt, Int.not_le, Nat.not_lt, Nat.not_le, gt_iff_lt, ge_iff_le, List.cons.injEq, and_true] at hg); first | (exact absurd trivial hg) | (exfalso; omega) | (have hT : True := hg; clear hT hg) | skip)))
 | (((with_reducible apply aw_cond); exact rfl) <;> intro hg <;> (first | (exact absurd hg (by decide)) | ((try simp only [decide_eq_true_eq, decide_eq_false_iff_not, Bool.not_eq_true', Bool.not_eq_false', Bool.not_true, Bool.not_false, Bool.not_not, Int.not_lt, Int.not_le, Nat.not_lt, Nat.not_le, gt_iff_lt, ge_iff_le, List.cons.injEq, and_true] at hg); first | (exact absurd trivial hg) | (exfalso; omega) | (have hT : True := hg; clear hT hg) | skip)))
 )
    all_goals exact ret_b rfl rfl
  have hft : (F[to[j].toNat])[j]'(by omega) = true := by rw [← hfg]; exact hf
  have hv : s[to[j].toNat]'(by omega) = (cnt (asgL to) to[j].toNat j : Int) := by
    subst hs
    exact cntL_getI _ _ hk _
  have hcl := cnt_le (asgL to) to[j].toNat j
  have hset := cntL_set (asgL_pos hjl hin.1) hk (n := F.length)
  have hcs : cnt (asgL to) to[j].toNat (j + 1) = cnt (asgL to) to[j].toNat j + 1 := by rw [cnt_succ, asgL_pos hjl hin.1, if_pos rfl]
  have hmk : to[j].toNat < most.length := by omega
  have hmd := getD_get hmk
  have hsn : (s.set to[j].toNat ((cnt (asgL to) to[j].toNat j : Int) + 1))[to[j].toNat]'(by rw [List.length_set]; omega) = (cnt (asgL to) to[j].toNat j : Int) + 1 := by rw [List.getElem_set_self]
  have hsl2 : (s.set to[j].toNat ((cnt (asgL to) to[j].toNat j : Int) + 1)).length = F.length := by rw [List.length_set]; exact hsl
  repeat' (first
 | ((with_reducible apply (r_store_v (enc := intC) (k := to[j].toNat) (l := s) ((cnt (asgL to) to[j].toNat j : Int) + 1))); exact rfl; exact rfl; exact inferInstance; exact hsl; exact (by omega); exact rfl; exact rfl; exact rfl; (rw [hv]; exact rfl))
 | ((with_reducible apply r_not); exact (by rw [hft]; rfl); exact rfl)
 | ((with_reducible apply aw_seq))
 | ((with_reducible apply aw_region))
 | ((with_reducible apply aw_block))
 | ((with_reducible apply thn_normal))
 | ((with_reducible apply thn_ret))
 | ((with_reducible apply inb_normal))
 | ((with_reducible apply inb_ret))
 | ((with_reducible apply aw_skip))
 | ((with_reducible apply aw_ret))
 | ((with_reducible apply ao_nil))
 | ((with_reducible apply r_move); exact rfl; exact rfl)
 | ((with_reducible apply r_assign); exact rfl; exact rfl)
 | ((with_reducible apply r_lss); exact rfl; exact rfl; exact rfl)
 | ((with_reducible apply r_gtr); exact rfl; exact rfl; exact rfl)
 | ((with_reducible apply r_geq); exact rfl; exact rfl; exact rfl)
 | ((with_reducible apply r_eql); exact rfl; exact rfl; exact rfl)
 | ((with_reducible apply r_add); exact rfl; exact rfl; exact (by first | assumption | (unfold fits; omega)); exact rfl)
 | ((with_reducible apply r_pick_f); exact rfl; exact rfl; exact rfl)
 | ((with_reducible apply r_len_f); exact rfl; exact inferInstance; exact rfl)
 | ((with_reducible apply r_index_f); exact rfl; exact inferInstance; exact rfl; exact rfl; (first | assumption | omega); exact rfl)
 | ((with_reducible apply r_index_f); exact rfl; exact inferInstance; exact rfl; exact (Int.toNat_of_nonneg (by omega)).symm; (first | assumption | omega); exact rfl)
 | ((with_reducible apply r_load_f0); exact rfl; exact inferInstance; exact List.getElem?_eq_getElem (by first | assumption | omega); exact rfl; exact rfl)
 | ((with_reducible apply r_index_vf); exact rfl; exact rfl; exact inferInstance; (first | exact rfl | assumption | omega); exact rfl; exact (Int.toNat_of_nonneg (by omega)).symm; (first | assumption | omega); exact rfl)
 | ((with_reducible apply r_load_vf0); exact rfl; exact rfl; exact inferInstance; (first | exact rfl | assumption | omega); exact List.getElem?_eq_getElem (by first | assumption | omega); exact rfl; exact rfl)
 | (((with_reducible apply r_guard); exact rfl; exact rfl; exact rfl; exact rfl) <;> intro hg <;> (first | (exact absurd hg (by decide)) | ((try simp only [decide_eq_true_eq, decide_eq_false_iff_not, Bool.not_eq_true', Bool.not_eq_false', Bool.not_true, Bool.not_false, Bool.not_not, Int.not_lt, Int.not_le, Nat.not_lt, Nat.not_le, gt_iff_lt, ge_iff_le, List.cons.injEq, and_true] at hg); first | (exact absurd trivial hg) | (exfalso; omega) | (have hT : True := hg; clear hT hg) | skip)))
 | (((with_reducible apply aw_cond); exact rfl) <;> intro hg <;> (first | (exact absurd hg (by decide)) | ((try simp only [decide_eq_true_eq, decide_eq_false_iff_not, Bool.not_eq_true', Bool.not_eq_false', Bool.not_true, Bool.not_false, Bool.not_not, Int.not_lt, Int.not_le, Nat.not_lt, Nat.not_le, gt_iff_lt, ge_iff_le, List.cons.injEq, and_true] at hg); first | (exact absurd trivial hg) | (exfalso; omega) | (have hT : True := hg; clear hT hg) | skip)))
 | (refine aw_drawq ?_ ?_; (kernel_rfl))
 | ((with_reducible apply ds_nil))
 )
  all_goals rw [hsn] at hg
  · have hvf : vb = false := by
      cases hv : vb with
      | false => rfl
      | true =>
        have e1 := (hvb.1 hv).le _ hk
        have e2 := cnt_mono (asgL to) to[j].toNat (show j + 1 ≤ B by omega)
        rw [hmd] at e1
        omega
    subst hvf
    exact ret_b rfl rfl
  · skip
    refine ⟨(j + 1, s.set to[j].toNat ((cnt (asgL to) to[j].toNat j : Int) + 1)), ?_, ?_, by refine weak_mk rfl ?_ ?_ <;> repeat (first | exact envW_nil | exact heapW_nil | refine envW_cons rfl rfl ?_ | refine heapW_cons rfl rfl rfl ?_)⟩
    · show to.length - (j + 1) < to.length - j; omega
    · refine ⟨by show j + 1 ≤ _; omega, by show List.set _ _ _ = _; rw [hs]; exact hset, fun b x hb' hx => ?_, fun i hi => ?_⟩
      · by_cases e : b = j
        · subst e; rw [hget] at hx; cases hx; exact .inr ⟨hin.1, hin.2, hf⟩
        · exact hat b x (by show b < j; have hb' : b < j + 1 := hb'; omega) hx
      · show (cnt (asgL to) i (j + 1) : Int) ≤ _
        by_cases e : i = to[j].toNat
        · subst e; rw [hcs, hmd]; omega
        · rw [cnt_succ, asgL_pos hjl hin.1, if_neg (fun e' => e (by cases e'; rfl))]
          exact hle i hi
def shortS (c least : List Int) : Nat → Option Nat
  | 0 => none
  | k + 1 => match shortS c least k with
    | some i => some i
    | none => if 0 < c.getD k 0 ∧ c.getD k 0 < least.getD k 0 then some k else none
theorem short_some {c least : List Int} : ∀ {k i : Nat}, shortS c least k = some i → i < k ∧ 0 < c.getD i 0 ∧ c.getD i 0 < least.getD i 0
  | 0, i, h => by cases h
  | k + 1, i, h => by
    unfold shortS at h
    split at h
    · rename_i j hj
      cases h
      obtain ⟨h1, h2⟩ := short_some hj
      exact ⟨by omega, h2⟩
    · split at h
      · rename_i hc; cases h; exact ⟨Nat.lt_succ_self _, hc⟩
      · cases h
theorem short_none {c least : List Int} : ∀ {k : Nat}, shortS c least k = none → ∀ i, i < k → ¬ (0 < c.getD i 0 ∧ c.getD i 0 < least.getD i 0)
  | 0, _, i, h => absurd h (Nat.not_lt_zero _)
  | k + 1, h, i, hi => by
    unfold shortS at h
    split at h
    · cases h
    · rename_i hn
      split at h
      · cases h
      · rename_i hc
        by_cases e : i = k
        · subst e; exact hc
        · exact short_none hn i (by omega)
theorem short_more {c least : List Int} {i : Nat} : ∀ {k m : Nat}, shortS c least k = some i → k ≤ m → shortS c least m = some i
  | k, 0, h, hm => by rw [show (0 : Nat) = k by omega]; exact h
  | k, m + 1, h, hm => by
    by_cases e : k = m + 1
    · rw [← e]; exact h
    · unfold shortS
      rw [short_more (m := m) h (by omega)]
def unfS (c least : List Int) : Int × Bool := match shortS c least c.length with
  | some i => (i, true)
  | none => (0, false)
theorem unfilled_con (c least : List Int) (hl : least.length = c.length) (hn : c.length ≤ 32) : Con Try.prog gl 20 [LI c, LI least] (.tup [I (unfS c least).1, BO (unfS c least).2]) := by
  refine con_of Try.func20 rfl (by kernel_rfl) rfl ?_
  simp only [Try.ntmps20, Try.results20, argEnv, ofC, of1, List.map]
  repeat' (first
 | ((with_reducible apply aw_seq))
 | ((with_reducible apply aw_region))
 | ((with_reducible apply aw_block))
 | ((with_reducible apply thn_normal))
 | ((with_reducible apply ao_nil))
 | ((with_reducible apply r_move); exact rfl; exact rfl)
 | ((with_reducible apply r_assign); exact rfl; exact rfl)
 | ((with_reducible apply r_len_f); exact rfl; exact inferInstance; exact rfl)
 )
  refine aw_loopG (G := Nat) (fun (j : Nat) => j ≤ c.length ∧ shortS c least j = none) (fun (j : Nat) => c.length - j) (fun (j : Nat) => [(1, .c (LI least)), (8, .c (LI c)), (9, A c.length), (10, A j)]) (fun (j : Nat) => []) 0 0 ?_ (by refine weak_mk rfl ?_ ?_ <;> repeat (first | exact envW_nil | exact heapW_nil | refine envW_cons rfl rfl ?_ | refine heapW_cons rfl rfl rfl ?_)) rfl ?_
  · exact ⟨Nat.zero_le _, rfl⟩
  rintro j hI
  try dsimp only at hI
  try dsimp only
  obtain ⟨hj, hsh⟩ := hI
  by_cases hjl : j < c.length
  rotate_left
  · obtain rfl : j = c.length := by omega
    have hu : unfS c least = (0, false) := by unfold unfS; rw [hsh]
    rw [hu]
    repeat' (first
 | ((with_reducible apply aw_seq))
 | ((with_reducible apply aw_region))
 | ((with_reducible apply thn_normal))
 | ((with_reducible apply thn_exit))
 | ((with_reducible apply inb_exit))
 | ((with_reducible apply aw_exit))
 | ((with_reducible apply aw_ret))
 | ((with_reducible apply ao_nil))
 | ((with_reducible apply r_assign); exact rfl; exact rfl)
 | ((with_reducible apply r_lss); exact rfl; exact rfl; exact rfl)
 | (((with_reducible apply aw_cond); exact rfl) <;> intro hg <;> (first | (exact absurd hg (by decide)) | ((try simp only [decide_eq_true_eq, decide_eq_false_iff_not, Bool.not_eq_true', Bool.not_eq_false', Bool.not_true, Bool.not_false, Bool.not_not, Int.not_lt, Int.not_le, Nat.not_lt, Nat.not_le, gt_iff_lt, ge_iff_le, List.cons.injEq, and_true] at hg); first | (exact absurd trivial hg) | (exfalso; omega) | (have hT : True := hg; clear hT hg) | skip)))
 )
    exact ret2 (.cons (.tmp rfl cl_c) (.cons (.tmp rfl cl_c) .nil))
  have hc1 := getD_get hjl
  have hc2 := getD_get (l := least) (i := j) (by omega)
  by_cases hc : 0 < c[j] ∧ c[j] < least[j]
  · have hu : unfS c least = ((j : Int), true) := by
      have h1 : shortS c least (j + 1) = some j := by
        unfold shortS
        rw [hsh]
        show (if _ then _ else _) = _
        rw [if_pos (by rw [hc1, hc2]; exact hc)]
      unfold unfS
      rw [short_more h1 (by omega)]
    rw [hu]
    repeat' (first
 | ((with_reducible apply aw_seq))
 | ((with_reducible apply aw_region))
 | ((with_reducible apply aw_block))
 | ((with_reducible apply thn_normal))
 | ((with_reducible apply thn_ret))
 | ((with_reducible apply inb_ret))
 | ((with_reducible apply aw_skip))
 | ((with_reducible apply aw_ret))
 | ((with_reducible apply ao_nil))
 | ((with_reducible apply r_move); exact rfl; exact rfl)
 | ((with_reducible apply r_assign); exact rfl; exact rfl)
 | ((with_reducible apply r_lss); exact rfl; exact rfl; exact rfl)
 | ((with_reducible apply r_gtr); exact rfl; exact rfl; exact rfl)
 | ((with_reducible apply r_pick_t); exact rfl; exact rfl; exact rfl)
 | ((with_reducible apply r_index_f); exact rfl; exact inferInstance; exact rfl; exact rfl; (first | assumption | omega); exact rfl)
 | ((with_reducible apply r_load_f0); exact rfl; exact inferInstance; exact List.getElem?_eq_getElem (by first | assumption | omega); exact rfl; exact rfl)
 | (((with_reducible apply r_guard); exact rfl; exact rfl; exact rfl; exact rfl) <;> intro hg <;> (first | (exact absurd hg (by decide)) | ((try simp only [decide_eq_true_eq, decide_eq_false_iff_not, Bool.not_eq_true', Bool.not_eq_false', Bool.not_true, Bool.not_false, Bool.not_not, Int.not_lt, Int.not_le, Nat.not_lt, Nat.not_le, gt_iff_lt, ge_iff_le, List.cons.injEq, and_true] at hg); first | (exact absurd trivial hg) | (exfalso; omega) | (have hT : True := hg; clear hT hg) | skip)))
 | (((with_reducible apply aw_cond); exact rfl) <;> intro hg <;> (first | (exact absurd hg (by decide)) | ((try simp only [decide_eq_true_eq, decide_eq_false_iff_not, Bool.not_eq_true', Bool.not_eq_false', Bool.not_true, Bool.not_false, Bool.not_not, Int.not_lt, Int.not_le, Nat.not_lt, Nat.not_le, gt_iff_lt, ge_iff_le, List.cons.injEq, and_true] at hg); first | (exact absurd trivial hg) | (exfalso; omega) | (have hT : True := hg; clear hT hg) | skip)))
 )
    all_goals exact ret2 (.cons (.tmp rfl cl_c) (.cons (.tmp rfl cl_c) .nil))
  · skip
    repeat' (first
 | ((with_reducible apply aw_seq))
 | ((with_reducible apply aw_region))
 | ((with_reducible apply aw_block))
 | ((with_reducible apply thn_normal))
 | ((with_reducible apply inb_normal))
 | ((with_reducible apply aw_skip))
 | ((with_reducible apply ao_nil))
 | ((with_reducible apply r_move); exact rfl; exact rfl)
 | ((with_reducible apply r_assign); exact rfl; exact rfl)
 | ((with_reducible apply r_lss); exact rfl; exact rfl; exact rfl)
 | ((with_reducible apply r_gtr); exact rfl; exact rfl; exact rfl)
 | ((with_reducible apply r_add); exact rfl; exact rfl; exact (by first | assumption | (unfold fits; omega)); exact rfl)
 | ((with_reducible apply r_pick_t); exact rfl; exact rfl; exact rfl)
 | ((with_reducible apply r_pick_f); exact rfl; exact rfl; exact rfl)
 | ((with_reducible apply r_index_f); exact rfl; exact inferInstance; exact rfl; exact rfl; (first | assumption | omega); exact rfl)
 | ((with_reducible apply r_load_f0); exact rfl; exact inferInstance; exact List.getElem?_eq_getElem (by first | assumption | omega); exact rfl; exact rfl)
 | (((with_reducible apply r_guard); exact rfl; exact rfl; exact rfl; exact rfl) <;> intro hg <;> (first | (exact absurd hg (by decide)) | ((try simp only [decide_eq_true_eq, decide_eq_false_iff_not, Bool.not_eq_true', Bool.not_eq_false', Bool.not_true, Bool.not_false, Bool.not_not, Int.not_lt, Int.not_le, Nat.not_lt, Nat.not_le, gt_iff_lt, ge_iff_le, List.cons.injEq, and_true] at hg); first | (exact absurd trivial hg) | (exfalso; omega) | (have hT : True := hg; clear hT hg) | skip)))
 | (((with_reducible apply aw_cond); exact rfl) <;> intro hg <;> (first | (exact absurd hg (by decide)) | ((try simp only [decide_eq_true_eq, decide_eq_false_iff_not, Bool.not_eq_true', Bool.not_eq_false', Bool.not_true, Bool.not_false, Bool.not_not, Int.not_lt, Int.not_le, Nat.not_lt, Nat.not_le, gt_iff_lt, ge_iff_le, List.cons.injEq, and_true] at hg); first | (exact absurd trivial hg) | (exfalso; omega) | (have hT : True := hg; clear hT hg) | skip)))
 )
    all_goals
      refine ⟨j + 1, ?_, ?_, by refine weak_mk rfl ?_ ?_ <;> repeat (first | exact envW_nil | exact heapW_nil | refine envW_cons rfl rfl ?_ | refine heapW_cons rfl rfl rfl ?_)⟩
      · omega
      · refine ⟨by omega, ?_⟩
        unfold shortS
        rw [hsh]
        show (if _ then _ else _) = _
        rw [if_neg (by rw [hc1, hc2]; exact hc)]
end Go.Proofs.Ytdndfncpglfdeaa.To
/- Boards for orders: one board more for an order. -/
namespace Go.Proofs.Ytdndfncpglfdeaa.To
set_option linter.unusedVariables false
set_option linter.unusedSimpArgs false
open Go.RowKit Go.Proofs.Ytdndfncpglfdeaa.Ev
variable {gl : List (Nat × List CV)}
theorem nodup_len : ∀ {n : Nat} {q : List Nat}, q.Nodup → (∀ i ∈ q, i < n) → q.length ≤ n
  | 0, q, _, h => by
    cases q with
    | nil => exact Nat.le_refl _
    | cons i q => exact absurd (h i (by simp)) (Nat.not_lt_zero _)
  | n + 1, q, hn, h => by
    have h1 := nodup_len (n := n) (q := q.erase n) (hn.erase n) (fun i hi => by
      have h2 := h i (List.mem_of_mem_erase hi)
      have h3 : i ≠ n := fun e => by subst e; exact absurd hi (hn.not_mem_erase)
      omega)
    have := List.length_erase (a := n) (l := q)
    split at this <;> omega
def ExtR (F : List (List Bool)) (B first order : Nat) (to : Asg) (x : Bool × Asg) : Prop :=
  (x.1 = true ∧ More F B first order to x.2) ∨ (x.1 = false ∧ x.2 = to ∧ Stuck F B first order to)
theorem set_init {n j : Nat} (hj : j < n) : (List.replicate j (-1 : Int) ++ List.replicate (n - j) 0).set j (-1) = List.replicate (j + 1) (-1) ++ List.replicate (n - (j + 1)) 0 := by
  refine List.ext_getElem (by simp; omega) (fun i h1 h2 => ?_)
  rw [List.getElem_set]
  simp only [List.getElem_append, List.length_replicate, List.getElem_replicate]
  by_cases e1 : j = i
  · subst e1; rw [if_pos rfl, dif_pos (by omega)]
  · rw [if_neg e1]
    by_cases e2 : i < j
    · rw [dif_pos e2, dif_pos (by omega)]
    · rw [dif_neg e2, dif_neg (by omega)]
theorem drop_snoc {q : List Nat} {k : Nat} (o : Nat) (h : k ≤ q.length) : (q ++ [o]).drop k = q.drop k ++ [o] := List.drop_append_of_le_length h
abbrev matL (F : List (List Bool)) (first : Int) : List AV := [.c (LLB F), .ref 2 mapV, A first]
theorem extend_con (F : List (List Bool)) (B : Nat) (h : Tab F B) (to : Asg) (hok : Ok F B to) (first order : Nat) (ho : order < F.length) (hfB : first ≤ B) : OConE Try.prog gl 26 [.p, .c (I order)] (matP F to first) (fun γ : {x // ExtR F B first order to x} => BO γ.1.1) (fun γ => matP F γ.1.2 first) := by
  have hn := h.n
  have hb5 := h.b
  have hcol := columns_con (gl := gl) F B h
  refine oconE_of Try.func26 rfl (by kernel_rfl) rfl (by intro x hx h e; subst e; first | (simp at hx; done) | (intro g; simp at hx; subst hx; rfl)) ?_
  intro fr hfr
  simp only [Try.ntmps26, Try.results26, argEnvO, avOf, of1, List.map]
  refine aw_endclose 0 2 F rfl ?_
  refine aw_mopen 0 rfl ?_
  repeat' (first
 | ((with_reducible apply r_nilp); exact rfl; exact rfl)
 | ((with_reducible apply r_makemap); exact rfl)
 | ((with_reducible apply r_make (enc := intC) (0 : Int) F.length); exact inferInstance; exact rfl; exact rfl; exact rfl; exact rfl; exact rfl; omega; omega; exact rfl)
 | ((with_reducible apply r_len_v); exact rfl; exact rfl; (rw [flat_len EncL.len, List.length_replicate]); exact rfl)
 | ((with_reducible apply aw_seq))
 | ((with_reducible apply aw_region))
 | ((with_reducible apply aw_block))
 | ((with_reducible apply thn_normal))
 | ((with_reducible apply ao_nil))
 | ((with_reducible apply r_move); exact rfl; exact rfl)
 | ((with_reducible apply r_assign); exact rfl; exact rfl)
 | ((with_reducible apply r_field_p); exact rfl; exact rfl)
 | ((with_reducible apply r_load_p); exact rfl; exact rfl; exact rfl; exact rfl)
 | ((with_reducible apply r_len_f); exact rfl; exact inferInstance; exact rfl)
 )
  refine aw_loopG (G := Nat × List Int) (fun ((j, s) : Nat × List Int) => j ≤ F.length ∧ s = List.replicate j (-1) ++ List.replicate (F.length - j) 0) (fun ((j, s) : Nat × List Int) => F.length - j) (fun ((j, s) : Nat × List Int) => [(0, .ptr 0 0), (1, A order), (5, .ref 3 mapV), (6, .vec 4 F.length), (23, A F.length), (24, A j)]) (fun ((j, s) : Nat × List Int) => [(1, fr), (0, some (.cells 66 (matL F first))), (2, some (.obj (mapP to))), (3, some (.obj (mapP (fun _ => none)))), (4, some (.vec 3 1 (s.flatMap intC)))]) 5 (0, List.replicate F.length 0) ?_ (by refine weak_mkF hfr rfl rfl rfl ?_ ?_ <;> repeat (first | exact envW_nil | exact heapW_nil | refine envW_cons rfl rfl ?_ | refine heapW_cons rfl rfl rfl ?_)) rfl ?_
  · exact ⟨Nat.zero_le _, by simp⟩
  rintro ⟨j, s⟩ hI
  try dsimp only at hI
  try dsimp only
  obtain ⟨hj, hs⟩ := hI
  have hsl : s.length = F.length := by rw [hs]; simp; omega
  by_cases hjl : j < F.length
  · skip
    repeat' (first
 | ((with_reducible apply (r_store_v (enc := intC) (k := j) (l := s) (-1))); exact rfl; exact rfl; exact inferInstance; exact hsl; exact (by omega); exact rfl; exact rfl; exact rfl; exact rfl)
 | ((with_reducible apply aw_seq))
 | ((with_reducible apply aw_region))
 | ((with_reducible apply aw_block))
 | ((with_reducible apply thn_normal))
 | ((with_reducible apply inb_normal))
 | ((with_reducible apply aw_skip))
 | ((with_reducible apply ao_nil))
 | ((with_reducible apply r_move); exact rfl; exact rfl)
 | ((with_reducible apply r_assign); exact rfl; exact rfl)
 | ((with_reducible apply r_lss); exact rfl; exact rfl; exact rfl)
 | ((with_reducible apply r_add); exact rfl; exact rfl; exact (by first | assumption | (unfold fits; omega)); exact rfl)
 | ((with_reducible apply r_index_vf); exact rfl; exact rfl; exact inferInstance; (first | exact rfl | assumption | omega); exact rfl; exact rfl; (first | assumption | omega); exact rfl)
 | (((with_reducible apply aw_cond); exact rfl) <;> intro hg <;> (first | (exact absurd hg (by decide)) | ((try simp only [decide_eq_true_eq, decide_eq_false_iff_not, Bool.not_eq_true', Bool.not_eq_false', Bool.not_true, Bool.not_false, Bool.not_not, Int.not_lt, Int.not_le, Nat.not_lt, Nat.not_le, gt_iff_lt, ge_iff_le, List.cons.injEq, and_true] at hg); first | (exact absurd trivial hg) | (exfalso; omega) | (have hT : True := hg; clear hT hg) | skip)))
 )
    refine ⟨(j + 1, s.set j (-1)), ?_, ?_, by refine weak_mkF hfr rfl rfl rfl ?_ ?_ <;> repeat (first | exact envW_nil | exact heapW_nil | refine envW_cons rfl rfl ?_ | refine heapW_cons rfl rfl rfl ?_)⟩
    · show F.length - (j + 1) < F.length - j; omega
    · exact ⟨by show j + 1 ≤ _; omega, by show List.set _ _ _ = _; rw [hs]; exact set_init hjl⟩
  obtain rfl : j = F.length := by omega
  have hs2 : s = List.replicate F.length (-1) := by rw [hs]; simp
  have hB0 := bfs_start (B := B) (first := first) to ho
  rw [← hs2] at hB0
  clear hs2 hs
  repeat' (first
 | ((with_reducible apply aw_seq))
 | ((with_reducible apply aw_region))
 | ((with_reducible apply aw_block))
 | ((with_reducible apply thn_normal))
 | ((with_reducible apply thn_exit))
 | ((with_reducible apply inb_exit))
 | ((with_reducible apply aw_exit))
 | ((with_reducible apply ao_nil))
 | ((with_reducible apply r_move); exact rfl; exact rfl)
 | ((with_reducible apply r_assign); exact rfl; exact rfl)
 | ((with_reducible apply r_lss); exact rfl; exact rfl; exact rfl)
 | (((with_reducible apply aw_cond); exact rfl) <;> intro hg <;> (first | (exact absurd hg (by decide)) | ((try simp only [decide_eq_true_eq, decide_eq_false_iff_not, Bool.not_eq_true', Bool.not_eq_false', Bool.not_true, Bool.not_false, Bool.not_not, Int.not_lt, Int.not_le, Nat.not_lt, Nat.not_le, gt_iff_lt, ge_iff_le, List.cons.injEq, and_true] at hg); first | (exact absurd trivial hg) | (exfalso; omega) | (have hT : True := hg; clear hT hg) | skip)))
 | ((with_reducible apply r_lit); exact rfl; exact rfl; exact rfl; exact rfl; exact rfl; exact rfl; exact rfl)
 )
  refine aw_toq (x := order) 8 rfl rfl rfl (fun cap0 => ?_)
  refine aw_loopRG (G := List Nat × Nat × Asg × List Int × Nat × Nat) (fun ((q, P, vis, gv, off, cap) : List Nat × Nat × Asg × List Int × Nat × Nat) => Bfs F B first order to q P vis gv ∧ P ≤ q.length ∧ ∀ (s i : Nat), s < P → q[s]? = some i → Seen F first B i vis) (fun ((q, P, vis, gv, off, cap) : List Nat × Nat × Asg × List Int × Nat × Nat) => F.length - P) (fun ((q, P, vis, gv, off, cap) : List Nat × Nat × Asg × List Int × Nat × Nat) => [(0, .ptr 0 0), (1, A order), (5, .ref 3 mapV), (6, .vec 4 F.length), (8, .ref 7 (qV off (q.drop P).length cap))]) (fun ((q, P, vis, gv, off, cap) : List Nat × Nat × Asg × List Int × Nat × Nat) => [(1, fr), (0, some (.cells 66 (matL F first))), (2, some (.obj (mapP to))), (3, some (.obj (mapP vis))), (4, some (.vec 3 1 (gv.flatMap intC))), (7, some (.obj (qP 3 off cap (q.drop P))))]) 8 ([order], 0, fun _ => none, s, 0, cap0) ?_ [(7, 6)] (by refine ren_mkF hfr [(7, 6)] rfl rfl rfl rfl rfl rfl ?_ ?_ <;> repeat (first | exact envR_nil | exact heapR_nil | refine envR_cons rfl rfl ?_ | refine heapR_cons rfl rfl rfl ?_)) ?_
  · exact ⟨hB0, Nat.zero_le _, fun s i hs => absurd hs (Nat.not_lt_zero _)⟩
  clear hB0 hsl hj hjl s
  rintro ⟨q, P, vis, gv, off, cap⟩ hI
  dsimp only at hI ⊢
  obtain ⟨hB, hP, hseen⟩ := hI
  have hql := nodup_len hB.nodup hB.lt
  by_cases hPl : P < q.length
  rotate_left
  · obtain rfl : P = q.length := by omega
    have hd : q.drop q.length = [] := List.drop_length
    rw [hd]
    repeat' (first
 | ((with_reducible apply r_qlen); exact rfl; exact rfl)
 | ((with_reducible apply aw_seq))
 | ((with_reducible apply aw_region))
 | ((with_reducible apply thn_normal))
 | ((with_reducible apply thn_exit))
 | ((with_reducible apply inb_exit))
 | ((with_reducible apply aw_exit))
 | ((with_reducible apply aw_ret))
 | ((with_reducible apply ao_nil))
 | ((with_reducible apply r_move); exact rfl; exact rfl)
 | ((with_reducible apply r_assign); exact rfl; exact rfl)
 | ((with_reducible apply r_gtr); exact rfl; exact rfl; exact rfl)
 | (((with_reducible apply aw_cond); exact rfl) <;> intro hg <;> (first | (exact absurd hg (by decide)) | ((try simp only [decide_eq_true_eq, decide_eq_false_iff_not, Bool.not_eq_true', Bool.not_eq_false', Bool.not_true, Bool.not_false, Bool.not_not, Int.not_lt, Int.not_le, Nat.not_lt, Nat.not_le, gt_iff_lt, ge_iff_le, List.cons.injEq, and_true] at hg); first | (exact absurd trivial hg) | (exfalso; omega) | (have hT : True := hg; clear hT hg) | skip)))
 )
    refine ⟨to, first, rfl, rfl, ret_o ⟨(false, to), .inr ⟨rfl, rfl, hB.stuck (fun i hi => ?_)⟩⟩ (ret_b rfl rfl) rfl rfl⟩
    obtain ⟨s, hs, e⟩ := List.mem_iff_getElem.1 hi
    exact hseen s i hs (by rw [List.getElem?_eq_getElem hs, e])
  have hd : q.drop P = q[P] :: q.drop (P + 1) := List.drop_eq_getElem_cons hPl
  have hqP : q[P]? = some q[P] := List.getElem?_eq_getElem hPl
  have hil : q[P] < F.length := hB.lt _ (List.getElem_mem hPl)
  obtain ⟨i, hi⟩ : ∃ i, i = q[P] := ⟨_, rfl⟩
  rw [← hi] at hd hqP hil
  rw [hd, List.length_cons]
  clear hi hd
  have hB := hB.next
  repeat' (first
 | ((with_reducible apply r_qlen); exact rfl; exact rfl)
 | ((with_reducible apply r_qindex); exact rfl; exact rfl; exact Nat.succ_pos _; exact rfl)
 | ((with_reducible apply r_qload); exact rfl; exact rfl; exact rfl)
 | ((with_reducible apply r_qtail); exact rfl; exact rfl; exact rfl; exact rfl; exact rfl; intro off1 cap1)
 | ((with_reducible apply r_nilp); exact rfl; exact rfl)
 | ((with_reducible apply aw_seq))
 | ((with_reducible apply aw_region))
 | ((with_reducible apply aw_block))
 | ((with_reducible apply thn_normal))
 | ((with_reducible apply aw_skip))
 | ((with_reducible apply ao_nil))
 | ((with_reducible apply r_move); exact rfl; exact rfl)
 | ((with_reducible apply r_assign); exact rfl; exact rfl)
 | ((with_reducible apply r_field_p); exact rfl; exact rfl)
 | ((with_reducible apply r_load_p); exact rfl; exact rfl; exact rfl; exact rfl)
 | ((with_reducible apply r_gtr); exact rfl; exact rfl; exact rfl)
 | (((with_reducible apply aw_cond); exact rfl) <;> intro hg <;> (first | (exact absurd hg (by decide)) | ((try simp only [decide_eq_true_eq, decide_eq_false_iff_not, Bool.not_eq_true', Bool.not_eq_false', Bool.not_true, Bool.not_false, Bool.not_not, Int.not_lt, Int.not_le, Nat.not_lt, Nat.not_le, gt_iff_lt, ge_iff_le, List.cons.injEq, and_true] at hg); first | (exact absurd trivial hg) | (exfalso; omega) | (have hT : True := hg; clear hT hg) | skip)))
 )
  refine aw_loopRG (G := Nat × List Nat × Asg × List Int × Nat × Nat) (fun ((b, q', vis', gv', off, cap) : Nat × List Nat × Asg × List Int × Nat × Nat) => Bfs F B first order to q' (P + 1) vis' gv' ∧ q'[P]? = some i ∧ first ≤ b ∧ b ≤ B ∧ Seen F first b i vis' ∧ ∀ (s j : Nat), s < P → q'[s]? = some j → Seen F first B j vis') (fun ((b, q', vis', gv', off, cap) : Nat × List Nat × Asg × List Int × Nat × Nat) => B - b) (fun ((b, q', vis', gv', off, cap) : Nat × List Nat × Asg × List Int × Nat × Nat) => [(0, .ptr 0 0), (1, A order), (5, .ref 3 mapV), (6, .vec 4 F.length), (8, .ref 8 (qV off (q'.drop (P + 1)).length cap)), (9, A i), (10, A b)]) (fun ((b, q', vis', gv', off, cap) : Nat × List Nat × Asg × List Int × Nat × Nat) => [(1, fr), (0, some (.cells 66 (matL F first))), (2, some (.obj (mapP to))), (3, some (.obj (mapP vis'))), (4, some (.vec 3 1 (gv'.flatMap intC))), (8, some (.obj (qP 3 off cap (q'.drop (P + 1)))))]) 9 (first, q, vis, gv, off1, cap1) ?_ [(8, 7)] (by refine ren_mkF hfr [(8, 7)] rfl rfl rfl rfl rfl rfl ?_ ?_ <;> repeat (first | exact envR_nil | exact heapR_nil | refine envR_cons rfl rfl ?_ | refine heapR_cons rfl rfl rfl ?_)) ?_
  · exact ⟨hB, hqP, Nat.le_refl _, hfB, fun c h1 h2 => absurd h1 (by omega), hseen⟩
  clear hB hqP hseen hql hP hPl
  rintro ⟨b, q', vis', gv', off, cap⟩ hI
  dsimp only at hI ⊢
  obtain ⟨hB, hqP, hfb, hbB, hsi, hseen⟩ := hI
  have hPq : P < q'.length := (List.getElem?_eq_some_iff.1 hqP).1
  have hql := nodup_len hB.nodup hB.lt
  have hgl := hB.len
  by_cases hbl : b < B
  rotate_left
  · obtain rfl : b = B := by omega
    repeat' (first
 | ((with_reducible apply r_nilp); exact rfl; exact rfl)
 | ((with_reducible apply (r_call (f := 22))); exact rfl; exact rfl; exact hcol; exact rfl; exact rfl)
 | ((with_reducible apply aw_seq))
 | ((with_reducible apply aw_region))
 | ((with_reducible apply thn_normal))
 | ((with_reducible apply thn_exit))
 | ((with_reducible apply inb_normal))
 | ((with_reducible apply inb_exit))
 | ((with_reducible apply aw_exit))
 | ((with_reducible apply ao_nil))
 | ((with_reducible apply r_move); exact rfl; exact rfl)
 | ((with_reducible apply r_field_p); exact rfl; exact rfl)
 | ((with_reducible apply r_load_p); exact rfl; exact rfl; exact rfl; exact rfl)
 | ((with_reducible apply r_lss); exact rfl; exact rfl; exact rfl)
 | (((with_reducible apply aw_cond); exact rfl) <;> intro hg <;> (first | (exact absurd hg (by decide)) | ((try simp only [decide_eq_true_eq, decide_eq_false_iff_not, Bool.not_eq_true', Bool.not_eq_false', Bool.not_true, Bool.not_false, Bool.not_not, Int.not_lt, Int.not_le, Nat.not_lt, Nat.not_le, gt_iff_lt, ge_iff_le, List.cons.injEq, and_true] at hg); first | (exact absurd trivial hg) | (exfalso; omega) | (have hT : True := hg; clear hT hg) | skip)))
 )
    refine ⟨(q', P + 1, vis', gv', off, cap), [(7, 8)], ?_, ?_, by refine ren_mkF hfr [(7, 8)] rfl rfl rfl rfl rfl rfl ?_ ?_ <;> repeat (first | exact envR_nil | exact heapR_nil | refine envR_cons rfl rfl ?_ | refine heapR_cons rfl rfl rfl ?_)⟩
    · show F.length - (P + 1) < F.length - P; omega
    · refine ⟨hB, by show P + 1 ≤ q'.length; omega, fun s j hs hj => ?_⟩
      by_cases e : s = P
      · subst e; rw [hqP] at hj; cases hj; exact hsi
      · exact hseen s j (by have hs : s < P + 1 := hs; omega) hj
  have hrow := h.row i hil
  have hfg := fit_get h hil hbl
  by_cases hf : fit F i b = true
  rotate_left
  · have hff : (F[i])[b]'(by omega) = false := by
      rw [← hfg]; simpa using hf
    repeat' (first
 | ((with_reducible apply r_nilp); exact rfl; exact rfl)
 | ((with_reducible apply (r_call (f := 22))); exact rfl; exact rfl; exact hcol; exact rfl; exact rfl)
 | ((with_reducible apply r_not); exact (by rw [hff]; rfl); exact rfl)
 | ((with_reducible apply aw_seq))
 | ((with_reducible apply aw_region))
 | ((with_reducible apply aw_block))
 | ((with_reducible apply thn_normal))
 | ((with_reducible apply thn_exit))
 | ((with_reducible apply inb_exit))
 | ((with_reducible apply aw_skip))
 | ((with_reducible apply aw_exit))
 | ((with_reducible apply ao_nil))
 | ((with_reducible apply r_move); exact rfl; exact rfl)
 | ((with_reducible apply r_assign); exact rfl; exact rfl)
 | ((with_reducible apply r_field_p); exact rfl; exact rfl)
 | ((with_reducible apply r_load_p); exact rfl; exact rfl; exact rfl; exact rfl)
 | ((with_reducible apply r_lss); exact rfl; exact rfl; exact rfl)
 | ((with_reducible apply r_add); exact rfl; exact rfl; exact (by first | assumption | (unfold fits; omega)); exact rfl)
 | ((with_reducible apply r_index_f); exact rfl; exact inferInstance; exact rfl; exact rfl; (first | assumption | omega); exact rfl)
 | ((with_reducible apply r_load_f0); exact rfl; exact inferInstance; exact List.getElem?_eq_getElem (by first | assumption | omega); exact rfl; exact rfl)
 | (((with_reducible apply aw_cond); exact rfl) <;> intro hg <;> (first | (exact absurd hg (by decide)) | ((try simp only [decide_eq_true_eq, decide_eq_false_iff_not, Bool.not_eq_true', Bool.not_eq_false', Bool.not_true, Bool.not_false, Bool.not_not, Int.not_lt, Int.not_le, Nat.not_lt, Nat.not_le, gt_iff_lt, ge_iff_le, List.cons.injEq, and_true] at hg); first | (exact absurd trivial hg) | (exfalso; omega) | (have hT : True := hg; clear hT hg) | skip)))
 )
    refine ⟨(b + 1, q', vis', gv', off, cap), [], ?_, ?_, by refine ren_mkF hfr [] rfl rfl rfl rfl rfl rfl ?_ ?_ <;> repeat (first | exact envR_nil | exact heapR_nil | refine envR_cons rfl rfl ?_ | refine heapR_cons rfl rfl rfl ?_)⟩
    · show B - (b + 1) < B - b; omega
    · exact ⟨hB, hqP, by show first ≤ b + 1; omega, by show b + 1 ≤ B; omega, fun c h1 h2 h3 => by
        by_cases e : c = b
        · subst e; exact absurd h3 hf
        · exact hsi c h1 (by have h2 : c < b + 1 := h2; omega) h3, hseen⟩
  have hft : (F[i])[b]'(by omega) = true := by rw [← hfg]; exact hf
  cases hv : vis' b with
  | some x =>
    repeat' (first
 | ((with_reducible apply r_nilp); exact rfl; exact rfl)
 | ((with_reducible apply (r_call (f := 22))); exact rfl; exact rfl; exact hcol; exact rfl; exact rfl)
 | ((with_reducible apply r_not); exact (by rw [hft]; rfl); exact rfl)
 | ((with_reducible apply (r_mapok1 hv)); exact rfl; exact rfl; exact rfl; exact rfl; exact rfl)
 | ((with_reducible apply aw_seq))
 | ((with_reducible apply aw_region))
 | ((with_reducible apply aw_block))
 | ((with_reducible apply thn_normal))
 | ((with_reducible apply thn_exit))
 | ((with_reducible apply inb_exit))
 | ((with_reducible apply aw_skip))
 | ((with_reducible apply aw_exit))
 | ((with_reducible apply ao_nil))
 | ((with_reducible apply r_move); exact rfl; exact rfl)
 | ((with_reducible apply r_assign); exact rfl; exact rfl)
 | ((with_reducible apply r_field_p); exact rfl; exact rfl)
 | ((with_reducible apply r_load_p); exact rfl; exact rfl; exact rfl; exact rfl)
 | ((with_reducible apply r_lss); exact rfl; exact rfl; exact rfl)
 | ((with_reducible apply r_add); exact rfl; exact rfl; exact (by first | assumption | (unfold fits; omega)); exact rfl)
 | ((with_reducible apply r_index_f); exact rfl; exact inferInstance; exact rfl; exact rfl; (first | assumption | omega); exact rfl)
 | ((with_reducible apply r_load_f0); exact rfl; exact inferInstance; exact List.getElem?_eq_getElem (by first | assumption | omega); exact rfl; exact rfl)
 | ((with_reducible apply r_extract); exact rfl; exact rfl; exact rfl)
 | (((with_reducible apply aw_cond); exact rfl) <;> intro hg <;> (first | (exact absurd hg (by decide)) | ((try simp only [decide_eq_true_eq, decide_eq_false_iff_not, Bool.not_eq_true', Bool.not_eq_false', Bool.not_true, Bool.not_false, Bool.not_not, Int.not_lt, Int.not_le, Nat.not_lt, Nat.not_le, gt_iff_lt, ge_iff_le, List.cons.injEq, and_true] at hg); first | (exact absurd trivial hg) | (exfalso; omega) | (have hT : True := hg; clear hT hg) | skip)))
 )
    refine ⟨(b + 1, q', vis', gv', off, cap), [], ?_, ?_, by refine ren_mkF hfr [] rfl rfl rfl rfl rfl rfl ?_ ?_ <;> repeat (first | exact envR_nil | exact heapR_nil | refine envR_cons rfl rfl ?_ | refine heapR_cons rfl rfl rfl ?_)⟩
    · show B - (b + 1) < B - b; omega
    · exact ⟨hB, hqP, by show first ≤ b + 1; omega, by show b + 1 ≤ B; omega, fun c h1 h2 h3 => by
        by_cases e : c = b
        · subst e; show vis' c ≠ none; rw [hv]; simp
        · exact hsi c h1 (by have h2 : c < b + 1 := h2; omega) h3, hseen⟩
  | none =>
  have hsi' : Seen F first (b + 1) i (upd vis' b (some i)) := fun c h1 h2 h3 => by
    by_cases e : c = b
    · subst e; rw [upd_same]; simp
    · rw [upd_ne e]; exact hsi c h1 (by omega) h3
  cases hto : to b with
  | some o =>
    have hol := (hok.h b o hto).2.1
    have hgd := getD_get (l := gv') (i := o) (by omega)
    have hgb := hB.bd o hol
    rw [hgd] at hgb
    by_cases hc : o ≠ order ∧ gv'[o]'(by omega) < 0
    · have hR := hB.reach hqP ⟨hfb, hbl⟩ hf hv hto hol hc.1 (by rw [hgd]; exact hc.2)
      have hc1 := hc.1
      have hc2 := hc.2
      have hdl := drop_snoc (q := q') o (show P + 1 ≤ q'.length by omega)
      have hdl2 : (q'.drop (P + 1)).length + 1 ≤ 1000 := by rw [List.length_drop]; omega
      repeat' (first
 | ((with_reducible apply r_nilp); exact rfl; exact rfl)
 | ((with_reducible apply (r_call (f := 22))); exact rfl; exact rfl; exact hcol; exact rfl; exact rfl)
 | ((with_reducible apply r_not); exact (by rw [hft]; rfl); exact rfl)
 | ((with_reducible apply (r_mapok0 hv)); exact rfl; exact rfl; exact rfl; exact rfl; exact rfl)
 | ((with_reducible apply (r_mapok1 hto)); exact rfl; exact rfl; exact rfl; exact rfl; exact rfl)
 | ((with_reducible apply (r_mapset (k := b) (v := i))); exact rfl; exact rfl; exact rfl; exact rfl; exact rfl; exact rfl)
 | ((with_reducible apply (r_store_v (enc := intC) (k := o) (l := gv') (b : Int))); exact rfl; exact rfl; exact inferInstance; exact hgl; exact (by omega); exact rfl; exact rfl; exact rfl; exact rfl)
 | ((with_reducible apply r_litq); exact rfl; exact rfl; exact rfl; exact rfl; exact rfl; exact rfl; exact rfl)
 | ((with_reducible apply (r_qapp (y := o))); exact rfl; exact rfl; exact rfl; exact rfl; exact (by omega); exact (by omega); exact rfl; intro off2 cap2)
 | ((with_reducible apply aw_seq))
 | ((with_reducible apply aw_region))
 | ((with_reducible apply aw_block))
 | ((with_reducible apply thn_normal))
 | ((with_reducible apply inb_normal))
 | ((with_reducible apply aw_skip))
 | ((with_reducible apply ao_nil))
 | ((with_reducible apply r_move); exact rfl; exact rfl)
 | ((with_reducible apply r_assign); exact rfl; exact rfl)
 | ((with_reducible apply r_field_p); exact rfl; exact rfl)
 | ((with_reducible apply r_load_p); exact rfl; exact rfl; exact rfl; exact rfl)
 | ((with_reducible apply r_lss); exact rfl; exact rfl; exact rfl)
 | ((with_reducible apply r_neq); exact rfl; exact rfl; exact rfl)
 | ((with_reducible apply r_add); exact rfl; exact rfl; exact (by first | assumption | (unfold fits; omega)); exact rfl)
 | ((with_reducible apply r_pick_t); exact rfl; exact rfl; exact rfl)
 | ((with_reducible apply r_index_f); exact rfl; exact inferInstance; exact rfl; exact rfl; (first | assumption | omega); exact rfl)
 | ((with_reducible apply r_load_f0); exact rfl; exact inferInstance; exact List.getElem?_eq_getElem (by first | assumption | omega); exact rfl; exact rfl)
 | ((with_reducible apply r_index_vf); exact rfl; exact rfl; exact inferInstance; (first | exact rfl | assumption | omega); exact rfl; exact rfl; (first | assumption | omega); exact rfl)
 | ((with_reducible apply r_load_vf0); exact rfl; exact rfl; exact inferInstance; (first | exact rfl | assumption | omega); exact List.getElem?_eq_getElem (by first | assumption | omega); exact rfl; exact rfl)
 | ((with_reducible apply r_extract); exact rfl; exact rfl; exact rfl)
 | (((with_reducible apply r_guard); exact rfl; exact rfl; exact rfl; exact rfl) <;> intro hg <;> (first | (exact absurd hg (by decide)) | ((try simp only [decide_eq_true_eq, decide_eq_false_iff_not, Bool.not_eq_true', Bool.not_eq_false', Bool.not_true, Bool.not_false, Bool.not_not, Int.not_lt, Int.not_le, Nat.not_lt, Nat.not_le, gt_iff_lt, ge_iff_le, List.cons.injEq, and_true] at hg); first | (exact absurd trivial hg) | (exfalso; omega) | (have hT : True := hg; clear hT hg) | skip)))
 | (((with_reducible apply aw_cond); exact rfl) <;> intro hg <;> (first | (exact absurd hg (by decide)) | ((try simp only [decide_eq_true_eq, decide_eq_false_iff_not, Bool.not_eq_true', Bool.not_eq_false', Bool.not_true, Bool.not_false, Bool.not_not, Int.not_lt, Int.not_le, Nat.not_lt, Nat.not_le, gt_iff_lt, ge_iff_le, List.cons.injEq, and_true] at hg); first | (exact absurd trivial hg) | (exfalso; omega) | (have hT : True := hg; clear hT hg) | skip)))
 )
      rw [← hdl]
      have hln : (q'.drop (P + 1)).length + 1 = ((q' ++ [o]).drop (P + 1)).length := by rw [hdl, List.length_append]; rfl
      rw [hln]
      refine ⟨(b + 1, q' ++ [o], upd vis' b (some i), gv'.set o (b : Int), off2, cap2), [(8, 9)], ?_, ?_, by refine ren_mkF hfr [(8, 9)] rfl rfl rfl rfl rfl rfl ?_ ?_ <;> repeat (first | exact envR_nil | exact heapR_nil | refine envR_cons rfl rfl ?_ | refine heapR_cons rfl rfl rfl ?_)⟩
      · show B - (b + 1) < B - b; omega
      · refine ⟨hR, get_snoc_lt o hqP, by show first ≤ b + 1; omega, by show b + 1 ≤ B; omega, hsi', fun s j hs hj => ?_⟩
        have hs : s < P := hs
        have hj : (q' ++ [o])[s]? = some j := hj
        rw [List.getElem?_append_left (by omega)] at hj
        exact (hseen s j hs hj).upd b i
    · have hV := hB.visit hqP ⟨hfb, hbl⟩ hf hv hto (hB.mem hol (by rw [hgd]; by_cases e : o = order; exact .inl e; exact .inr (by omega)))
      repeat' (first
 | ((with_reducible apply r_nilp); exact rfl; exact rfl)
 | ((with_reducible apply (r_call (f := 22))); exact rfl; exact rfl; exact hcol; exact rfl; exact rfl)
 | ((with_reducible apply r_not); exact (by rw [hft]; rfl); exact rfl)
 | ((with_reducible apply (r_mapok0 hv)); exact rfl; exact rfl; exact rfl; exact rfl; exact rfl)
 | ((with_reducible apply (r_mapok1 hto)); exact rfl; exact rfl; exact rfl; exact rfl; exact rfl)
 | ((with_reducible apply (r_mapset (k := b) (v := i))); exact rfl; exact rfl; exact rfl; exact rfl; exact rfl; exact rfl)
 | ((with_reducible apply aw_seq))
 | ((with_reducible apply aw_region))
 | ((with_reducible apply aw_block))
 | ((with_reducible apply thn_normal))
 | ((with_reducible apply inb_normal))
 | ((with_reducible apply aw_skip))
 | ((with_reducible apply ao_nil))
 | ((with_reducible apply r_move); exact rfl; exact rfl)
 | ((with_reducible apply r_assign); exact rfl; exact rfl)
 | ((with_reducible apply r_field_p); exact rfl; exact rfl)
 | ((with_reducible apply r_load_p); exact rfl; exact rfl; exact rfl; exact rfl)
 | ((with_reducible apply r_lss); exact rfl; exact rfl; exact rfl)
 | ((with_reducible apply r_neq); exact rfl; exact rfl; exact rfl)
 | ((with_reducible apply r_add); exact rfl; exact rfl; exact (by first | assumption | (unfold fits; omega)); exact rfl)
 | ((with_reducible apply r_pick_t); exact rfl; exact rfl; exact rfl)
 | ((with_reducible apply r_pick_f); exact rfl; exact rfl; exact rfl)
 | ((with_reducible apply r_index_f); exact rfl; exact inferInstance; exact rfl; exact rfl; (first | assumption | omega); exact rfl)
 | ((with_reducible apply r_load_f0); exact rfl; exact inferInstance; exact List.getElem?_eq_getElem (by first | assumption | omega); exact rfl; exact rfl)
 | ((with_reducible apply r_index_vf); exact rfl; exact rfl; exact inferInstance; (first | exact rfl | assumption | omega); exact rfl; exact rfl; (first | assumption | omega); exact rfl)
 | ((with_reducible apply r_load_vf0); exact rfl; exact rfl; exact inferInstance; (first | exact rfl | assumption | omega); exact List.getElem?_eq_getElem (by first | assumption | omega); exact rfl; exact rfl)
 | ((with_reducible apply r_extract); exact rfl; exact rfl; exact rfl)
 | (((with_reducible apply r_guard); exact rfl; exact rfl; exact rfl; exact rfl) <;> intro hg <;> (first | (exact absurd hg (by decide)) | ((try simp only [decide_eq_true_eq, decide_eq_false_iff_not, Bool.not_eq_true', Bool.not_eq_false', Bool.not_true, Bool.not_false, Bool.not_not, Int.not_lt, Int.not_le, Nat.not_lt, Nat.not_le, gt_iff_lt, ge_iff_le, List.cons.injEq, and_true] at hg); first | (exact absurd trivial hg) | (exfalso; omega) | (have hT : True := hg; clear hT hg) | skip)))
 | (((with_reducible apply aw_cond); exact rfl) <;> intro hg <;> (first | (exact absurd hg (by decide)) | ((try simp only [decide_eq_true_eq, decide_eq_false_iff_not, Bool.not_eq_true', Bool.not_eq_false', Bool.not_true, Bool.not_false, Bool.not_not, Int.not_lt, Int.not_le, Nat.not_lt, Nat.not_le, gt_iff_lt, ge_iff_le, List.cons.injEq, and_true] at hg); first | (exact absurd trivial hg) | (exfalso; omega) | (have hT : True := hg; clear hT hg) | skip)))
 )
      all_goals
        refine ⟨(b + 1, q', upd vis' b (some i), gv', off, cap), [], ?_, ?_, by refine ren_mkF hfr [] rfl rfl rfl rfl rfl rfl ?_ ?_ <;> repeat (first | exact envR_nil | exact heapR_nil | refine envR_cons rfl rfl ?_ | refine heapR_cons rfl rfl rfl ?_)⟩
        · show B - (b + 1) < B - b; omega
        · exact ⟨hV, hqP, by show first ≤ b + 1; omega, by show b + 1 ≤ B; omega, hsi', fun s j hs hj => (hseen s j hs hj).upd b i⟩
  | none =>
    have hch := hB.chain (b := b) (i := i) hv
    have hH0 := hB.hand hok hqP ⟨hfb, hbl⟩ hf hto
    repeat' (first
 | ((with_reducible apply r_nilp); exact rfl; exact rfl)
 | ((with_reducible apply (r_call (f := 22))); exact rfl; exact rfl; exact hcol; exact rfl; exact rfl)
 | ((with_reducible apply r_not); exact (by rw [hft]; rfl); exact rfl)
 | ((with_reducible apply (r_mapok0 hv)); exact rfl; exact rfl; exact rfl; exact rfl; exact rfl)
 | ((with_reducible apply (r_mapok0 hto)); exact rfl; exact rfl; exact rfl; exact rfl; exact rfl)
 | ((with_reducible apply (r_mapset (k := b) (v := i))); exact rfl; exact rfl; exact rfl; exact rfl; exact rfl; exact rfl)
 | ((with_reducible apply (r_in0 Try.func31 rfl Try.results31 (by kernel_rfl) Try.ntmps31)); exact rfl; exact rfl; exact rfl; exact rfl)
 | ((with_reducible apply back0_ret))
 | ((with_reducible apply back0_normal))
 | ((with_reducible apply aw_seq))
 | ((with_reducible apply aw_region))
 | ((with_reducible apply aw_block))
 | ((with_reducible apply thn_normal))
 | ((with_reducible apply aw_skip))
 | ((with_reducible apply ao_nil))
 | ((with_reducible apply r_move); exact rfl; exact rfl)
 | ((with_reducible apply r_assign); exact rfl; exact rfl)
 | ((with_reducible apply r_field_p); exact rfl; exact rfl)
 | ((with_reducible apply r_load_p); exact rfl; exact rfl; exact rfl; exact rfl)
 | ((with_reducible apply r_lss); exact rfl; exact rfl; exact rfl)
 | ((with_reducible apply r_index_f); exact rfl; exact inferInstance; exact rfl; exact rfl; (first | assumption | omega); exact rfl)
 | ((with_reducible apply r_load_f0); exact rfl; exact inferInstance; exact List.getElem?_eq_getElem (by first | assumption | omega); exact rfl; exact rfl)
 | ((with_reducible apply r_extract); exact rfl; exact rfl; exact rfl)
 | (((with_reducible apply aw_cond); exact rfl) <;> intro hg <;> (first | (exact absurd hg (by decide)) | ((try simp only [decide_eq_true_eq, decide_eq_false_iff_not, Bool.not_eq_true', Bool.not_eq_false', Bool.not_true, Bool.not_false, Bool.not_not, Int.not_lt, Int.not_le, Nat.not_lt, Nat.not_le, gt_iff_lt, ge_iff_le, List.cons.injEq, and_true] at hg); first | (exact absurd trivial hg) | (exfalso; omega) | (have hT : True := hg; clear hT hg) | skip)))
 )
    refine aw_loopG (G := Nat × Nat × Asg) (fun ((board, t, g) : Nat × Nat × Asg) => Hand F B first to q' (upd vis' b (some i)) gv' board t g) (fun ((board, t, g) : Nat × Nat × Asg) => t) (fun ((board, t, g) : Nat × Nat × Asg) => [(0, .ptr 0 0), (1, A board), (2, A order), (3, .ref 3 mapV), (4, .vec 4 F.length)]) (fun ((board, t, g) : Nat × Nat × Asg) => [(1, fr), (0, some (.cells 66 (matL F first))), (2, some (.obj (mapP g))), (3, some (.obj (mapP (upd vis' b (some i))))), (4, some (.vec 3 1 (gv'.flatMap intC)))]) 9 (b, P, to) ?_ (by refine weak_mkF hfr rfl rfl rfl ?_ ?_ <;> repeat (first | exact envW_nil | exact heapW_nil | refine envW_cons rfl rfl ?_ | refine heapW_cons rfl rfl rfl ?_)) rfl ?_
    · exact hH0
    rintro ⟨board, t, g⟩ hI
    dsimp only at hI ⊢
    obtain ⟨x, hx1, hx2, hx3⟩ := hI.at_
    have hxl := hB.lt x (List.mem_of_getElem? hx1)
    by_cases hxo : x = order
    · subst hxo
      have hM := hI.last hch hx2
      repeat' (first
 | ((with_reducible apply r_nilp); exact rfl; exact rfl)
 | ((with_reducible apply (r_mapget1 hx2)); exact rfl; exact rfl; exact rfl; exact rfl; exact rfl)
 | ((with_reducible apply (r_mapset (k := board) (v := x))); exact rfl; exact rfl; exact rfl; exact rfl; exact rfl; exact rfl)
 | ((with_reducible apply aw_seq))
 | ((with_reducible apply aw_region))
 | ((with_reducible apply aw_block))
 | ((with_reducible apply thn_normal))
 | ((with_reducible apply thn_ret))
 | ((with_reducible apply inb_ret))
 | ((with_reducible apply aw_ret))
 | ((with_reducible apply ao_nil))
 | ((with_reducible apply r_move); exact rfl; exact rfl)
 | ((with_reducible apply r_assign); exact rfl; exact rfl)
 | ((with_reducible apply r_field_p); exact rfl; exact rfl)
 | ((with_reducible apply r_load_p); exact rfl; exact rfl; exact rfl; exact rfl)
 | ((with_reducible apply r_eql); exact rfl; exact rfl; exact rfl)
 | (((with_reducible apply aw_cond); exact rfl) <;> intro hg <;> (first | (exact absurd hg (by decide)) | ((try simp only [decide_eq_true_eq, decide_eq_false_iff_not, Bool.not_eq_true', Bool.not_eq_false', Bool.not_true, Bool.not_false, Bool.not_not, Int.not_lt, Int.not_le, Nat.not_lt, Nat.not_le, gt_iff_lt, ge_iff_le, List.cons.injEq, and_true] at hg); first | (exact absurd trivial hg) | (exfalso; omega) | (have hT : True := hg; clear hT hg) | skip)))
 )
      all_goals first | refine back0_ret ?_ | refine back0_normal ?_
      all_goals
        repeat' (first
 | ((with_reducible apply aw_seq))
 | ((with_reducible apply aw_region))
 | ((with_reducible apply thn_normal))
 | ((with_reducible apply thn_ret))
 | ((with_reducible apply inb_ret))
 | ((with_reducible apply aw_ret))
 | ((with_reducible apply ao_nil))
 | ((with_reducible apply r_assign); exact rfl; exact rfl)
 )
        refine ⟨upd g board (some x), first, rfl, rfl, ret_o ⟨(true, upd g board (some x)), .inl ⟨rfl, hM⟩⟩ (ret_b rfl rfl) rfl rfl⟩
    · obtain ⟨b2, t2, hg1, hg2, hH2⟩ := hI.step hch hx2 hxo
      have hgd := getD_get (l := gv') (i := x) (by omega)
      rw [hgd] at hg1
      repeat' (first
 | ((with_reducible apply r_nilp); exact rfl; exact rfl)
 | ((with_reducible apply (r_mapget1 hx2)); exact rfl; exact rfl; exact rfl; exact rfl; exact rfl)
 | ((with_reducible apply (r_mapset (k := board) (v := x))); exact rfl; exact rfl; exact rfl; exact rfl; exact rfl; exact rfl)
 | ((with_reducible apply aw_seq))
 | ((with_reducible apply aw_region))
 | ((with_reducible apply aw_block))
 | ((with_reducible apply thn_normal))
 | ((with_reducible apply inb_normal))
 | ((with_reducible apply aw_skip))
 | ((with_reducible apply ao_nil))
 | ((with_reducible apply r_move); exact rfl; exact rfl)
 | ((with_reducible apply r_assign); exact rfl; exact rfl)
 | ((with_reducible apply r_field_p); exact rfl; exact rfl)
 | ((with_reducible apply r_load_p); exact rfl; exact rfl; exact rfl; exact rfl)
 | ((with_reducible apply r_eql); exact rfl; exact rfl; exact rfl)
 | ((with_reducible apply r_index_vf); exact rfl; exact rfl; exact inferInstance; (first | exact rfl | assumption | omega); exact rfl; exact rfl; (first | assumption | omega); exact rfl)
 | ((with_reducible apply r_load_vf0); exact rfl; exact rfl; exact inferInstance; (first | exact rfl | assumption | omega); exact List.getElem?_eq_getElem (by first | assumption | omega); exact rfl; exact rfl)
 | (((with_reducible apply aw_cond); exact rfl) <;> intro hg <;> (first | (exact absurd hg (by decide)) | ((try simp only [decide_eq_true_eq, decide_eq_false_iff_not, Bool.not_eq_true', Bool.not_eq_false', Bool.not_true, Bool.not_false, Bool.not_not, Int.not_lt, Int.not_le, Nat.not_lt, Nat.not_le, gt_iff_lt, ge_iff_le, List.cons.injEq, and_true] at hg); first | (exact absurd trivial hg) | (exfalso; omega) | (have hT : True := hg; clear hT hg) | skip)))
 )
      rw [hg1]
      refine ⟨(b2, t2, upd g board (some x)), ?_, ?_, by refine weak_mkF hfr rfl rfl rfl ?_ ?_ <;> repeat (first | exact envW_nil | exact heapW_nil | refine envW_cons rfl rfl ?_ | refine heapW_cons rfl rfl rfl ?_)⟩
      · exact hg2
      · exact hH2
end Go.Proofs.Ytdndfncpglfdeaa.To
