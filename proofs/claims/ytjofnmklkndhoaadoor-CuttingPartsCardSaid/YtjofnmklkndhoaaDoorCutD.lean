/- Walks of cutting: total, sum, Value in both. -/
import Derived.Test.YtjofnmklkndhoaaDoorCutC
namespace Go.Proofs.YtjofnmklkndhoaaDoor.Cu
set_option linter.unusedVariables false
set_option linter.unusedSimpArgs false
open Go.RowKit Go.Proofs.YtjofnmklkndhoaaDoor.Ev
variable {gl : List (Nat × List CV)}

/-- The sum of the first k elements. -/
def pre (l : List Int) (k : Nat) : Int := (l.take k).sum
theorem pre_succ (l : List Int) (k : Nat) (h : k < l.length) : pre l (k + 1) = pre l k + l[k] := by
  unfold pre; rw [List.take_succ_eq_append_getElem h, List.sum_append]; simp
def Bd (l : List Int) : Prop := ∀ i (h : i < l.length), -1125899906842624 ≤ l[i] ∧ l[i] ≤ 1125899906842624
theorem pre_bd {l : List Int} (h : Bd l) (a : Nat) : ∀ n, a + n ≤ l.length → -1125899906842624 * (n : Int) ≤ pre l (a + n) - pre l a ∧ pre l (a + n) - pre l a ≤ 1125899906842624 * (n : Int)
  | 0, _ => by simp
  | n + 1, hn => by
    have ih := pre_bd h a n (by omega)
    have h1 := h (a + n) (by omega)
    rw [show a + (n + 1) = (a + n) + 1 by omega, pre_succ l (a + n) (by omega)]
    omega
theorem pre_bd' {l : List Int} (h : Bd l) (a b : Nat) (hab : a ≤ b) (hb : b ≤ l.length) : -1125899906842624 * ((b : Int) - a) ≤ pre l b - pre l a ∧ pre l b - pre l a ≤ 1125899906842624 * ((b : Int) - a) := by
  have := pre_bd h a (b - a) (by omega)
  rw [show a + (b - a) = b by omega] at this
  have e : ((b - a : Nat) : Int) = (b : Int) - a := by omega
  rw [e] at this; exact this
def spV (l : List Int) (s : Span) : Int := pre l s.2.toNat - pre l s.1.toNat
def sumSp (l : List Int) (ss : List Span) : Int := (ss.map (spV l)).sum
def tot (ss : List Span) : Int := (ss.map fun s => s.2 - s.1).sum
theorem sumSp_succ (l : List Int) (ss : List Span) (j : Nat) (h : j < ss.length) : sumSp l (ss.take (j + 1)) = sumSp l (ss.take j) + spV l ss[j] := by
  unfold sumSp; rw [List.take_succ_eq_append_getElem h, List.map_append, List.sum_append]; simp
theorem tot_succ (ss : List Span) (j : Nat) (h : j < ss.length) : tot (ss.take (j + 1)) = tot (ss.take j) + (ss[j].2 - ss[j].1) := by
  unfold tot; rw [List.take_succ_eq_append_getElem h, List.map_append, List.sum_append]; simp
structure SpsOk (n : Nat) (ss : List Span) : Prop where
  sp : ∀ i (h : i < ss.length), 0 ≤ ss[i].1 ∧ ss[i].1 ≤ ss[i].2 ∧ ss[i].2 ≤ n
  tot : tot ss ≤ 4000
theorem tot_mono {n : Nat} {ss : List Span} (h : ∀ i (h : i < ss.length), 0 ≤ ss[i].1 ∧ ss[i].1 ≤ ss[i].2 ∧ ss[i].2 ≤ n) : ∀ k j, j + k ≤ ss.length → tot (ss.take j) ≤ tot (ss.take (j + k))
  | 0, j, _ => Int.le_refl _
  | k + 1, j, hj => by
    have ih := tot_mono h k j (by omega)
    have h1 := h (j + k) (by omega)
    rw [show j + (k + 1) = (j + k) + 1 by omega, tot_succ ss (j + k) (by omega)]
    omega
theorem tot_le {n : Nat} {ss : List Span} (h : SpsOk n ss) (j : Nat) (hj : j ≤ ss.length) : tot (ss.take j) ≤ 4000 := by
  have := tot_mono h.sp (ss.length - j) j (by omega)
  rw [show j + (ss.length - j) = ss.length by omega, List.take_length] at this
  have := h.tot; omega
theorem sumSp_bd {l : List Int} (hb : Bd l) {ss : List Span} (h : SpsOk l.length ss) : ∀ j, j ≤ ss.length → -1125899906842624 * tot (ss.take j) ≤ sumSp l (ss.take j) ∧ sumSp l (ss.take j) ≤ 1125899906842624 * tot (ss.take j)
  | 0, _ => by simp [tot, sumSp]
  | j + 1, hj => by
    have ih := sumSp_bd hb h j (by omega)
    have h1 := h.sp j (by omega)
    have h2 := pre_bd' hb ss[j].1.toNat ss[j].2.toNat (by omega) (by omega)
    rw [sumSp_succ l ss j (by omega), tot_succ ss j (by omega)]
    unfold spV
    have e1 : (ss[j].1.toNat : Int) = ss[j].1 := by omega
    have e2 : (ss[j].2.toNat : Int) = ss[j].2 := by omega
    rw [e1, e2] at h2
    omega
theorem sub_get (l : List Int) (a b i : Nat) (h : i < ((l.take b).drop a).length) : ((l.take b).drop a)[i] = l[a + i]'(by simp at h; omega) := by
  simp
set_option maxRecDepth 100000 in
set_option maxHeartbeats 8000000 in
theorem total_con (l : List Int) (hb : Bd l) (ss : List Span) (hs : SpsOk l.length ss) (hl : l.length ≤ 100000) (hn : ss.length ≤ 1000000) : Con Tryd.prog gl 39 [LI l, LS ss] (I (sumSp l ss)) := by
  refine con_of Tryd.func39 rfl (by kernel_rfl) rfl ?_
  simp only [Tryd.ntmps39, Tryd.results39, argEnv, ofC, of1, List.map]
  repeat' (first
    | ((with_reducible apply aw_seq))
    | ((with_reducible apply aw_region))
    | ((with_reducible apply aw_block))
    | ((with_reducible apply thn_normal))
    | ((with_reducible apply ao_nil))
    | ((with_reducible apply r_move); exact rfl; exact rfl)
    | ((with_reducible apply r_assign); exact rfl; exact rfl)
    | ((with_reducible apply r_len_f); exact rfl; exact inferInstance; exact rfl)
    )
  refine aw_loopG (G := Nat × Int) (fun ((j, t) : Nat × Int) => j ≤ ss.length ∧ t = sumSp l (ss.take j)) (fun ((j, t) : Nat × Int) => ss.length - j) (fun ((j, t) : Nat × Int) => [(0, .c (LI l)), (5, A t), (10, .c (LS ss)), (11, A ss.length), (12, A j)]) (fun ((j, t) : Nat × Int) => []) 0 (0, 0) ?_ (by refine weak_mk rfl ?_ ?_ <;> repeat (first | exact envW_nil | exact heapW_nil | refine envW_cons rfl rfl ?_ | refine heapW_cons rfl rfl rfl ?_)) rfl ?_
  · exact ⟨Nat.zero_le _, by simp [sumSp]⟩
  rintro ⟨j, t⟩ hI
  try dsimp only at hI
  try dsimp only
  obtain ⟨hI, ht⟩ := hI
  by_cases hjl : j < ss.length
  · have h1 := hs.sp j hjl
    have hbd := sumSp_bd hb hs j hI
    have htl := tot_le hs j hI
    have htl2 := tot_le hs (j + 1) (by omega)
    rw [tot_succ ss j hjl] at htl2
    have htp : 0 ≤ tot (ss.take j) := by
      have := tot_mono hs.sp j 0 (by omega)
      simpa [tot] using this
    have hsu := sumSp_succ l ss j hjl
    repeat' (first
      | ((with_reducible apply r_slice_f); exact rfl; exact inferInstance; exact rfl; exact rfl; exact (Int.toNat_of_nonneg (by omega)).symm; exact (Int.toNat_of_nonneg (by omega)).symm; exact (by omega); exact (by omega); exact rfl)
      | ((with_reducible apply aw_seq))
      | ((with_reducible apply aw_region))
      | ((with_reducible apply aw_block))
      | ((with_reducible apply thn_normal))
      | ((with_reducible apply aw_skip))
      | ((with_reducible apply ao_nil))
      | ((with_reducible apply r_move); exact rfl; exact rfl)
      | ((with_reducible apply r_field_p); exact rfl; exact rfl)
      | ((with_reducible apply r_load_p); exact rfl; exact rfl; exact rfl; exact rfl)
      | ((with_reducible apply r_lss); exact rfl; exact rfl; exact rfl)
      | ((with_reducible apply r_len_f); exact rfl; exact inferInstance; exact rfl)
      | ((with_reducible apply r_index_f); exact rfl; exact inferInstance; exact rfl; exact rfl; (first | assumption | omega); exact rfl)
      | ((with_reducible apply r_load_fa0); exact rfl; exact inferInstance; exact List.getElem?_eq_getElem (by first | assumption | omega); exact rfl; exact rfl; exact rfl)
      | ((with_reducible apply r_store_pa); exact rfl; exact rfl; exact rfl; exact rfl; exact rfl; exact rfl)
      | ((with_reducible apply r_alloc); exact rfl)
      | (((with_reducible apply aw_cond); exact rfl) <;> intro hg <;> (first | (exact absurd hg (by decide)) | ((try simp only [decide_eq_true_eq, decide_eq_false_iff_not, Bool.not_eq_true', Bool.not_eq_false', Bool.not_true, Bool.not_false, Bool.not_not, Int.not_lt, Int.not_le, Nat.not_lt, Nat.not_le, gt_iff_lt, ge_iff_le, List.cons.injEq, and_true] at hg); first | (exact absurd trivial hg) | (exfalso; omega) | (have hT : True := hg; clear hT hg) | skip)))
      )
    have hlen : ((l.take ss[j].2.toNat).drop ss[j].1.toNat).length = ss[j].2.toNat - ss[j].1.toNat := by simp; omega
    refine aw_loopG (G := Nat × Int) (fun ((i, u) : Nat × Int) => i ≤ ((l.take ss[j].2.toNat).drop ss[j].1.toNat).length ∧ u = t + (pre l (ss[j].1.toNat + i) - pre l ss[j].1.toNat)) (fun ((i, u) : Nat × Int) => ((l.take ss[j].2.toNat).drop ss[j].1.toNat).length - i) (fun ((i, u) : Nat × Int) => [(0, .c (LI l)), (5, A u), (10, .c (LS ss)), (11, A ss.length), (12, A j), (21, .c (LI ((l.take ss[j].2.toNat).drop ss[j].1.toNat))), (22, A ((l.take ss[j].2.toNat).drop ss[j].1.toNat).length), (23, A i)]) (fun ((i, u) : Nat × Int) => []) 1 (0, t) ?_ (by refine weak_mk rfl ?_ ?_ <;> repeat (first | exact envW_nil | exact heapW_nil | refine envW_cons rfl rfl ?_ | refine heapW_cons rfl rfl rfl ?_)) rfl ?_
    · exact ⟨Nat.zero_le _, by simp⟩
    rintro ⟨i, u⟩ hI
    try dsimp only at hI
    try dsimp only
    obtain ⟨hi, hu⟩ := hI
    by_cases hil : i < ((l.take ss[j].2.toNat).drop ss[j].1.toNat).length
    · have hge := sub_get l ss[j].1.toNat ss[j].2.toNat i hil
      have hpb := pre_bd hb ss[j].1.toNat i (by omega)
      have hel := hb (ss[j].1.toNat + i) (by omega)
      have hps := pre_succ l (ss[j].1.toNat + i) (by omega)
      rw [← hge] at hel hps
      repeat' (first
        | ((with_reducible apply aw_seq))
        | ((with_reducible apply aw_region))
        | ((with_reducible apply aw_block))
        | ((with_reducible apply thn_normal))
        | ((with_reducible apply inb_normal))
        | ((with_reducible apply aw_skip))
        | ((with_reducible apply ao_nil))
        | ((with_reducible apply r_move); exact rfl; exact rfl)
        | ((with_reducible apply r_assign); exact rfl; exact rfl)
        | ((with_reducible apply r_lss); exact rfl; exact rfl; exact rfl)
        | ((with_reducible apply r_add); exact rfl; exact rfl; exact (by first | assumption | (unfold fits; omega)); exact rfl)
        | ((with_reducible apply r_index_f); exact rfl; exact inferInstance; exact rfl; exact rfl; (first | assumption | omega); exact rfl)
        | ((with_reducible apply r_load_f0); exact rfl; exact inferInstance; exact List.getElem?_eq_getElem (by first | assumption | omega); exact rfl; exact rfl)
        | (((with_reducible apply aw_cond); exact rfl) <;> intro hg <;> (first | (exact absurd hg (by decide)) | ((try simp only [decide_eq_true_eq, decide_eq_false_iff_not, Bool.not_eq_true', Bool.not_eq_false', Bool.not_true, Bool.not_false, Bool.not_not, Int.not_lt, Int.not_le, Nat.not_lt, Nat.not_le, gt_iff_lt, ge_iff_le, List.cons.injEq, and_true] at hg); first | (exact absurd trivial hg) | (exfalso; omega) | (have hT : True := hg; clear hT hg) | skip)))
        )
      refine ⟨(i + 1, u + ((l.take ss[j].2.toNat).drop ss[j].1.toNat)[i]), ?_, ?_, by refine weak_mk rfl ?_ ?_ <;> repeat (first | exact envW_nil | exact heapW_nil | refine envW_cons rfl rfl ?_ | refine heapW_cons rfl rfl rfl ?_)⟩
      · show _ - (i + 1) < _ - i; omega
      · refine ⟨by show i + 1 ≤ _; omega, ?_⟩
        show _ = t + (pre l (ss[j].1.toNat + i + 1) - _)
        rw [hps]; omega
    · skip
      repeat' (first
        | ((with_reducible apply aw_seq))
        | ((with_reducible apply aw_region))
        | ((with_reducible apply thn_normal))
        | ((with_reducible apply thn_exit))
        | ((with_reducible apply inb_normal))
        | ((with_reducible apply inb_exit))
        | ((with_reducible apply aw_exit))
        | ((with_reducible apply ao_nil))
        | ((with_reducible apply r_move); exact rfl; exact rfl)
        | ((with_reducible apply r_lss); exact rfl; exact rfl; exact rfl)
        | ((with_reducible apply r_add); exact rfl; exact rfl; exact (by first | assumption | (unfold fits; omega)); exact rfl)
        | (((with_reducible apply aw_cond); exact rfl) <;> intro hg <;> (first | (exact absurd hg (by decide)) | ((try simp only [decide_eq_true_eq, decide_eq_false_iff_not, Bool.not_eq_true', Bool.not_eq_false', Bool.not_true, Bool.not_false, Bool.not_not, Int.not_lt, Int.not_le, Nat.not_lt, Nat.not_le, gt_iff_lt, ge_iff_le, List.cons.injEq, and_true] at hg); first | (exact absurd trivial hg) | (exfalso; omega) | (have hT : True := hg; clear hT hg) | skip)))
        )
      refine ⟨(j + 1, u), ?_, ?_, by refine weak_mk rfl ?_ ?_ <;> repeat (first | exact envW_nil | exact heapW_nil | refine envW_cons rfl rfl ?_ | refine heapW_cons rfl rfl rfl ?_)⟩
      · show _ - (j + 1) < _ - j; omega
      · refine ⟨by show j + 1 ≤ _; omega, ?_⟩
        show u = sumSp l (ss.take (j + 1))
        rw [hsu, hu, ht]
        unfold spV
        rw [show ss[j].1.toNat + i = ss[j].2.toNat by omega]
  · skip
    repeat' (first
      | ((with_reducible apply aw_seq))
      | ((with_reducible apply aw_region))
      | ((with_reducible apply thn_normal))
      | ((with_reducible apply thn_exit))
      | ((with_reducible apply inb_exit))
      | ((with_reducible apply aw_exit))
      | ((with_reducible apply aw_ret))
      | ((with_reducible apply ao_nil))
      | ((with_reducible apply r_move); exact rfl; exact rfl)
      | ((with_reducible apply r_assign); exact rfl; exact rfl)
      | ((with_reducible apply r_lss); exact rfl; exact rfl; exact rfl)
      | (((with_reducible apply aw_cond); exact rfl) <;> intro hg <;> (first | (exact absurd hg (by decide)) | ((try simp only [decide_eq_true_eq, decide_eq_false_iff_not, Bool.not_eq_true', Bool.not_eq_false', Bool.not_true, Bool.not_false, Bool.not_not, Int.not_lt, Int.not_le, Nat.not_lt, Nat.not_le, gt_iff_lt, ge_iff_le, List.cons.injEq, and_true] at hg); first | (exact absurd trivial hg) | (exfalso; omega) | (have hT : True := hg; clear hT hg) | skip)))
      )
    exact ret_i rfl (by rw [ht, List.take_of_length_le (by omega)])
set_option maxRecDepth 100000 in
set_option maxHeartbeats 8000000 in
theorem sum_con (l : List Int) (hb : Bd l) (ss : List Span) (hs : SpsOk l.length ss) (hl : l.length ≤ 100000) (hn : ss.length ≤ 1000000) : Con Tryd.prog gl 40 [LI l, LS ss] (I (sumSp l ss)) := by
  refine con_of Tryd.func40 rfl (by kernel_rfl) rfl ?_
  simp only [Tryd.ntmps40, Tryd.results40, argEnv, ofC, of1, List.map]
  repeat' (first
    | ((with_reducible apply aw_seq))
    | ((with_reducible apply aw_region))
    | ((with_reducible apply aw_block))
    | ((with_reducible apply thn_normal))
    | ((with_reducible apply ao_nil))
    | ((with_reducible apply r_assign); exact rfl; exact rfl)
    )
  refine aw_loopG (G := Nat × Int) (fun ((j, t) : Nat × Int) => j ≤ ss.length ∧ t = sumSp l (ss.take j)) (fun ((j, t) : Nat × Int) => ss.length - j) (fun ((j, t) : Nat × Int) => [(0, .c (LI l)), (1, .c (LS ss)), (5, A t), (6, A j)]) (fun ((j, t) : Nat × Int) => []) 0 (0, 0) ?_ (by refine weak_mk rfl ?_ ?_ <;> repeat (first | exact envW_nil | exact heapW_nil | refine envW_cons rfl rfl ?_ | refine heapW_cons rfl rfl rfl ?_)) rfl ?_
  · exact ⟨Nat.zero_le _, by simp [sumSp]⟩
  rintro ⟨j, t⟩ hI
  try dsimp only at hI
  try dsimp only
  obtain ⟨hI, ht⟩ := hI
  by_cases hjl : j < ss.length
  · have h1 := hs.sp j hjl
    have hbd := sumSp_bd hb hs j hI
    have htl := tot_le hs j hI
    have htl2 := tot_le hs (j + 1) (by omega)
    rw [tot_succ ss j hjl] at htl2
    have htp : 0 ≤ tot (ss.take j) := by
      have := tot_mono hs.sp j 0 (by omega)
      simpa [tot] using this
    have hsu := sumSp_succ l ss j hjl
    repeat' (first
      | ((with_reducible apply aw_seq))
      | ((with_reducible apply aw_region))
      | ((with_reducible apply aw_block))
      | ((with_reducible apply thn_normal))
      | ((with_reducible apply aw_skip))
      | ((with_reducible apply ao_nil))
      | ((with_reducible apply r_move); exact rfl; exact rfl)
      | ((with_reducible apply r_assign); exact rfl; exact rfl)
      | ((with_reducible apply r_lss); exact rfl; exact rfl; exact rfl)
      | ((with_reducible apply r_len_f); exact rfl; exact inferInstance; exact rfl)
      | ((with_reducible apply r_index_f); exact rfl; exact inferInstance; exact rfl; exact rfl; (first | assumption | omega); exact rfl)
      | ((with_reducible apply r_load_f0); exact rfl; exact inferInstance; exact List.getElem?_eq_getElem (by first | assumption | omega); exact rfl; exact rfl)
      | ((with_reducible apply r_field_e); exact rfl; exact rfl)
      | (((with_reducible apply aw_cond); exact rfl) <;> intro hg <;> (first | (exact absurd hg (by decide)) | ((try simp only [decide_eq_true_eq, decide_eq_false_iff_not, Bool.not_eq_true', Bool.not_eq_false', Bool.not_true, Bool.not_false, Bool.not_not, Int.not_lt, Int.not_le, Nat.not_lt, Nat.not_le, gt_iff_lt, ge_iff_le, List.cons.injEq, and_true] at hg); first | (exact absurd trivial hg) | (exfalso; omega) | (have hT : True := hg; clear hT hg) | skip)))
      )
    refine aw_loopG (G := Int × Int) (fun ((k, u) : Int × Int) => ss[j].1 ≤ k ∧ k ≤ ss[j].2 ∧ u = t + (pre l k.toNat - pre l ss[j].1.toNat)) (fun ((k, u) : Int × Int) => (ss[j].2 - k).toNat) (fun ((k, u) : Int × Int) => [(0, .c (LI l)), (1, .c (LS ss)), (5, A u), (6, A j), (7, A k)]) (fun ((k, u) : Int × Int) => []) 0 (ss[j].1, t) ?_ (by refine weak_mk rfl ?_ ?_ <;> repeat (first | exact envW_nil | exact heapW_nil | refine envW_cons rfl rfl ?_ | refine heapW_cons rfl rfl rfl ?_)) rfl ?_
    · exact ⟨Int.le_refl _, h1.2.1, by simp⟩
    rintro ⟨k, u⟩ hI
    try dsimp only at hI
    try dsimp only
    obtain ⟨hk1, hk2, hu⟩ := hI
    have hpb := pre_bd' hb ss[j].1.toNat k.toNat (by omega) (by omega)
    by_cases hkl : k < ss[j].2
    · have hel := hb k.toNat (by omega)
      have hps := pre_succ l k.toNat (by omega)
      repeat' (first
        | ((with_reducible apply aw_seq))
        | ((with_reducible apply aw_region))
        | ((with_reducible apply aw_block))
        | ((with_reducible apply thn_normal))
        | ((with_reducible apply inb_normal))
        | ((with_reducible apply aw_skip))
        | ((with_reducible apply ao_nil))
        | ((with_reducible apply r_move); exact rfl; exact rfl)
        | ((with_reducible apply r_assign); exact rfl; exact rfl)
        | ((with_reducible apply r_lss); exact rfl; exact rfl; exact rfl)
        | ((with_reducible apply r_add); exact rfl; exact rfl; exact (by first | assumption | (unfold fits; omega)); exact rfl)
        | ((with_reducible apply r_index_f); exact rfl; exact inferInstance; exact rfl; exact rfl; (first | assumption | omega); exact rfl)
        | ((with_reducible apply r_index_f); exact rfl; exact inferInstance; exact rfl; exact (Int.toNat_of_nonneg (by omega)).symm; (first | assumption | omega); exact rfl)
        | ((with_reducible apply r_load_f0); exact rfl; exact inferInstance; exact List.getElem?_eq_getElem (by first | assumption | omega); exact rfl; exact rfl)
        | ((with_reducible apply r_load_f); exact rfl; exact inferInstance; exact List.getElem?_eq_getElem (by first | assumption | omega); exact rfl; exact rfl; exact rfl)
        | ((with_reducible apply r_field_e); exact rfl; exact rfl)
        | (((with_reducible apply aw_cond); exact rfl) <;> intro hg <;> (first | (exact absurd hg (by decide)) | ((try simp only [decide_eq_true_eq, decide_eq_false_iff_not, Bool.not_eq_true', Bool.not_eq_false', Bool.not_true, Bool.not_false, Bool.not_not, Int.not_lt, Int.not_le, Nat.not_lt, Nat.not_le, gt_iff_lt, ge_iff_le, List.cons.injEq, and_true] at hg); first | (exact absurd trivial hg) | (exfalso; omega) | (have hT : True := hg; clear hT hg) | skip)))
        )
      refine ⟨(k + 1, u + l[k.toNat]), ?_, ?_, by refine weak_mk rfl ?_ ?_ <;> repeat (first | exact envW_nil | exact heapW_nil | refine envW_cons rfl rfl ?_ | refine heapW_cons rfl rfl rfl ?_)⟩
      · show (_ - (k + 1)).toNat < (_ - k).toNat; omega
      · refine ⟨by show _ ≤ k + 1; omega, by show k + 1 ≤ _; omega, ?_⟩
        show _ = t + (pre l (k + 1).toNat - _)
        rw [show (k + 1).toNat = k.toNat + 1 by omega, hps]; omega
    · skip
      repeat' (first
        | ((with_reducible apply aw_seq))
        | ((with_reducible apply aw_region))
        | ((with_reducible apply thn_normal))
        | ((with_reducible apply thn_exit))
        | ((with_reducible apply inb_normal))
        | ((with_reducible apply inb_exit))
        | ((with_reducible apply aw_exit))
        | ((with_reducible apply ao_nil))
        | ((with_reducible apply r_move); exact rfl; exact rfl)
        | ((with_reducible apply r_assign); exact rfl; exact rfl)
        | ((with_reducible apply r_lss); exact rfl; exact rfl; exact rfl)
        | ((with_reducible apply r_add); exact rfl; exact rfl; exact (by first | assumption | (unfold fits; omega)); exact rfl)
        | ((with_reducible apply r_index_f); exact rfl; exact inferInstance; exact rfl; exact rfl; (first | assumption | omega); exact rfl)
        | ((with_reducible apply r_load_f); exact rfl; exact inferInstance; exact List.getElem?_eq_getElem (by first | assumption | omega); exact rfl; exact rfl; exact rfl)
        | ((with_reducible apply r_field_e); exact rfl; exact rfl)
        | (((with_reducible apply aw_cond); exact rfl) <;> intro hg <;> (first | (exact absurd hg (by decide)) | ((try simp only [decide_eq_true_eq, decide_eq_false_iff_not, Bool.not_eq_true', Bool.not_eq_false', Bool.not_true, Bool.not_false, Bool.not_not, Int.not_lt, Int.not_le, Nat.not_lt, Nat.not_le, gt_iff_lt, ge_iff_le, List.cons.injEq, and_true] at hg); first | (exact absurd trivial hg) | (exfalso; omega) | (have hT : True := hg; clear hT hg) | skip)))
        )
      refine ⟨(j + 1, u), ?_, ?_, by refine weak_mk rfl ?_ ?_ <;> repeat (first | exact envW_nil | exact heapW_nil | refine envW_cons rfl rfl ?_ | refine heapW_cons rfl rfl rfl ?_)⟩
      · show _ - (j + 1) < _ - j; omega
      · refine ⟨by show j + 1 ≤ _; omega, ?_⟩
        show u = sumSp l (ss.take (j + 1))
        rw [hsu, hu, ht]
        unfold spV
        rw [show k = ss[j].2 by omega]
  · skip
    repeat' (first
      | ((with_reducible apply aw_seq))
      | ((with_reducible apply aw_region))
      | ((with_reducible apply thn_normal))
      | ((with_reducible apply thn_exit))
      | ((with_reducible apply inb_exit))
      | ((with_reducible apply aw_exit))
      | ((with_reducible apply aw_ret))
      | ((with_reducible apply ao_nil))
      | ((with_reducible apply r_move); exact rfl; exact rfl)
      | ((with_reducible apply r_assign); exact rfl; exact rfl)
      | ((with_reducible apply r_lss); exact rfl; exact rfl; exact rfl)
      | ((with_reducible apply r_len_f); exact rfl; exact inferInstance; exact rfl)
      | (((with_reducible apply aw_cond); exact rfl) <;> intro hg <;> (first | (exact absurd hg (by decide)) | ((try simp only [decide_eq_true_eq, decide_eq_false_iff_not, Bool.not_eq_true', Bool.not_eq_false', Bool.not_true, Bool.not_false, Bool.not_not, Int.not_lt, Int.not_le, Nat.not_lt, Nat.not_le, gt_iff_lt, ge_iff_le, List.cons.injEq, and_true] at hg); first | (exact absurd trivial hg) | (exfalso; omega) | (have hT : True := hg; clear hT hg) | skip)))
      )
    exact ret_i rfl (by rw [ht, List.take_of_length_le (by omega)])
end Go.Proofs.YtjofnmklkndhoaaDoor.Cu
