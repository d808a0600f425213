/- CutK CutL CutM CutN CutP CutQ: texts laid together. -/
import Derived.Test.YtkhljpbkebnnmaaGreatDoorMrgC2
set_option maxRecDepth 100000
/- Walks of cutting: the table of the best continuations. -/
namespace Go.Proofs.YtkhljpbkebnnmaaGreatDoor.Cu
set_option linter.unusedVariables false
set_option linter.unusedSimpArgs false
open Go.RowKit Go.Proofs.YtkhljpbkebnnmaaGreatDoor.Ev
def tabS (l : Line) : List Ch := (List.range (l.len.toNat + 1)).map fun e : Nat => TT l (e : Int)
@[simp] theorem tabS_len (l : Line) : (tabS l).length = l.len.toNat + 1 := by simp [tabS]
theorem tabS_get (l : Line) (k : Nat) (h : k < (tabS l).length) : (tabS l)[k] = TT l k := by simp [tabS]
theorem tabS_of {l : Line} {s : List Ch} (hn : s.length = l.len.toNat + 1) (h : ∀ i (hi : i < s.length), s[i] = TT l i) : s = tabS l := by
  refine List.ext_getElem (by simp [hn]) (fun i h1 h2 => ?_)
  rw [h i h1, tabS_get]
structure Kn (l : Line) (p : Int) (es ss : List Ch) : Prop where
  en : es.length = l.len.toNat + 1
  sn : ss.length = l.len.toNat + 1
  e : ∀ i (h : i < es.length), p < i → es[i] = TT l i
  s : ∀ i (h : i < ss.length), p < i → ss[i] = stS l (TV l) i l.sizes.length
theorem Kn.ve {l : Line} {p : Int} {es ss : List Ch} (h : Kn l p es ss) (x : Int) (h1 : p < x) (h0 : 0 ≤ x) (h2 : x ≤ l.len) : VE es x = TV l x := by
  have hx : x.toNat < es.length := by have := h.en; omega
  rw [← VE_int h0 hx, h.e _ hx (by omega), Int.toNat_of_nonneg h0]; rfl
set_option maxHeartbeats 8000000 in
theorem choices_con (l : Line) (v : Valid l) : Con Tryz.prog G 62 [lineC l] (LC (tabS l)) := by
  have hl := v.len
  have hlk := v.kerf
  have hlp := v.pitch
  have hld := v.dust
  have hlc := v.chip
  have hsd := sumsS_len l.dust
  have hsc := sumsS_len l.chip
  have hss := v.sizes
  refine con_of Tryz.func62 rfl (by kernel_rfl) rfl ?_
  simp only [Tryz.ntmps62, Tryz.results62, argEnv, ofC, of1, List.map, lineC, lineL]
  repeat' (first
 | ((with_reducible apply r_call); exact rfl; exact rfl; (first | exact sums_con l.chip v.chips (by omega) | exact sums_con l.dust v.dusts (by omega)); exact rfl; exact rfl)
 | ((with_reducible apply r_make (enc := chC) (0, 0, 0) (l.len.toNat + 1)); exact inferInstance; exact rfl; exact rfl; exact rfl; (exact (by omega)); (exact (by omega)); omega; omega; exact rfl)
 | ((with_reducible apply aw_seq))
 | ((with_reducible apply aw_region))
 | ((with_reducible apply aw_block))
 | ((with_reducible apply thn_normal))
 | ((with_reducible apply ao_nil))
 | ((with_reducible apply r_assign); exact rfl; exact rfl)
 | ((with_reducible apply r_field_p); exact rfl; exact rfl)
 | ((with_reducible apply r_load_p); exact rfl; exact rfl; exact rfl; exact rfl)
 | ((with_reducible apply r_add); exact rfl; exact rfl; exact (by first | assumption | (unfold fits; omega)); exact rfl)
 | ((with_reducible apply r_box_a); exact rfl; exact rfl)
 | (refine aw_drawq ?_ ?_; (kernel_rfl))
 | ((with_reducible apply ds_nil))
 )
  refine aw_loopG (G := Int × List Ch × List Ch) (fun ((p, es, ss) : Int × List Ch × List Ch) => -1 ≤ p ∧ p ≤ l.len ∧ Kn l p es ss) (fun ((p, es, ss) : Int × List Ch × List Ch) => (p + 1).toNat) (fun ((p, es, ss) : Int × List Ch × List Ch) => [(1, .ptr 0 0), (3, .c (LI (sumsS l.chip))), (4, .c (LI (sumsS l.dust))), (5, .vec 1 (l.len.toNat + 1)), (6, .vec 2 (l.len.toNat + 1)), (7, A p)]) (fun ((p, es, ss) : Int × List Ch × List Ch) => [(0, some (lineB l)), (1, some (.vec 108 3 (es.flatMap chC))), (2, some (.vec 108 3 (ss.flatMap chC)))]) 3 (l.len, List.replicate (l.len.toNat + 1) (0, 0, 0), List.replicate (l.len.toNat + 1) (0, 0, 0)) ?_ (by refine weak_mk rfl ?_ ?_ <;> repeat (first | exact envW_nil | exact heapW_nil | refine envW_cons rfl rfl ?_ | refine heapW_cons rfl rfl rfl ?_)) rfl ?_
  · exact ⟨by show -1 ≤ l.len; omega, Int.le_refl _, ⟨by simp, by simp, fun i h hp => by simp at h; omega, fun i h hp => by simp at h; omega⟩⟩
  rintro ⟨p, es, ss⟩ hI
  try dsimp only at hI
  try dsimp only
  obtain ⟨hp0, hp1, kn⟩ := hI
  by_cases hpl : 0 ≤ p
  · have hV : VB l (VE es) p := fun x hx hx2 => by
      rw [kn.ve x hx (by omega) hx2]; exact TV_bd v hpl x hx hx2
    have hst := start_con l v p hpl hp1 es (by have := kn.en; omega) hV
    have hste := stS_congr v hpl (Int.le_refl p) (V := VE es) (V' := TV l) (fun x hx hx2 => kn.ve x hx (by omega) hx2) l.sizes.length (Nat.le_refl _)
    rw [hste] at hst
    have hen := kn.en
    have hsn := kn.sn
    repeat' (first
 | ((with_reducible apply r_callv); exact hst; exact rfl; exact cl_cons (clF_cl rfl) (cl_cons cl_c (cl_cons cl_c (cl_cons (cl_vec rfl (by rw [flat_len EncL.len, hen])) cl_nil))); exact rfl; exact rfl)
 | ((with_reducible apply aw_seq))
 | ((with_reducible apply aw_region))
 | ((with_reducible apply aw_block))
 | ((with_reducible apply thn_normal))
 | ((with_reducible apply aw_skip))
 | ((with_reducible apply ao_nil))
 | ((with_reducible apply r_move); exact rfl; exact rfl)
 | ((with_reducible apply r_load_pa); exact rfl; exact rfl; exact rfl; exact rfl; exact rfl)
 | ((with_reducible apply r_geq); exact rfl; exact rfl; exact rfl)
 | ((with_reducible apply r_index_vf); exact rfl; exact rfl; exact inferInstance; (first | exact rfl | assumption | omega); exact rfl; exact (Int.toNat_of_nonneg (by omega)).symm; (first | assumption | omega); exact rfl)
 | (((with_reducible apply aw_cond); exact rfl) <;> intro hg <;> (first | (exact absurd hg (by decide)) | ((try simp only [decide_eq_true_eq, decide_eq_false_iff_not, Bool.not_eq_true', Bool.not_eq_false', Bool.not_true, Bool.not_false, Bool.not_not, Int.not_lt, Int.not_le, Nat.not_lt, Nat.not_le, gt_iff_lt, ge_iff_le, List.cons.injEq, and_true] at hg); first | (exact absurd trivial hg) | (exfalso; omega) | (have hT : True := hg; clear hT hg) | skip)))
 )
    refine r_store_v (enc := chC) (k := p.toNat) (l := ss) (stS l (TV l) p l.sizes.length) rfl rfl inferInstance hsn (by omega) rfl rfl rfl rfl ?_
    have hnew : ∀ i (h : i < (ss.set p.toNat (stS l (TV l) p l.sizes.length)).length), p - 1 < i → (ss.set p.toNat (stS l (TV l) p l.sizes.length))[i] = stS l (TV l) i l.sizes.length := fun i h hi => by
      by_cases e : i = p.toNat
      · subst e; rw [List.getElem_set_self, Int.toNat_of_nonneg hpl]
      · rw [List.getElem_set_ne (by omega)]
        exact kn.s i (by simpa using h) (by omega)
    have hsn' : (ss.set p.toNat (stS l (TV l) p l.sizes.length)).length = l.len.toNat + 1 := by simp [hsn]
    generalize ss.set p.toNat (stS l (TV l) p l.sizes.length) = ss' at hnew hsn'
    have hc1 := cp_get (l := l) (k := l.len) (by omega)
    have hc2 := cp_get (l := l) (k := p) (by omega)
    have hc3 := cp_le v (k := l.len) (Int.le_refl _)
    have hc4 := cp_le v (k := p) hp1
    rw [← hc1] at hc3
    rw [← hc2] at hc4
    have hat1 : p + l.pitch + l.kerf = atP l p 1 := by unfold atP; omega
    have hs0 := hnew p.toNat (by omega) (by omega)
    rw [Int.toNat_of_nonneg hpl] at hs0
    have hsg0 := stS_sgn l (TV l) p l.sizes.length
    rw [← hs0] at hsg0
    have hs20 : (ss'[p.toNat].1 = -1 ∧ ss'[p.toNat].2.1 = -1) ∨ 0 ≤ ss'[p.toNat].1 := by
      rcases hsg0 with h | h
      · left; rw [h]; exact ⟨rfl, rfl⟩
      · right; exact h.1
    have hs30 : 0 ≤ ss'[p.toNat].1 → ss'[p.toNat].2.1 = p := fun h0 => by
      rcases hsg0 with h | h
      · rw [h] at h0; simp at h0
      · exact h.2.2.1
    have hp00 : posS l (TV l) p 0 = if 0 ≤ ss'[p.toNat].1 ∧ (sumsS l.chip)[l.len.toNat] - (sumsS l.chip)[p.toNat] < ss'[p.toNat].2.2 then (ss'[p.toNat].1, p, ss'[p.toNat].2.2) else (-1, -1, (sumsS l.chip)[l.len.toNat] - (sumsS l.chip)[p.toNat]) := by
      show grp l (TV l) 0 p l.sizes.length _ = _
      rw [grp_st, ← hs0, hc1, hc2]
      simp only [Int.add_zero]
    repeat' (first
 | ((with_reducible apply (r_load_ea (zs := [I (-1), I (-1)]) (ys := []))); exact rfl; exact rfl; exact rfl; exact rfl)
 | (refine aw_drawA 12 ?_ rfl aop_alloc rfl ?_; (kernel_rfl); (simp only [List.take_succ_cons, List.take_zero, List.drop_succ_cons, List.drop_zero]))
 | ((with_reducible apply ds_nilA); exact rfl)
 | ((with_reducible apply aw_seq))
 | ((with_reducible apply aw_region))
 | ((with_reducible apply aw_block))
 | ((with_reducible apply thn_normal))
 | ((with_reducible apply aw_skip))
 | ((with_reducible apply ao_nil))
 | ((with_reducible apply r_move); exact rfl; exact rfl)
 | ((with_reducible apply r_assign); exact rfl; exact rfl)
 | ((with_reducible apply r_field_p); exact rfl; exact rfl)
 | ((with_reducible apply r_load_p); exact rfl; exact rfl; exact rfl; exact rfl)
 | ((with_reducible apply r_load_pa); exact rfl; exact rfl; exact rfl; exact rfl; exact rfl)
 | ((with_reducible apply r_gtr); exact rfl; exact rfl; exact rfl)
 | ((with_reducible apply r_add); exact rfl; exact rfl; exact (by first | assumption | (unfold fits; omega)); exact rfl)
 | ((with_reducible apply r_sub); exact rfl; exact rfl; exact (by first | assumption | (unfold fits; omega)); exact rfl)
 | ((with_reducible apply r_pick_t); exact rfl; exact rfl; exact rfl)
 | ((with_reducible apply r_pick_f); exact rfl; exact rfl; exact rfl)
 | ((with_reducible apply r_index_f); exact rfl; exact inferInstance; exact rfl; exact (Int.toNat_of_nonneg (by omega)).symm; (first | assumption | omega); exact rfl)
 | ((with_reducible apply r_load_f0); exact rfl; exact inferInstance; exact List.getElem?_eq_getElem (by first | assumption | omega); exact rfl; exact rfl)
 | ((with_reducible apply r_index_vf); exact rfl; exact rfl; exact inferInstance; (first | exact rfl | assumption | omega); exact rfl; exact (Int.toNat_of_nonneg (by omega)).symm; (first | assumption | omega); exact rfl)
 | ((with_reducible apply r_load_vfa0); exact rfl; exact rfl; exact inferInstance; (first | exact rfl | assumption | omega); exact List.getElem?_eq_getElem (by first | assumption | omega); exact rfl; exact rfl; exact rfl)
 | ((with_reducible apply r_store_pa); exact rfl; exact rfl; exact rfl; exact rfl; exact rfl; exact rfl)
 | ((with_reducible apply r_build); exact rfl; exact rfl; exact rfl)
 | ((with_reducible apply r_alloc); exact rfl)
 | (((with_reducible apply r_guard); exact rfl; exact rfl; exact rfl; exact rfl) <;> intro hg <;> (first | (exact absurd hg (by decide)) | ((try simp only [decide_eq_true_eq, decide_eq_false_iff_not, Bool.not_eq_true', Bool.not_eq_false', Bool.not_true, Bool.not_false, Bool.not_not, Int.not_lt, Int.not_le, Nat.not_lt, Nat.not_le, gt_iff_lt, ge_iff_le, List.cons.injEq, and_true] at hg); first | (exact absurd trivial hg) | (exfalso; omega) | (have hT : True := hg; clear hT hg) | skip)))
 | (((with_reducible apply aw_cond); exact rfl) <;> intro hg <;> (first | (exact absurd hg (by decide)) | ((try simp only [decide_eq_true_eq, decide_eq_false_iff_not, Bool.not_eq_true', Bool.not_eq_false', Bool.not_true, Bool.not_false, Bool.not_not, Int.not_lt, Int.not_le, Nat.not_lt, Nat.not_le, gt_iff_lt, ge_iff_le, List.cons.injEq, and_true] at hg); first | (exact absurd trivial hg) | (exfalso; omega) | (have hT : True := hg; clear hT hg) | skip)))
 | ((with_reducible apply r_neqs); exact rfl; exact rfl; exact rfl; exact rfl; exact rfl; exact rfl; exact rfl)
 )
    · skip
      refine aw_loopG (G := Nat × Int × Ch) (fun ((m, q, b) : Nat × Int × Ch) => q = atP l p (m + 1) ∧ p + l.kerf + 1 ≤ q ∧ b = posS l (TV l) p m) (fun ((m, q, b) : Nat × Int × Ch) => (l.len + 1 - q).toNat) (fun ((m, q, b) : Nat × Int × Ch) => [(1, .ptr 0 0), (3, .c (LI (sumsS l.chip))), (4, .c (LI (sumsS l.dust))), (5, .vec 1 (l.len.toNat + 1)), (6, .vec 2 (l.len.toNat + 1)), (7, A p), (8, .ptr 3 0), (10, A q)]) (fun ((m, q, b) : Nat × Int × Ch) => [(0, some (lineB l)), (1, some (.vec 108 3 (es.flatMap chC))), (2, some (.vec 108 3 (ss'.flatMap chC))), (3, some (.cells 108 [A b.1, A b.2.1, A b.2.2]))]) 5 (0, p + l.pitch + l.kerf, (ss'[p.toNat]'(by omega)).1, (ss'[p.toNat]'(by omega)).2.1, (ss'[p.toNat]'(by omega)).2.2) ?_ (by refine weak_mk rfl ?_ ?_ <;> repeat (first | exact envW_nil | exact heapW_nil | refine envW_cons rfl rfl ?_ | refine heapW_cons rfl rfl rfl ?_)) rfl ?_
      · exact ⟨hat1, by show p + l.kerf + 1 ≤ p + l.pitch + l.kerf; omega, by rw [hp00, if_pos (by omega)]; exact Prod.ext rfl (Prod.ext (hs30 (by omega)) rfl)⟩
      rintro ⟨m, q, b⟩ hI
      try dsimp only at hI
      try dsimp only
      obtain ⟨hq0, hq1, hb⟩ := hI
      have hbb := posS_bd v hpl hp1 (TV_bd v hpl) m
      rw [← hb] at hbb
      by_cases hql : q ≤ l.len
      · have hsq := hnew q.toNat (by omega) (by omega)
        rw [Int.toNat_of_nonneg (by omega)] at hsq
        have hsb := stS_bd v hpl (p := q) (by omega) hql (TV_bd v hpl) (Nat.le_refl _)
        have hsg := stS_sgn l (TV l) q l.sizes.length
        rw [← hsq] at hsb hsg
        have g1 := cp_get (l := l) (k := q - l.kerf) (by omega)
        have g2 := dp_get (l := l) (k := q - l.kerf) (by omega)
        have g3 := dp_get (l := l) (k := q) (by omega)
        have g4 := cp_bd v hpl (b := q - l.kerf) (by omega) (by omega)
        have g5 := dp_bd v (a := q - l.kerf) (b := q) (by omega) (by omega) hql
        have g6 := dp_le v (k := q) hql
        rw [← g1, ← hc2] at g4
        rw [← g2, ← g3] at g5
        rw [← g3] at g6
        have hps := posS_succ l (TV l) p m
        rw [← hq0, if_pos hql, grp_st, ← hsq, ← hb] at hps
        have hpd : paidP l p q = (sumsS l.chip)[(q - l.kerf).toNat] - (sumsS l.chip)[p.toNat] + (sumsS l.dust)[q.toNat] - (sumsS l.dust)[(q - l.kerf).toNat] := by
          unfold paidP; rw [g1, g2, g3, hc2]
        rw [hpd] at hps
        have hnx : q + l.pitch = atP l p (m + 1 + 1) := by rw [atP_succ l p (m + 1), ← hq0]
        have hs2 : (ss'[q.toNat].1 = -1 ∧ ss'[q.toNat].2.1 = -1) ∨ 0 ≤ ss'[q.toNat].1 := by
          rcases hsg with h | h
          · left; rw [h]; exact ⟨rfl, rfl⟩
          · right; exact h.1
        have hs3 : 0 ≤ ss'[q.toNat].1 → ss'[q.toNat].2.1 = q := fun h0 => by
          rcases hsg with h | h
          · rw [h] at h0; simp at h0
          · exact h.2.2.1
        repeat' (first
 | ((with_reducible apply (r_load_ea (zs := [I (-1), I (-1)]) (ys := []))); exact rfl; exact rfl; exact rfl; exact rfl)
 | (refine aw_drawt 23 ?_ ?_; (kernel_rfl); (simp only [List.take_succ_cons, List.take_zero, List.drop_succ_cons, List.drop_zero]))
 | ((with_reducible apply aw_seq))
 | ((with_reducible apply aw_region))
 | ((with_reducible apply aw_block))
 | ((with_reducible apply thn_normal))
 | ((with_reducible apply inb_normal))
 | ((with_reducible apply aw_skip))
 | ((with_reducible apply ao_nil))
 | ((with_reducible apply r_move); exact rfl; exact rfl)
 | ((with_reducible apply r_assign); exact rfl; exact rfl)
 | ((with_reducible apply r_field_p); exact rfl; exact rfl)
 | ((with_reducible apply r_load_p); exact rfl; exact rfl; exact rfl; exact rfl)
 | ((with_reducible apply r_load_pa); exact rfl; exact rfl; exact rfl; exact rfl; exact rfl)
 | ((with_reducible apply r_leq); exact rfl; exact rfl; exact rfl)
 | ((with_reducible apply r_gtr); exact rfl; exact rfl; exact rfl)
 | ((with_reducible apply r_add); exact rfl; exact rfl; exact (by first | assumption | (unfold fits; omega)); exact rfl)
 | ((with_reducible apply r_sub); exact rfl; exact rfl; exact (by first | assumption | (unfold fits; omega)); exact rfl)
 | ((with_reducible apply r_pick_t); exact rfl; exact rfl; exact rfl)
 | ((with_reducible apply r_pick_f); exact rfl; exact rfl; exact rfl)
 | ((with_reducible apply r_index_f); exact rfl; exact inferInstance; exact rfl; exact (Int.toNat_of_nonneg (by omega)).symm; (first | assumption | omega); exact rfl)
 | ((with_reducible apply r_load_f0); exact rfl; exact inferInstance; exact List.getElem?_eq_getElem (by first | assumption | omega); exact rfl; exact rfl)
 | ((with_reducible apply r_index_vf); exact rfl; exact rfl; exact inferInstance; (first | exact rfl | assumption | omega); exact rfl; exact (Int.toNat_of_nonneg (by omega)).symm; (first | assumption | omega); exact rfl)
 | ((with_reducible apply r_load_vfa0); exact rfl; exact rfl; exact inferInstance; (first | exact rfl | assumption | omega); exact List.getElem?_eq_getElem (by first | assumption | omega); exact rfl; exact rfl; exact rfl)
 | ((with_reducible apply r_store_p); exact rfl; exact rfl; exact rfl; exact rfl; exact rfl; exact rfl)
 | ((with_reducible apply r_store_pa); exact rfl; exact rfl; exact rfl; exact rfl; exact rfl; exact rfl)
 | ((with_reducible apply r_alloc); exact rfl)
 | (((with_reducible apply r_guard); exact rfl; exact rfl; exact rfl; exact rfl) <;> intro hg <;> (first | (exact absurd hg (by decide)) | ((try simp only [decide_eq_true_eq, decide_eq_false_iff_not, Bool.not_eq_true', Bool.not_eq_false', Bool.not_true, Bool.not_false, Bool.not_not, Int.not_lt, Int.not_le, Nat.not_lt, Nat.not_le, gt_iff_lt, ge_iff_le, List.cons.injEq, and_true] at hg); first | (exact absurd trivial hg) | (exfalso; omega) | (have hT : True := hg; clear hT hg) | skip)))
 | (((with_reducible apply aw_cond); exact rfl) <;> intro hg <;> (first | (exact absurd hg (by decide)) | ((try simp only [decide_eq_true_eq, decide_eq_false_iff_not, Bool.not_eq_true', Bool.not_eq_false', Bool.not_true, Bool.not_false, Bool.not_not, Int.not_lt, Int.not_le, Nat.not_lt, Nat.not_le, gt_iff_lt, ge_iff_le, List.cons.injEq, and_true] at hg); first | (exact absurd trivial hg) | (exfalso; omega) | (have hT : True := hg; clear hT hg) | skip)))
 | ((with_reducible apply ds_nil))
 | ((with_reducible apply r_neqs); exact rfl; exact rfl; exact rfl; exact rfl; exact rfl; exact rfl; exact rfl)
 )
        · skip
          refine ⟨(m + 1, q + l.pitch, ((ss'[q.toNat]'(by omega)).1, (ss'[q.toNat]'(by omega)).2.1, (ss'[q.toNat]'(by omega)).2.2 + ((sumsS l.chip)[(q - l.kerf).toNat]'(by omega) - (sumsS l.chip)[p.toNat]'(by omega) + (sumsS l.dust)[q.toNat]'(by omega) - (sumsS l.dust)[(q - l.kerf).toNat]'(by omega)))), ?_, ?_, by refine weak_mk rfl ?_ ?_ <;> repeat (first | exact envW_nil | exact heapW_nil | refine envW_cons rfl rfl ?_ | refine heapW_cons rfl rfl rfl ?_)⟩
          · show (l.len + 1 - (q + l.pitch)).toNat < (l.len + 1 - q).toNat; omega
          · refine ⟨hnx, by show _ ≤ q + l.pitch; omega, ?_⟩
            show _ = posS l (TV l) p (m + 1)
            rw [hps, if_pos (by omega)]
            exact Prod.ext rfl (Prod.ext (hs3 (by omega)) rfl)
        · skip
          refine ⟨(m + 1, q + l.pitch, b), ?_, ?_, by refine weak_mk rfl ?_ ?_ <;> repeat (first | exact envW_nil | exact heapW_nil | refine envW_cons rfl rfl ?_ | refine heapW_cons rfl rfl rfl ?_)⟩
          · show (l.len + 1 - (q + l.pitch)).toNat < (l.len + 1 - q).toNat; omega
          · exact ⟨hnx, by show _ ≤ q + l.pitch; omega, by show b = posS l (TV l) p (m + 1); rw [hps, if_neg (by omega)]⟩
        · skip
          refine ⟨(m + 1, q + l.pitch, b), ?_, ?_, by refine weak_mk rfl ?_ ?_ <;> repeat (first | exact envW_nil | exact heapW_nil | refine envW_cons rfl rfl ?_ | refine heapW_cons rfl rfl rfl ?_)⟩
          · show (l.len + 1 - (q + l.pitch)).toNat < (l.len + 1 - q).toNat; omega
          · exact ⟨hnx, by show _ ≤ q + l.pitch; omega, by show b = posS l (TV l) p (m + 1); rw [hps, if_neg (by omega)]⟩
      · have hbt : b = TT l p := by rw [hb, TT_eq v hpl hp1]; exact posS_end v (TV l) hpl (by rw [← hq0]; omega)
        repeat' (first
 | ((with_reducible apply (r_store_v (enc := chC) (k := p.toNat) (l := es) b)); exact rfl; exact rfl; exact inferInstance; exact hen; exact (by omega); exact rfl; exact rfl; exact rfl; exact rfl)
 | ((with_reducible apply aw_seq))
 | ((with_reducible apply aw_region))
 | ((with_reducible apply thn_normal))
 | ((with_reducible apply thn_exit))
 | ((with_reducible apply inb_normal))
 | ((with_reducible apply inb_exit))
 | ((with_reducible apply aw_exit))
 | ((with_reducible apply ao_nil))
 | ((with_reducible apply r_move); exact rfl; exact rfl)
 | ((with_reducible apply r_assign); exact rfl; exact rfl)
 | ((with_reducible apply r_field_p); exact rfl; exact rfl)
 | ((with_reducible apply r_load_p); exact rfl; exact rfl; exact rfl; exact rfl)
 | ((with_reducible apply r_load_pa); exact rfl; exact rfl; exact rfl; exact rfl; exact rfl)
 | ((with_reducible apply r_leq); exact rfl; exact rfl; exact rfl)
 | ((with_reducible apply r_sub); exact rfl; exact rfl; exact (by first | assumption | (unfold fits; omega)); exact rfl)
 | ((with_reducible apply r_index_vf); exact rfl; exact rfl; exact inferInstance; (first | exact rfl | assumption | omega); exact rfl; exact (Int.toNat_of_nonneg (by omega)).symm; (first | assumption | omega); exact rfl)
 | (((with_reducible apply aw_cond); exact rfl) <;> intro hg <;> (first | (exact absurd hg (by decide)) | ((try simp only [decide_eq_true_eq, decide_eq_false_iff_not, Bool.not_eq_true', Bool.not_eq_false', Bool.not_true, Bool.not_false, Bool.not_not, Int.not_lt, Int.not_le, Nat.not_lt, Nat.not_le, gt_iff_lt, ge_iff_le, List.cons.injEq, and_true] at hg); first | (exact absurd trivial hg) | (exfalso; omega) | (have hT : True := hg; clear hT hg) | skip)))
 )
        refine ⟨(p - 1, es.set p.toNat b, ss'), ?_, ?_, by refine weak_mk rfl ?_ ?_ <;> repeat (first | exact envW_nil | exact heapW_nil | refine envW_cons rfl rfl ?_ | refine heapW_cons rfl rfl rfl ?_)⟩
        · show (p - 1 + 1).toNat < (p + 1).toNat; omega
        · refine ⟨by show -1 ≤ p - 1; omega, by show p - 1 ≤ _; omega, ⟨by simp [hen], hsn', fun i h hi => ?_, hnew⟩⟩
          by_cases e : i = p.toNat
          · subst e; rw [List.getElem_set_self, hbt, Int.toNat_of_nonneg hpl]
          · rw [List.getElem_set_ne (by omega)]
            exact kn.e i (by simpa using h) (by have : p - 1 < (i : Int) := hi; omega)
    · skip
      refine aw_loopG (G := Nat × Int × Ch) (fun ((m, q, b) : Nat × Int × Ch) => q = atP l p (m + 1) ∧ p + l.kerf + 1 ≤ q ∧ b = posS l (TV l) p m) (fun ((m, q, b) : Nat × Int × Ch) => (l.len + 1 - q).toNat) (fun ((m, q, b) : Nat × Int × Ch) => [(1, .ptr 0 0), (3, .c (LI (sumsS l.chip))), (4, .c (LI (sumsS l.dust))), (5, .vec 1 (l.len.toNat + 1)), (6, .vec 2 (l.len.toNat + 1)), (7, A p), (8, .ptr 3 0), (10, A q)]) (fun ((m, q, b) : Nat × Int × Ch) => [(0, some (lineB l)), (1, some (.vec 108 3 (es.flatMap chC))), (2, some (.vec 108 3 (ss'.flatMap chC))), (3, some (.cells 108 [A b.1, A b.2.1, A b.2.2]))]) 5 (0, p + l.pitch + l.kerf, -1, -1, (sumsS l.chip)[l.len.toNat]'(by omega) - (sumsS l.chip)[p.toNat]'(by omega)) ?_ (by refine weak_mk rfl ?_ ?_ <;> repeat (first | exact envW_nil | exact heapW_nil | refine envW_cons rfl rfl ?_ | refine heapW_cons rfl rfl rfl ?_)) rfl ?_
      · exact ⟨hat1, by show p + l.kerf + 1 ≤ p + l.pitch + l.kerf; omega, by rw [hp00, if_neg (by omega)]⟩
      rintro ⟨m, q, b⟩ hI
      try dsimp only at hI
      try dsimp only
      obtain ⟨hq0, hq1, hb⟩ := hI
      have hbb := posS_bd v hpl hp1 (TV_bd v hpl) m
      rw [← hb] at hbb
      by_cases hql : q ≤ l.len
      · have hsq := hnew q.toNat (by omega) (by omega)
        rw [Int.toNat_of_nonneg (by omega)] at hsq
        have hsb := stS_bd v hpl (p := q) (by omega) hql (TV_bd v hpl) (Nat.le_refl _)
        have hsg := stS_sgn l (TV l) q l.sizes.length
        rw [← hsq] at hsb hsg
        have g1 := cp_get (l := l) (k := q - l.kerf) (by omega)
        have g2 := dp_get (l := l) (k := q - l.kerf) (by omega)
        have g3 := dp_get (l := l) (k := q) (by omega)
        have g4 := cp_bd v hpl (b := q - l.kerf) (by omega) (by omega)
        have g5 := dp_bd v (a := q - l.kerf) (b := q) (by omega) (by omega) hql
        have g6 := dp_le v (k := q) hql
        rw [← g1, ← hc2] at g4
        rw [← g2, ← g3] at g5
        rw [← g3] at g6
        have hps := posS_succ l (TV l) p m
        rw [← hq0, if_pos hql, grp_st, ← hsq, ← hb] at hps
        have hpd : paidP l p q = (sumsS l.chip)[(q - l.kerf).toNat] - (sumsS l.chip)[p.toNat] + (sumsS l.dust)[q.toNat] - (sumsS l.dust)[(q - l.kerf).toNat] := by
          unfold paidP; rw [g1, g2, g3, hc2]
        rw [hpd] at hps
        have hnx : q + l.pitch = atP l p (m + 1 + 1) := by rw [atP_succ l p (m + 1), ← hq0]
        have hs2 : (ss'[q.toNat].1 = -1 ∧ ss'[q.toNat].2.1 = -1) ∨ 0 ≤ ss'[q.toNat].1 := by
          rcases hsg with h | h
          · left; rw [h]; exact ⟨rfl, rfl⟩
          · right; exact h.1
        have hs3 : 0 ≤ ss'[q.toNat].1 → ss'[q.toNat].2.1 = q := fun h0 => by
          rcases hsg with h | h
          · rw [h] at h0; simp at h0
          · exact h.2.2.1
        repeat' (first
 | ((with_reducible apply (r_load_ea (zs := [I (-1), I (-1)]) (ys := []))); exact rfl; exact rfl; exact rfl; exact rfl)
 | (refine aw_drawt 23 ?_ ?_; (kernel_rfl); (simp only [List.take_succ_cons, List.take_zero, List.drop_succ_cons, List.drop_zero]))
 | ((with_reducible apply aw_seq))
 | ((with_reducible apply aw_region))
 | ((with_reducible apply aw_block))
 | ((with_reducible apply thn_normal))
 | ((with_reducible apply inb_normal))
 | ((with_reducible apply aw_skip))
 | ((with_reducible apply ao_nil))
 | ((with_reducible apply r_move); exact rfl; exact rfl)
 | ((with_reducible apply r_assign); exact rfl; exact rfl)
 | ((with_reducible apply r_field_p); exact rfl; exact rfl)
 | ((with_reducible apply r_load_p); exact rfl; exact rfl; exact rfl; exact rfl)
 | ((with_reducible apply r_load_pa); exact rfl; exact rfl; exact rfl; exact rfl; exact rfl)
 | ((with_reducible apply r_leq); exact rfl; exact rfl; exact rfl)
 | ((with_reducible apply r_gtr); exact rfl; exact rfl; exact rfl)
 | ((with_reducible apply r_add); exact rfl; exact rfl; exact (by first | assumption | (unfold fits; omega)); exact rfl)
 | ((with_reducible apply r_sub); exact rfl; exact rfl; exact (by first | assumption | (unfold fits; omega)); exact rfl)
 | ((with_reducible apply r_pick_t); exact rfl; exact rfl; exact rfl)
 | ((with_reducible apply r_pick_f); exact rfl; exact rfl; exact rfl)
 | ((with_reducible apply r_index_f); exact rfl; exact inferInstance; exact rfl; exact (Int.toNat_of_nonneg (by omega)).symm; (first | assumption | omega); exact rfl)
 | ((with_reducible apply r_load_f0); exact rfl; exact inferInstance; exact List.getElem?_eq_getElem (by first | assumption | omega); exact rfl; exact rfl)
 | ((with_reducible apply r_index_vf); exact rfl; exact rfl; exact inferInstance; (first | exact rfl | assumption | omega); exact rfl; exact (Int.toNat_of_nonneg (by omega)).symm; (first | assumption | omega); exact rfl)
 | ((with_reducible apply r_load_vfa0); exact rfl; exact rfl; exact inferInstance; (first | exact rfl | assumption | omega); exact List.getElem?_eq_getElem (by first | assumption | omega); exact rfl; exact rfl; exact rfl)
 | ((with_reducible apply r_store_p); exact rfl; exact rfl; exact rfl; exact rfl; exact rfl; exact rfl)
 | ((with_reducible apply r_store_pa); exact rfl; exact rfl; exact rfl; exact rfl; exact rfl; exact rfl)
 | ((with_reducible apply r_alloc); exact rfl)
 | (((with_reducible apply r_guard); exact rfl; exact rfl; exact rfl; exact rfl) <;> intro hg <;> (first | (exact absurd hg (by decide)) | ((try simp only [decide_eq_true_eq, decide_eq_false_iff_not, Bool.not_eq_true', Bool.not_eq_false', Bool.not_true, Bool.not_false, Bool.not_not, Int.not_lt, Int.not_le, Nat.not_lt, Nat.not_le, gt_iff_lt, ge_iff_le, List.cons.injEq, and_true] at hg); first | (exact absurd trivial hg) | (exfalso; omega) | (have hT : True := hg; clear hT hg) | skip)))
 | (((with_reducible apply aw_cond); exact rfl) <;> intro hg <;> (first | (exact absurd hg (by decide)) | ((try simp only [decide_eq_true_eq, decide_eq_false_iff_not, Bool.not_eq_true', Bool.not_eq_false', Bool.not_true, Bool.not_false, Bool.not_not, Int.not_lt, Int.not_le, Nat.not_lt, Nat.not_le, gt_iff_lt, ge_iff_le, List.cons.injEq, and_true] at hg); first | (exact absurd trivial hg) | (exfalso; omega) | (have hT : True := hg; clear hT hg) | skip)))
 | ((with_reducible apply ds_nil))
 | ((with_reducible apply r_neqs); exact rfl; exact rfl; exact rfl; exact rfl; exact rfl; exact rfl; exact rfl)
 )
        · skip
          refine ⟨(m + 1, q + l.pitch, ((ss'[q.toNat]'(by omega)).1, (ss'[q.toNat]'(by omega)).2.1, (ss'[q.toNat]'(by omega)).2.2 + ((sumsS l.chip)[(q - l.kerf).toNat]'(by omega) - (sumsS l.chip)[p.toNat]'(by omega) + (sumsS l.dust)[q.toNat]'(by omega) - (sumsS l.dust)[(q - l.kerf).toNat]'(by omega)))), ?_, ?_, by refine weak_mk rfl ?_ ?_ <;> repeat (first | exact envW_nil | exact heapW_nil | refine envW_cons rfl rfl ?_ | refine heapW_cons rfl rfl rfl ?_)⟩
          · show (l.len + 1 - (q + l.pitch)).toNat < (l.len + 1 - q).toNat; omega
          · refine ⟨hnx, by show _ ≤ q + l.pitch; omega, ?_⟩
            show _ = posS l (TV l) p (m + 1)
            rw [hps, if_pos (by omega)]
            exact Prod.ext rfl (Prod.ext (hs3 (by omega)) rfl)
        · skip
          refine ⟨(m + 1, q + l.pitch, b), ?_, ?_, by refine weak_mk rfl ?_ ?_ <;> repeat (first | exact envW_nil | exact heapW_nil | refine envW_cons rfl rfl ?_ | refine heapW_cons rfl rfl rfl ?_)⟩
          · show (l.len + 1 - (q + l.pitch)).toNat < (l.len + 1 - q).toNat; omega
          · exact ⟨hnx, by show _ ≤ q + l.pitch; omega, by show b = posS l (TV l) p (m + 1); rw [hps, if_neg (by omega)]⟩
        · skip
          refine ⟨(m + 1, q + l.pitch, b), ?_, ?_, by refine weak_mk rfl ?_ ?_ <;> repeat (first | exact envW_nil | exact heapW_nil | refine envW_cons rfl rfl ?_ | refine heapW_cons rfl rfl rfl ?_)⟩
          · show (l.len + 1 - (q + l.pitch)).toNat < (l.len + 1 - q).toNat; omega
          · exact ⟨hnx, by show _ ≤ q + l.pitch; omega, by show b = posS l (TV l) p (m + 1); rw [hps, if_neg (by omega)]⟩
      · have hbt : b = TT l p := by rw [hb, TT_eq v hpl hp1]; exact posS_end v (TV l) hpl (by rw [← hq0]; omega)
        repeat' (first
 | ((with_reducible apply (r_store_v (enc := chC) (k := p.toNat) (l := es) b)); exact rfl; exact rfl; exact inferInstance; exact hen; exact (by omega); exact rfl; exact rfl; exact rfl; exact rfl)
 | ((with_reducible apply aw_seq))
 | ((with_reducible apply aw_region))
 | ((with_reducible apply thn_normal))
 | ((with_reducible apply thn_exit))
 | ((with_reducible apply inb_normal))
 | ((with_reducible apply inb_exit))
 | ((with_reducible apply aw_exit))
 | ((with_reducible apply ao_nil))
 | ((with_reducible apply r_move); exact rfl; exact rfl)
 | ((with_reducible apply r_assign); exact rfl; exact rfl)
 | ((with_reducible apply r_field_p); exact rfl; exact rfl)
 | ((with_reducible apply r_load_p); exact rfl; exact rfl; exact rfl; exact rfl)
 | ((with_reducible apply r_load_pa); exact rfl; exact rfl; exact rfl; exact rfl; exact rfl)
 | ((with_reducible apply r_leq); exact rfl; exact rfl; exact rfl)
 | ((with_reducible apply r_sub); exact rfl; exact rfl; exact (by first | assumption | (unfold fits; omega)); exact rfl)
 | ((with_reducible apply r_index_vf); exact rfl; exact rfl; exact inferInstance; (first | exact rfl | assumption | omega); exact rfl; exact (Int.toNat_of_nonneg (by omega)).symm; (first | assumption | omega); exact rfl)
 | (((with_reducible apply aw_cond); exact rfl) <;> intro hg <;> (first | (exact absurd hg (by decide)) | ((try simp only [decide_eq_true_eq, decide_eq_false_iff_not, Bool.not_eq_true', Bool.not_eq_false', Bool.not_true, Bool.not_false, Bool.not_not, Int.not_lt, Int.not_le, Nat.not_lt, Nat.not_le, gt_iff_lt, ge_iff_le, List.cons.injEq, and_true] at hg); first | (exact absurd trivial hg) | (exfalso; omega) | (have hT : True := hg; clear hT hg) | skip)))
 )
        refine ⟨(p - 1, es.set p.toNat b, ss'), ?_, ?_, by refine weak_mk rfl ?_ ?_ <;> repeat (first | exact envW_nil | exact heapW_nil | refine envW_cons rfl rfl ?_ | refine heapW_cons rfl rfl rfl ?_)⟩
        · show (p - 1 + 1).toNat < (p + 1).toNat; omega
        · refine ⟨by show -1 ≤ p - 1; omega, by show p - 1 ≤ _; omega, ⟨by simp [hen], hsn', fun i h hi => ?_, hnew⟩⟩
          by_cases e : i = p.toNat
          · subst e; rw [List.getElem_set_self, hbt, Int.toNat_of_nonneg hpl]
          · rw [List.getElem_set_ne (by omega)]
            exact kn.e i (by simpa using h) (by have : p - 1 < (i : Int) := hi; omega)
    · skip
      refine aw_loopG (G := Nat × Int × Ch) (fun ((m, q, b) : Nat × Int × Ch) => q = atP l p (m + 1) ∧ p + l.kerf + 1 ≤ q ∧ b = posS l (TV l) p m) (fun ((m, q, b) : Nat × Int × Ch) => (l.len + 1 - q).toNat) (fun ((m, q, b) : Nat × Int × Ch) => [(1, .ptr 0 0), (3, .c (LI (sumsS l.chip))), (4, .c (LI (sumsS l.dust))), (5, .vec 1 (l.len.toNat + 1)), (6, .vec 2 (l.len.toNat + 1)), (7, A p), (8, .ptr 3 0), (10, A q)]) (fun ((m, q, b) : Nat × Int × Ch) => [(0, some (lineB l)), (1, some (.vec 108 3 (es.flatMap chC))), (2, some (.vec 108 3 (ss'.flatMap chC))), (3, some (.cells 108 [A b.1, A b.2.1, A b.2.2]))]) 5 (0, p + l.pitch + l.kerf, -1, -1, (sumsS l.chip)[l.len.toNat]'(by omega) - (sumsS l.chip)[p.toNat]'(by omega)) ?_ (by refine weak_mk rfl ?_ ?_ <;> repeat (first | exact envW_nil | exact heapW_nil | refine envW_cons rfl rfl ?_ | refine heapW_cons rfl rfl rfl ?_)) rfl ?_
      · exact ⟨hat1, by show p + l.kerf + 1 ≤ p + l.pitch + l.kerf; omega, by rw [hp00, if_neg (by omega)]⟩
      rintro ⟨m, q, b⟩ hI
      try dsimp only at hI
      try dsimp only
      obtain ⟨hq0, hq1, hb⟩ := hI
      have hbb := posS_bd v hpl hp1 (TV_bd v hpl) m
      rw [← hb] at hbb
      by_cases hql : q ≤ l.len
      · have hsq := hnew q.toNat (by omega) (by omega)
        rw [Int.toNat_of_nonneg (by omega)] at hsq
        have hsb := stS_bd v hpl (p := q) (by omega) hql (TV_bd v hpl) (Nat.le_refl _)
        have hsg := stS_sgn l (TV l) q l.sizes.length
        rw [← hsq] at hsb hsg
        have g1 := cp_get (l := l) (k := q - l.kerf) (by omega)
        have g2 := dp_get (l := l) (k := q - l.kerf) (by omega)
        have g3 := dp_get (l := l) (k := q) (by omega)
        have g4 := cp_bd v hpl (b := q - l.kerf) (by omega) (by omega)
        have g5 := dp_bd v (a := q - l.kerf) (b := q) (by omega) (by omega) hql
        have g6 := dp_le v (k := q) hql
        rw [← g1, ← hc2] at g4
        rw [← g2, ← g3] at g5
        rw [← g3] at g6
        have hps := posS_succ l (TV l) p m
        rw [← hq0, if_pos hql, grp_st, ← hsq, ← hb] at hps
        have hpd : paidP l p q = (sumsS l.chip)[(q - l.kerf).toNat] - (sumsS l.chip)[p.toNat] + (sumsS l.dust)[q.toNat] - (sumsS l.dust)[(q - l.kerf).toNat] := by
          unfold paidP; rw [g1, g2, g3, hc2]
        rw [hpd] at hps
        have hnx : q + l.pitch = atP l p (m + 1 + 1) := by rw [atP_succ l p (m + 1), ← hq0]
        have hs2 : (ss'[q.toNat].1 = -1 ∧ ss'[q.toNat].2.1 = -1) ∨ 0 ≤ ss'[q.toNat].1 := by
          rcases hsg with h | h
          · left; rw [h]; exact ⟨rfl, rfl⟩
          · right; exact h.1
        have hs3 : 0 ≤ ss'[q.toNat].1 → ss'[q.toNat].2.1 = q := fun h0 => by
          rcases hsg with h | h
          · rw [h] at h0; simp at h0
          · exact h.2.2.1
        repeat' (first
 | ((with_reducible apply (r_load_ea (zs := [I (-1), I (-1)]) (ys := []))); exact rfl; exact rfl; exact rfl; exact rfl)
 | (refine aw_drawt 23 ?_ ?_; (kernel_rfl); (simp only [List.take_succ_cons, List.take_zero, List.drop_succ_cons, List.drop_zero]))
 | ((with_reducible apply aw_seq))
 | ((with_reducible apply aw_region))
 | ((with_reducible apply aw_block))
 | ((with_reducible apply thn_normal))
 | ((with_reducible apply inb_normal))
 | ((with_reducible apply aw_skip))
 | ((with_reducible apply ao_nil))
 | ((with_reducible apply r_move); exact rfl; exact rfl)
 | ((with_reducible apply r_assign); exact rfl; exact rfl)
 | ((with_reducible apply r_field_p); exact rfl; exact rfl)
 | ((with_reducible apply r_load_p); exact rfl; exact rfl; exact rfl; exact rfl)
 | ((with_reducible apply r_load_pa); exact rfl; exact rfl; exact rfl; exact rfl; exact rfl)
 | ((with_reducible apply r_leq); exact rfl; exact rfl; exact rfl)
 | ((with_reducible apply r_gtr); exact rfl; exact rfl; exact rfl)
 | ((with_reducible apply r_add); exact rfl; exact rfl; exact (by first | assumption | (unfold fits; omega)); exact rfl)
 | ((with_reducible apply r_sub); exact rfl; exact rfl; exact (by first | assumption | (unfold fits; omega)); exact rfl)
 | ((with_reducible apply r_pick_t); exact rfl; exact rfl; exact rfl)
 | ((with_reducible apply r_pick_f); exact rfl; exact rfl; exact rfl)
 | ((with_reducible apply r_index_f); exact rfl; exact inferInstance; exact rfl; exact (Int.toNat_of_nonneg (by omega)).symm; (first | assumption | omega); exact rfl)
 | ((with_reducible apply r_load_f0); exact rfl; exact inferInstance; exact List.getElem?_eq_getElem (by first | assumption | omega); exact rfl; exact rfl)
 | ((with_reducible apply r_index_vf); exact rfl; exact rfl; exact inferInstance; (first | exact rfl | assumption | omega); exact rfl; exact (Int.toNat_of_nonneg (by omega)).symm; (first | assumption | omega); exact rfl)
 | ((with_reducible apply r_load_vfa0); exact rfl; exact rfl; exact inferInstance; (first | exact rfl | assumption | omega); exact List.getElem?_eq_getElem (by first | assumption | omega); exact rfl; exact rfl; exact rfl)
 | ((with_reducible apply r_store_p); exact rfl; exact rfl; exact rfl; exact rfl; exact rfl; exact rfl)
 | ((with_reducible apply r_store_pa); exact rfl; exact rfl; exact rfl; exact rfl; exact rfl; exact rfl)
 | ((with_reducible apply r_alloc); exact rfl)
 | (((with_reducible apply r_guard); exact rfl; exact rfl; exact rfl; exact rfl) <;> intro hg <;> (first | (exact absurd hg (by decide)) | ((try simp only [decide_eq_true_eq, decide_eq_false_iff_not, Bool.not_eq_true', Bool.not_eq_false', Bool.not_true, Bool.not_false, Bool.not_not, Int.not_lt, Int.not_le, Nat.not_lt, Nat.not_le, gt_iff_lt, ge_iff_le, List.cons.injEq, and_true] at hg); first | (exact absurd trivial hg) | (exfalso; omega) | (have hT : True := hg; clear hT hg) | skip)))
 | (((with_reducible apply aw_cond); exact rfl) <;> intro hg <;> (first | (exact absurd hg (by decide)) | ((try simp only [decide_eq_true_eq, decide_eq_false_iff_not, Bool.not_eq_true', Bool.not_eq_false', Bool.not_true, Bool.not_false, Bool.not_not, Int.not_lt, Int.not_le, Nat.not_lt, Nat.not_le, gt_iff_lt, ge_iff_le, List.cons.injEq, and_true] at hg); first | (exact absurd trivial hg) | (exfalso; omega) | (have hT : True := hg; clear hT hg) | skip)))
 | ((with_reducible apply ds_nil))
 | ((with_reducible apply r_neqs); exact rfl; exact rfl; exact rfl; exact rfl; exact rfl; exact rfl; exact rfl)
 )
        · skip
          refine ⟨(m + 1, q + l.pitch, ((ss'[q.toNat]'(by omega)).1, (ss'[q.toNat]'(by omega)).2.1, (ss'[q.toNat]'(by omega)).2.2 + ((sumsS l.chip)[(q - l.kerf).toNat]'(by omega) - (sumsS l.chip)[p.toNat]'(by omega) + (sumsS l.dust)[q.toNat]'(by omega) - (sumsS l.dust)[(q - l.kerf).toNat]'(by omega)))), ?_, ?_, by refine weak_mk rfl ?_ ?_ <;> repeat (first | exact envW_nil | exact heapW_nil | refine envW_cons rfl rfl ?_ | refine heapW_cons rfl rfl rfl ?_)⟩
          · show (l.len + 1 - (q + l.pitch)).toNat < (l.len + 1 - q).toNat; omega
          · refine ⟨hnx, by show _ ≤ q + l.pitch; omega, ?_⟩
            show _ = posS l (TV l) p (m + 1)
            rw [hps, if_pos (by omega)]
            exact Prod.ext rfl (Prod.ext (hs3 (by omega)) rfl)
        · skip
          refine ⟨(m + 1, q + l.pitch, b), ?_, ?_, by refine weak_mk rfl ?_ ?_ <;> repeat (first | exact envW_nil | exact heapW_nil | refine envW_cons rfl rfl ?_ | refine heapW_cons rfl rfl rfl ?_)⟩
          · show (l.len + 1 - (q + l.pitch)).toNat < (l.len + 1 - q).toNat; omega
          · exact ⟨hnx, by show _ ≤ q + l.pitch; omega, by show b = posS l (TV l) p (m + 1); rw [hps, if_neg (by omega)]⟩
        · skip
          refine ⟨(m + 1, q + l.pitch, b), ?_, ?_, by refine weak_mk rfl ?_ ?_ <;> repeat (first | exact envW_nil | exact heapW_nil | refine envW_cons rfl rfl ?_ | refine heapW_cons rfl rfl rfl ?_)⟩
          · show (l.len + 1 - (q + l.pitch)).toNat < (l.len + 1 - q).toNat; omega
          · exact ⟨hnx, by show _ ≤ q + l.pitch; omega, by show b = posS l (TV l) p (m + 1); rw [hps, if_neg (by omega)]⟩
      · have hbt : b = TT l p := by rw [hb, TT_eq v hpl hp1]; exact posS_end v (TV l) hpl (by rw [← hq0]; omega)
        repeat' (first
 | ((with_reducible apply (r_store_v (enc := chC) (k := p.toNat) (l := es) b)); exact rfl; exact rfl; exact inferInstance; exact hen; exact (by omega); exact rfl; exact rfl; exact rfl; exact rfl)
 | ((with_reducible apply aw_seq))
 | ((with_reducible apply aw_region))
 | ((with_reducible apply thn_normal))
 | ((with_reducible apply thn_exit))
 | ((with_reducible apply inb_normal))
 | ((with_reducible apply inb_exit))
 | ((with_reducible apply aw_exit))
 | ((with_reducible apply ao_nil))
 | ((with_reducible apply r_move); exact rfl; exact rfl)
 | ((with_reducible apply r_assign); exact rfl; exact rfl)
 | ((with_reducible apply r_field_p); exact rfl; exact rfl)
 | ((with_reducible apply r_load_p); exact rfl; exact rfl; exact rfl; exact rfl)
 | ((with_reducible apply r_load_pa); exact rfl; exact rfl; exact rfl; exact rfl; exact rfl)
 | ((with_reducible apply r_leq); exact rfl; exact rfl; exact rfl)
 | ((with_reducible apply r_sub); exact rfl; exact rfl; exact (by first | assumption | (unfold fits; omega)); exact rfl)
 | ((with_reducible apply r_index_vf); exact rfl; exact rfl; exact inferInstance; (first | exact rfl | assumption | omega); exact rfl; exact (Int.toNat_of_nonneg (by omega)).symm; (first | assumption | omega); exact rfl)
 | (((with_reducible apply aw_cond); exact rfl) <;> intro hg <;> (first | (exact absurd hg (by decide)) | ((try simp only [decide_eq_true_eq, decide_eq_false_iff_not, Bool.not_eq_true', Bool.not_eq_false', Bool.not_true, Bool.not_false, Bool.not_not, Int.not_lt, Int.not_le, Nat.not_lt, Nat.not_le, gt_iff_lt, ge_iff_le, List.cons.injEq, and_true] at hg); first | (exact absurd trivial hg) | (exfalso; omega) | (have hT : True := hg; clear hT hg) | skip)))
 )
        refine ⟨(p - 1, es.set p.toNat b, ss'), ?_, ?_, by refine weak_mk rfl ?_ ?_ <;> repeat (first | exact envW_nil | exact heapW_nil | refine envW_cons rfl rfl ?_ | refine heapW_cons rfl rfl rfl ?_)⟩
        · show (p - 1 + 1).toNat < (p + 1).toNat; omega
        · refine ⟨by show -1 ≤ p - 1; omega, by show p - 1 ≤ _; omega, ⟨by simp [hen], hsn', fun i h hi => ?_, hnew⟩⟩
          by_cases e : i = p.toNat
          · subst e; rw [List.getElem_set_self, hbt, Int.toNat_of_nonneg hpl]
          · rw [List.getElem_set_ne (by omega)]
            exact kn.e i (by simpa using h) (by have : p - 1 < (i : Int) := hi; omega)
  · skip
    repeat' (first
 | ((with_reducible apply aw_seq))
 | ((with_reducible apply aw_region))
 | ((with_reducible apply thn_normal))
 | ((with_reducible apply thn_exit))
 | ((with_reducible apply inb_exit))
 | ((with_reducible apply aw_exit))
 | ((with_reducible apply aw_ret))
 | ((with_reducible apply ao_nil))
 | ((with_reducible apply r_move); exact rfl; exact rfl)
 | ((with_reducible apply r_assign); exact rfl; exact rfl)
 | ((with_reducible apply r_geq); exact rfl; exact rfl; exact rfl)
 | (((with_reducible apply aw_cond); exact rfl) <;> intro hg <;> (first | (exact absurd hg (by decide)) | ((try simp only [decide_eq_true_eq, decide_eq_false_iff_not, Bool.not_eq_true', Bool.not_eq_false', Bool.not_true, Bool.not_false, Bool.not_not, Int.not_lt, Int.not_le, Nat.not_lt, Nat.not_le, gt_iff_lt, ge_iff_le, List.cons.injEq, and_true] at hg); first | (exact absurd trivial hg) | (exfalso; omega) | (have hT : True := hg; clear hT hg) | skip)))
 )
    have : es = tabS l := tabS_of kn.en (fun i hi => kn.e i hi (by omega))
    rw [← this]
    exact ret1 (.tmp rfl (cl_vec rfl (by rw [flat_len EncL.len, kn.en])))
end Go.Proofs.YtkhljpbkebnnmaaGreatDoor.Cu
/- Walks of cutting: the best pieces. -/
namespace Go.Proofs.YtkhljpbkebnnmaaGreatDoor.Cu
set_option linter.unusedVariables false
set_option linter.unusedSimpArgs false
open Go.RowKit Go.Proofs.YtkhljpbkebnnmaaGreatDoor.Ev
def chainS (l : Line) : Nat → Int → List Piece
  | 0, _ => []
  | n + 1, e => if e < 0 ∨ (TT l e).1 < 0 then [] else ((TT l e).1, (TT l e).2.1) :: chainS l n (behindS l ((TT l e).2.1 + szOf l (TT l e).1))
noncomputable def bestS (l : Line) : List Piece × Int × Int := if chk l ≠ 0 then ([], 0, chk l) else (chainS l (l.len.toNat + 2) 0, TV l 0, 0)
def bestC (r : List Piece × Int × Int) : CV := .tup [LP r.1, I r.2.1, I r.2.2]
theorem chain_stop {l : Line} {n : Nat} {e : Int} (h : e < 0 ∨ (TT l e).1 < 0) : chainS l n e = [] := by
  cases n with
  | zero => rfl
  | succ n => show (if _ then _ else _) = _; rw [if_pos h]
theorem chain_go {l : Line} {n : Nat} {e : Int} (h0 : 0 ≤ e) (h : 0 ≤ (TT l e).1) : chainS l (n + 1) e = ((TT l e).1, (TT l e).2.1) :: chainS l n (behindS l ((TT l e).2.1 + szOf l (TT l e).1)) := by
  show (if _ then _ else _) = _; rw [if_neg (by omega)]
theorem TT_sgn {l : Line} (v : Valid l) {e : Int} (h0 : 0 ≤ e) (h1 : e ≤ l.len) : ((TT l e).1 = -1 ∧ (TT l e).2.1 = -1) ∨ (0 ≤ (TT l e).1 ∧ (TT l e).1 < l.sizes.length ∧ e ≤ (TT l e).2.1 ∧ OkP l (TT l e).1.toNat (TT l e).2.1) := by
  rw [TT_eq v h0 h1]
  unfold chooseS
  rcases posS_sgn l (TV l) e l.len.toNat with h | ⟨q, hq, h2, h3, h4, h5⟩
  · exact .inl h
  · refine .inr ⟨h2, h3, ?_, by rw [h4]; exact h5⟩
    rw [h4]
    rcases hq with rfl | ⟨j, hj, rfl, _⟩
    · exact Int.le_refl _
    · have := atP_ge v e j
      have := v.kerf
      omega
theorem best_ok {l : Line} (h : chk l = 0) : bestS l = (chainS l (l.len.toNat + 2) 0, TV l 0, 0) := by unfold bestS; rw [if_neg (fun hh => hh h)]
theorem best_err {l : Line} (h : ¬ chk l = 0) : bestS l = ([], 0, chk l) := by unfold bestS; rw [if_pos h]
theorem OkP_sz {l : Line} {k : Int} {p : Int} (h0 : 0 ≤ k) (h : OkP l k.toNat p) : p + szOf l k ≤ l.len := by
  have := h.1; rw [Int.toNat_of_nonneg h0] at this; exact this
set_option maxHeartbeats 8000000 in
theorem best_con (l : Line) : Con Tryz.prog G 36 [lineC l] (bestC (bestS l)) := by
  refine con_of Tryz.func36 rfl (by kernel_rfl) rfl ?_
  simp only [Tryz.ntmps36, Tryz.results36, argEnv, ofC, of1, List.map, lineC, lineL]
  repeat' (first
 | ((with_reducible apply r_call); exact rfl; exact rfl; exact check_con l; exact rfl; exact rfl)
 | ((with_reducible apply aw_seq))
 | ((with_reducible apply aw_region))
 | ((with_reducible apply thn_normal))
 | ((with_reducible apply thn_ret))
 | ((with_reducible apply aw_skip))
 | ((with_reducible apply aw_ret))
 | ((with_reducible apply ao_nil))
 | ((with_reducible apply r_move); exact rfl; exact rfl)
 | ((with_reducible apply r_assign); exact rfl; exact rfl)
 | ((with_reducible apply r_load_pa); exact rfl; exact rfl; exact rfl; exact rfl; exact rfl)
 | ((with_reducible apply r_neq); exact rfl; exact rfl; exact rfl)
 | ((with_reducible apply r_box_a); exact rfl; exact rfl)
 | (((with_reducible apply aw_cond); exact rfl) <;> intro hg <;> (first | (exact absurd hg (by decide)) | ((try simp only [decide_eq_true_eq, decide_eq_false_iff_not, Bool.not_eq_true', Bool.not_eq_false', Bool.not_true, Bool.not_false, Bool.not_not, Int.not_lt, Int.not_le, Nat.not_lt, Nat.not_le, gt_iff_lt, ge_iff_le, List.cons.injEq, and_true] at hg); first | (exact absurd trivial hg) | (exfalso; omega) | (have hT : True := hg; clear hT hg) | skip)))
 )
  · rw [best_err hg]
    exact ret2 (.cons (.tmp rfl cl_none) (.cons (.tmp rfl cl_c) (.cons (.tmp rfl cl_c) .nil)))
  have v := valid_of hg
  have hl := v.len
  have hlk := v.kerf
  have hlt := tabS_len l
  have h0 : TV l 0 = ((tabS l)[(0 : Int).toNat]'(by rw [hlt]; omega)).2.2 := by rw [tabS_get]; rfl
  rw [best_ok hg, h0]
  repeat' (first
 | ((with_reducible apply r_call); exact rfl; exact rfl; exact choices_con l v; exact rfl; exact rfl)
 | ((with_reducible apply aw_seq))
 | ((with_reducible apply aw_region))
 | ((with_reducible apply aw_block))
 | ((with_reducible apply thn_normal))
 | ((with_reducible apply ao_nil))
 | ((with_reducible apply r_assign); exact rfl; exact rfl)
 )
  refine aw_nilvec 7 74 2 rfl rfl ?_
  refine aw_loopG (G := Nat × Int × Nat × List Piece) (fun ((n, ed, k, out) : Nat × Int × Nat × List Piece) => out.length = k ∧ -1 ≤ ed ∧ ed ≤ l.len ∧ (0 ≤ ed → l.len - ed + 1 ≤ n) ∧ out.length + n ≤ l.len.toNat + 2 ∧ chainS l (l.len.toNat + 2) 0 = out ++ chainS l n ed) (fun ((n, ed, k, out) : Nat × Int × Nat × List Piece) => n) (fun ((n, ed, k, out) : Nat × Int × Nat × List Piece) => [(1, .ptr 0 0), (6, .c (LC (tabS l))), (7, .vec 1 k), (8, A ed)]) (fun ((n, ed, k, out) : Nat × Int × Nat × List Piece) => [(0, some (lineB l)), (1, some (.vec 74 2 (out.flatMap pcC)))]) 2 (l.len.toNat + 2, 0, 0, []) ?_ (by refine weak_mk rfl ?_ ?_ <;> repeat (first | exact envW_nil | exact heapW_nil | refine envW_cons rfl rfl ?_ | refine heapW_cons rfl rfl rfl ?_)) rfl ?_
  · exact ⟨rfl, by decide, hl.1, fun _ => by omega, by simp, by simp⟩
  rintro ⟨n, ed, k, out⟩ hI
  try dsimp only at hI
  try dsimp only
  obtain ⟨hk, he1, he2, hn, ho, hch⟩ := hI
  by_cases he0 : 0 ≤ ed
  · have htg := tabS_get l ed.toNat (by omega)
    rw [Int.toNat_of_nonneg he0] at htg
    have hs := TT_sgn v he0 he2
    rw [← htg] at hs
    rcases hs with hs | ⟨s1, s2, s3, s4⟩
    · skip
      repeat' (first
 | ((with_reducible apply (r_load_ea (zs := [I (-1), I (-1)]) (ys := []))); exact rfl; exact rfl; exact rfl; exact rfl)
 | ((with_reducible apply aw_seq))
 | ((with_reducible apply aw_region))
 | ((with_reducible apply aw_block))
 | ((with_reducible apply thn_normal))
 | ((with_reducible apply thn_exit))
 | ((with_reducible apply inb_exit))
 | ((with_reducible apply inb_other); exact rfl)
 | ((with_reducible apply aw_skip))
 | ((with_reducible apply aw_exit))
 | ((with_reducible apply aw_ret))
 | ((with_reducible apply ao_nil))
 | ((with_reducible apply r_move); exact rfl; exact rfl)
 | ((with_reducible apply r_assign); exact rfl; exact rfl)
 | ((with_reducible apply r_load_pa); exact rfl; exact rfl; exact rfl; exact rfl; exact rfl)
 | ((with_reducible apply r_geq); exact rfl; exact rfl; exact rfl)
 | ((with_reducible apply r_index_f); exact rfl; exact inferInstance; exact rfl; exact (Int.toNat_of_nonneg (by omega)).symm; (first | assumption | omega); exact rfl)
 | ((with_reducible apply r_load_f); exact rfl; exact inferInstance; exact List.getElem?_eq_getElem (by first | assumption | omega); exact rfl; exact rfl; exact rfl)
 | ((with_reducible apply r_load_fa); exact rfl; exact inferInstance; exact List.getElem?_eq_getElem (by first | assumption | omega); exact rfl; exact rfl; exact rfl)
 | ((with_reducible apply r_field_e); exact rfl; exact rfl)
 | ((with_reducible apply r_store_pa); exact rfl; exact rfl; exact rfl; exact rfl; exact rfl; exact rfl)
 | ((with_reducible apply r_alloc); exact rfl)
 | (((with_reducible apply aw_cond); exact rfl) <;> intro hg <;> (first | (exact absurd hg (by decide)) | ((try simp only [decide_eq_true_eq, decide_eq_false_iff_not, Bool.not_eq_true', Bool.not_eq_false', Bool.not_true, Bool.not_false, Bool.not_not, Int.not_lt, Int.not_le, Nat.not_lt, Nat.not_le, gt_iff_lt, ge_iff_le, List.cons.injEq, and_true] at hg); first | (exact absurd trivial hg) | (exfalso; omega) | (have hT : True := hg; clear hT hg) | skip)))
 | (refine aw_drawq ?_ ?_; (kernel_rfl))
 | ((with_reducible apply ds_nil))
 | ((with_reducible apply r_eqs); exact rfl; exact rfl; exact rfl; exact rfl; exact rfl; exact rfl; exact rfl)
 )
      rw [hch, chain_stop (Or.inr (by rw [← htg]; omega)), List.append_nil]
      exact ret2 (.cons (.tmp rfl (cl_vec rfl (by rw [flat_len EncL.len, hk]))) (.cons (.tmp rfl cl_c) (.cons (.tmp rfl cl_c) .nil)))
    · have s5 := OkP_sz s1 s4
      obtain ⟨m, rfl⟩ : ∃ m, n = m + 1 := ⟨n - 1, by omega⟩
      have hgo := chain_go (l := l) (n := m) he0 (by rw [← htg]; exact s1)
      rw [← htg] at hgo
      have hk2 : (tabS l)[ed.toNat].1.toNat < l.sizes.length := by omega
      have hsz : szOf l (tabS l)[ed.toNat].1 = l.sizes[(tabS l)[ed.toNat].1.toNat] := by
        conv => lhs; rw [show (tabS l)[ed.toNat].1 = (((tabS l)[ed.toNat].1.toNat : Nat) : Int) by omega]
        exact szOf_nat hk2
      rw [hsz] at s5 hgo
      have hz := v.size _ hk2
      have hb := beh_cases v (q := (tabS l)[ed.toNat].2.1 + l.sizes[(tabS l)[ed.toNat].1.toNat]) (by omega) s5
      repeat' (first
 | ((with_reducible apply (r_load_ea (zs := [I (-1), I (-1)]) (ys := []))); exact rfl; exact rfl; exact rfl; exact rfl)
 | ((with_reducible apply (r_push (enc := pcC) (x0 := ((tabS l)[ed.toNat].1, (tabS l)[ed.toNat].2.1)))); exact rfl; exact rfl; exact inferInstance; exact hk; exact rfl; exact rfl; exact rfl; exact (by omega); exact (by omega); exact rfl)
 | ((with_reducible apply r_call); exact rfl; exact rfl; exact behind_con l _ (by unfold fits; omega); exact rfl; exact rfl)
 | (refine aw_drawt 10 ?_ ?_; (kernel_rfl); (simp only [List.take_succ_cons, List.take_zero, List.drop_succ_cons, List.drop_zero]))
 | ((with_reducible apply aw_seq))
 | ((with_reducible apply aw_region))
 | ((with_reducible apply aw_block))
 | ((with_reducible apply thn_normal))
 | ((with_reducible apply inb_normal))
 | ((with_reducible apply aw_skip))
 | ((with_reducible apply ao_nil))
 | ((with_reducible apply r_move); exact rfl; exact rfl)
 | ((with_reducible apply r_assign); exact rfl; exact rfl)
 | ((with_reducible apply r_field_p); exact rfl; exact rfl)
 | ((with_reducible apply r_load_p); exact rfl; exact rfl; exact rfl; exact rfl)
 | ((with_reducible apply r_load_pa); exact rfl; exact rfl; exact rfl; exact rfl; exact rfl)
 | ((with_reducible apply r_geq); exact rfl; exact rfl; exact rfl)
 | ((with_reducible apply r_add); exact rfl; exact rfl; exact (by first | assumption | (unfold fits; omega)); exact rfl)
 | ((with_reducible apply r_index_f); exact rfl; exact inferInstance; exact rfl; exact (Int.toNat_of_nonneg (by omega)).symm; (first | assumption | omega); exact rfl)
 | ((with_reducible apply r_load_f0); exact rfl; exact inferInstance; exact List.getElem?_eq_getElem (by first | assumption | omega); exact rfl; exact rfl)
 | ((with_reducible apply r_load_fa); exact rfl; exact inferInstance; exact List.getElem?_eq_getElem (by first | assumption | omega); exact rfl; exact rfl; exact rfl)
 | ((with_reducible apply r_field_e); exact rfl; exact rfl)
 | ((with_reducible apply r_store_pa); exact rfl; exact rfl; exact rfl; exact rfl; exact rfl; exact rfl)
 | ((with_reducible apply r_alloc); exact rfl)
 | (((with_reducible apply aw_cond); exact rfl) <;> intro hg <;> (first | (exact absurd hg (by decide)) | ((try simp only [decide_eq_true_eq, decide_eq_false_iff_not, Bool.not_eq_true', Bool.not_eq_false', Bool.not_true, Bool.not_false, Bool.not_not, Int.not_lt, Int.not_le, Nat.not_lt, Nat.not_le, gt_iff_lt, ge_iff_le, List.cons.injEq, and_true] at hg); first | (exact absurd trivial hg) | (exfalso; omega) | (have hT : True := hg; clear hT hg) | skip)))
 | ((with_reducible apply ds_nil))
 | ((with_reducible apply r_eqs); exact rfl; exact rfl; exact rfl; exact rfl; exact rfl; exact rfl; exact rfl)
 | ((with_reducible apply r_lit); exact rfl; exact rfl; exact rfl; exact rfl; exact rfl; exact rfl; exact rfl)
 )
      refine ⟨(m, behindS l ((tabS l)[ed.toNat].2.1 + l.sizes[(tabS l)[ed.toNat].1.toNat]), k + 1, out ++ [((tabS l)[ed.toNat].1, (tabS l)[ed.toNat].2.1)]), ?_, ?_, by refine weak_mk rfl ?_ ?_ <;> repeat (first | exact envW_nil | exact heapW_nil | refine envW_cons rfl rfl ?_ | refine heapW_cons rfl rfl rfl ?_)⟩
      · show m < m + 1; omega
      · dsimp only
        refine ⟨by simp [hk], by omega, by omega, fun h => by omega, by simp; omega, ?_⟩
        rw [hch, hgo, List.append_assoc]; rfl
  · skip
    repeat' (first
 | ((with_reducible apply aw_seq))
 | ((with_reducible apply aw_region))
 | ((with_reducible apply thn_normal))
 | ((with_reducible apply thn_exit))
 | ((with_reducible apply inb_exit))
 | ((with_reducible apply aw_exit))
 | ((with_reducible apply aw_ret))
 | ((with_reducible apply ao_nil))
 | ((with_reducible apply r_move); exact rfl; exact rfl)
 | ((with_reducible apply r_assign); exact rfl; exact rfl)
 | ((with_reducible apply r_geq); exact rfl; exact rfl; exact rfl)
 | ((with_reducible apply r_index_f); exact rfl; exact inferInstance; exact rfl; exact (Int.toNat_of_nonneg (by omega)).symm; (first | assumption | omega); exact rfl)
 | ((with_reducible apply r_load_f); exact rfl; exact inferInstance; exact List.getElem?_eq_getElem (by first | assumption | omega); exact rfl; exact rfl; exact rfl)
 | ((with_reducible apply r_field_e); exact rfl; exact rfl)
 | (((with_reducible apply aw_cond); exact rfl) <;> intro hg <;> (first | (exact absurd hg (by decide)) | ((try simp only [decide_eq_true_eq, decide_eq_false_iff_not, Bool.not_eq_true', Bool.not_eq_false', Bool.not_true, Bool.not_false, Bool.not_not, Int.not_lt, Int.not_le, Nat.not_lt, Nat.not_le, gt_iff_lt, ge_iff_le, List.cons.injEq, and_true] at hg); first | (exact absurd trivial hg) | (exfalso; omega) | (have hT : True := hg; clear hT hg) | skip)))
 | (refine aw_drawq ?_ ?_; (kernel_rfl))
 | ((with_reducible apply ds_nil))
 )
    rw [hch, chain_stop (Or.inl (by omega)), List.append_nil]
    exact ret2 (.cons (.tmp rfl (cl_vec rfl (by rw [flat_len EncL.len, hk]))) (.cons (.tmp rfl cl_c) (.cons (.tmp rfl cl_c) .nil)))
end Go.Proofs.YtkhljpbkebnnmaaGreatDoor.Cu
/- Walks of the reference of cutting: after, from. -/
namespace Go.Proofs.YtkhljpbkebnnmaaGreatDoor.Cu
set_option linter.unusedVariables false
set_option linter.unusedSimpArgs false
open Go.RowKit Go.Proofs.YtkhljpbkebnnmaaGreatDoor.Ev
variable {gl : List (Nat × List CV)}
def fz (c : Ch) : Int := if c.1 < 0 then 0 else c.2.1
def rC (c : Ch) : List CV := [I c.2.2, I c.1, I (fz c)]
instance : EncL rC 3 := ⟨fun _ => rfl, by decide, fun _ => rfl⟩
end Go.Proofs.YtkhljpbkebnnmaaGreatDoor.Cu
/- Walk of the reference of cutting: Best. -/
namespace Go.Proofs.YtkhljpbkebnnmaaGreatDoor.Cu
set_option linter.unusedVariables false
set_option linter.unusedSimpArgs false
open Go.RowKit Go.Proofs.YtkhljpbkebnnmaaGreatDoor.Ev
variable {gl : List (Nat × List CV)}
structure KnE (l : Line) (p : Int) (es : List Ch) : Prop where
  en : es.length = l.len.toNat + 1
  e : ∀ i (h : i < es.length), p < i → es[i] = TT l i
theorem KnE.ve {l : Line} {p : Int} {es : List Ch} (h : KnE l p es) (x : Int) (h1 : p < x) (h0 : 0 ≤ x) (h2 : x ≤ l.len) : VE es x = TV l x := by
  have hx : x.toNat < es.length := by have := h.en; omega
  rw [← VE_int h0 hx, h.e _ hx (by omega), Int.toNat_of_nonneg h0]; rfl
theorem chooseS_congr {l : Line} (v : Valid l) {V V' : Int → Int} {e : Int} (he : 0 ≤ e) (h : ∀ x, e < x → x ≤ l.len → V x = V' x) : chooseS l V e = chooseS l V' e := posS_congr v he h _
end Go.Proofs.YtkhljpbkebnnmaaGreatDoor.Cu
/- Walk of the reference of cutting: Uniform. -/
namespace Go.Proofs.YtkhljpbkebnnmaaGreatDoor.Cu
set_option linter.unusedVariables false
set_option linter.unusedSimpArgs false
open Go.RowKit Go.Proofs.YtkhljpbkebnnmaaGreatDoor.Ev
variable {gl : List (Nat × List CV)}
abbrev nil7 : List AV := [A 0, A 0, A 0, .c (.v (.slice none 0 0)), .c (.v (.slice none 0 0)), .c (.v (.slice none 0 0)), .c (.v (.slice none 0 0))]
end Go.Proofs.YtkhljpbkebnnmaaGreatDoor.Cu
/- Walks of the laws on cutting: few, short, uniform, awake. -/
namespace Go.Proofs.YtkhljpbkebnnmaaGreatDoor.Cu
set_option linter.unusedVariables false
set_option linter.unusedSimpArgs false
open Go.RowKit Go.Proofs.YtkhljpbkebnnmaaGreatDoor.Ev
variable {gl : List (Nat × List CV)}
structure Plain where
  len : Int
  kerf : Int
  pitch : Int
  sizes : List Int
  gains : List Int
  chip : Int
  dust : Int
def plainL (x : Plain) : List CV := [I x.len, I x.kerf, I x.pitch, LI x.sizes, LI x.gains, I x.chip, I x.dust]
theorem TT_table {l : Line} (v : Valid l) (W : Int → Int) (T : Int → Ch) (h : ∀ k : Nat, k ≤ l.len.toNat → chooseS l W k = T k ∧ (T k).2.2 = W k) : ∀ (n k : Nat), n + k = l.len.toNat → TT l k = T k := by
  have hl := v.len
  intro n
  induction n using Nat.strongRecOn with
  | ind n ih =>
    intro k hk
    rw [TT_eq v (by omega) (by omega)]
    have : chooseS l (TV l) k = chooseS l W k := chooseS_congr v (by omega) (fun x hx hx2 => by
      have e : ((x.toNat : Nat) : Int) = x := by omega
      have h1 := ih (l.len.toNat - x.toNat) (by omega) x.toNat (by omega)
      have h2 := (h x.toNat (by omega)).2
      rw [e] at h1 h2
      unfold TV
      rw [h1, h2])
    rw [this, (h k (by omega)).1]
end Go.Proofs.YtkhljpbkebnnmaaGreatDoor.Cu
