/- Walk of the reference of cutting: Best. -/
import Derived.Test.YtjofnmklkndhoaaDoorCutM
namespace Go.Proofs.YtjofnmklkndhoaaDoor.Cu
set_option linter.unusedVariables false
set_option linter.unusedSimpArgs false
open Go.RowKit Go.Proofs.YtjofnmklkndhoaaDoor.Ev
variable {gl : List (Nat × List CV)}

/-- The table is known behind p. -/
structure KnE (l : Line) (p : Int) (es : List Ch) : Prop where
  en : es.length = l.len.toNat + 1
  e : ∀ i (h : i < es.length), p < i → es[i] = TT l i
theorem KnE.ve {l : Line} {p : Int} {es : List Ch} (h : KnE l p es) (x : Int) (h1 : p < x) (h0 : 0 ≤ x) (h2 : x ≤ l.len) : VE es x = TV l x := by
  have hx : x.toNat < es.length := by have := h.en; omega
  rw [← VE_int h0 hx, h.e _ hx (by omega), Int.toNat_of_nonneg h0]; rfl
theorem chooseS_congr {l : Line} (v : Valid l) {V V' : Int → Int} {e : Int} (he : 0 ≤ e) (h : ∀ x, e < x → x ≤ l.len → V x = V' x) : chooseS l V e = chooseS l V' e := posS_congr v he h _
set_option maxRecDepth 100000 in
set_option maxHeartbeats 16000000 in
theorem rbest_con (l : Line) : Con Tryd.prog gl 22 [lineC l] (bestC (bestS l)) := by
  refine con_of Tryd.func22 rfl (by kernel_rfl) rfl ?_
  simp only [Tryd.ntmps22, Tryd.results22, argEnv, ofC, of1, List.map, lineC, lineL]
  repeat' (first
    | ((with_reducible apply r_call); exact rfl; exact rfl; exact rcheck_con l; exact rfl; exact rfl)
    | ((with_reducible apply aw_seq))
    | ((with_reducible apply aw_region))
    | ((with_reducible apply thn_normal))
    | ((with_reducible apply thn_ret))
    | ((with_reducible apply aw_skip))
    | ((with_reducible apply aw_ret))
    | ((with_reducible apply ao_nil))
    | ((with_reducible apply r_move); exact rfl; exact rfl)
    | ((with_reducible apply r_assign); exact rfl; exact rfl)
    | ((with_reducible apply r_field_p); exact rfl; exact rfl)
    | ((with_reducible apply r_load_p); exact rfl; exact rfl; exact rfl; exact rfl)
    | ((with_reducible apply r_load_pa); exact rfl; exact rfl; exact rfl; exact rfl; exact rfl)
    | ((with_reducible apply r_neq); exact rfl; exact rfl; exact rfl)
    | ((with_reducible apply r_box_a); exact rfl; exact rfl)
    | (((with_reducible apply aw_cond); exact rfl) <;> intro hg <;> (first | (exact absurd hg (by decide)) | ((try simp only [decide_eq_true_eq, decide_eq_false_iff_not, Bool.not_eq_true', Bool.not_eq_false', Bool.not_true, Bool.not_false, Bool.not_not, Int.not_lt, Int.not_le, Nat.not_lt, Nat.not_le, gt_iff_lt, ge_iff_le, List.cons.injEq, and_true] at hg); first | (exact absurd trivial hg) | (exfalso; omega) | (have hT : True := hg; clear hT hg) | skip)))
    | (refine aw_drawq ?_ ?_; (kernel_rfl))
    )
  · rw [best_err hg]
    exact ret2 (.cons (.tmp rfl cl_none) (.cons (.tmp rfl cl_c) (.cons (.tmp rfl cl_c) .nil)))
  have v := valid_of hg
  have hl := v.len
  have hlk := v.kerf
  have hld := v.dust
  have hlc := v.chip
  have hlt := tabS_len l
  have h0 : TV l 0 = ((tabS l)[(0 : Int).toNat]'(by rw [hlt]; omega)).2.2 := by rw [tabS_get]; rfl
  rw [best_ok hg, h0]
  repeat' (first
    | ((with_reducible apply r_call); exact rfl; exact rfl; (first | exact prefix_con l.chip v.chips (by omega) | exact prefix_con l.dust v.dusts (by omega)); exact rfl; exact rfl)
    | ((with_reducible apply r_make (enc := rC) (0, 0, 0) (l.len.toNat + 1)); exact inferInstance; exact rfl; exact rfl; exact rfl; (exact (by omega)); (exact (by omega)); omega; omega; exact rfl)
    | ((with_reducible apply aw_seq))
    | ((with_reducible apply aw_region))
    | ((with_reducible apply aw_block))
    | ((with_reducible apply thn_normal))
    | ((with_reducible apply ao_nil))
    | ((with_reducible apply r_assign); exact rfl; exact rfl)
    | ((with_reducible apply r_field_p); exact rfl; exact rfl)
    | ((with_reducible apply r_load_p); exact rfl; exact rfl; exact rfl; exact rfl)
    | ((with_reducible apply r_add); exact rfl; exact rfl; exact (by first | assumption | (unfold fits; omega)); exact rfl)
    | ((with_reducible apply ds_nil))
    )
  refine aw_loopG (G := Int × List Ch) (fun ((p, es) : Int × List Ch) => -1 ≤ p ∧ p ≤ l.len ∧ KnE l p es) (fun ((p, es) : Int × List Ch) => (p + 1).toNat) (fun ((p, es) : Int × List Ch) => [(1, .ptr 0 0), (6, .c (LI (sumsS l.chip))), (7, .c (LI (sumsS l.dust))), (8, .vec 1 (l.len.toNat + 1)), (9, A p)]) (fun ((p, es) : Int × List Ch) => [(0, some (lineB l)), (1, some (.vec 72 3 (es.flatMap rC)))]) 2 (l.len, List.replicate (l.len.toNat + 1) (0, 0, 0)) ?_ (by refine weak_mk rfl ?_ ?_ <;> repeat (first | exact envW_nil | exact heapW_nil | refine envW_cons rfl rfl ?_ | refine heapW_cons rfl rfl rfl ?_)) rfl ?_
  · exact ⟨by show -1 ≤ l.len; omega, Int.le_refl _, ⟨by simp, fun i h hp => by simp at h; omega⟩⟩
  rintro ⟨p, es⟩ hI
  try dsimp only at hI
  try dsimp only
  obtain ⟨hp0, hp1, kn⟩ := hI
  have hen := kn.en
  by_cases hpl : 0 ≤ p
  · have hV : VB l (VE es) p := fun x hx hx2 => by
      rw [kn.ve x hx (by omega) hx2]; exact TV_bd v hpl x hx hx2
    have hfc := from_con (gl := gl) l v p hpl hp1 es (by omega) hV
    have htt : chooseS l (VE es) p = TT l p := by
      rw [TT_eq v hpl hp1]; exact chooseS_congr v hpl (fun x hx hx2 => kn.ve x hx (by omega) hx2)
    rw [htt] at hfc
    repeat' (first
      | ((with_reducible apply r_callv); exact hfc; exact rfl; exact cl_cons (clF_cl rfl) (cl_cons cl_c (cl_cons cl_c (cl_cons cl_c (cl_cons (cl_vec rfl (by rw [flat_len EncL.len, hen])) cl_nil)))); exact rfl; exact rfl)
      | ((with_reducible apply (r_store_v (enc := rC) (k := p.toNat) (l := es) (TT l p))); exact rfl; exact rfl; exact inferInstance; exact hen; exact (by omega); exact rfl; exact rfl; exact rfl; exact rfl)
      | ((with_reducible apply aw_seq))
      | ((with_reducible apply aw_region))
      | ((with_reducible apply aw_block))
      | ((with_reducible apply thn_normal))
      | ((with_reducible apply inb_normal))
      | ((with_reducible apply aw_skip))
      | ((with_reducible apply ao_nil))
      | ((with_reducible apply r_move); exact rfl; exact rfl)
      | ((with_reducible apply r_assign); exact rfl; exact rfl)
      | ((with_reducible apply r_load_pa); exact rfl; exact rfl; exact rfl; exact rfl; exact rfl)
      | ((with_reducible apply r_geq); exact rfl; exact rfl; exact rfl)
      | ((with_reducible apply r_sub); exact rfl; exact rfl; exact (by first | assumption | (unfold fits; omega)); exact rfl)
      | ((with_reducible apply r_index_vf); exact rfl; exact rfl; exact inferInstance; (first | exact rfl | assumption | omega); exact rfl; exact (Int.toNat_of_nonneg (by omega)).symm; (first | assumption | omega); exact rfl)
      | (((with_reducible apply aw_cond); exact rfl) <;> intro hg <;> (first | (exact absurd hg (by decide)) | ((try simp only [decide_eq_true_eq, decide_eq_false_iff_not, Bool.not_eq_true', Bool.not_eq_false', Bool.not_true, Bool.not_false, Bool.not_not, Int.not_lt, Int.not_le, Nat.not_lt, Nat.not_le, gt_iff_lt, ge_iff_le, List.cons.injEq, and_true] at hg); first | (exact absurd trivial hg) | (exfalso; omega) | (have hT : True := hg; clear hT hg) | skip)))
      )
    refine ⟨(p - 1, es.set p.toNat (TT l p)), ?_, ?_, by refine weak_mk rfl ?_ ?_ <;> repeat (first | exact envW_nil | exact heapW_nil | refine envW_cons rfl rfl ?_ | refine heapW_cons rfl rfl rfl ?_)⟩
    · show (p - 1 + 1).toNat < (p + 1).toNat; omega
    · refine ⟨by show -1 ≤ p - 1; omega, by show p - 1 ≤ _; omega, ⟨by simp [hen], fun i h hi => ?_⟩⟩
      by_cases e : i = p.toNat
      · subst e; rw [List.getElem_set_self, Int.toNat_of_nonneg hpl]
      · rw [List.getElem_set_ne (by omega)]
        exact kn.e i (by simpa using h) (by have : p - 1 < (i : Int) := hi; omega)
  · have hes : es = tabS l := tabS_of kn.en (fun i hi => kn.e i hi (by omega))
    subst hes
    repeat' (first
      | ((with_reducible apply aw_seq))
      | ((with_reducible apply aw_region))
      | ((with_reducible apply aw_block))
      | ((with_reducible apply thn_normal))
      | ((with_reducible apply thn_exit))
      | ((with_reducible apply inb_exit))
      | ((with_reducible apply aw_exit))
      | ((with_reducible apply ao_nil))
      | ((with_reducible apply r_move); exact rfl; exact rfl)
      | ((with_reducible apply r_assign); exact rfl; exact rfl)
      | ((with_reducible apply r_geq); exact rfl; exact rfl; exact rfl)
      | (((with_reducible apply aw_cond); exact rfl) <;> intro hg <;> (first | (exact absurd hg (by decide)) | ((try simp only [decide_eq_true_eq, decide_eq_false_iff_not, Bool.not_eq_true', Bool.not_eq_false', Bool.not_true, Bool.not_false, Bool.not_not, Int.not_lt, Int.not_le, Nat.not_lt, Nat.not_le, gt_iff_lt, ge_iff_le, List.cons.injEq, and_true] at hg); first | (exact absurd trivial hg) | (exfalso; omega) | (have hT : True := hg; clear hT hg) | skip)))
      )
    refine aw_nilvec 10 52 2 rfl rfl ?_
    refine aw_loopG (G := Nat × Int × Nat × List Piece) (fun ((n, ed, k, out) : Nat × Int × Nat × List Piece) => out.length = k ∧ 0 ≤ ed ∧ ed ≤ l.len ∧ l.len - ed + 1 ≤ n ∧ out.length + n ≤ l.len.toNat + 2 ∧ chainS l (l.len.toNat + 2) 0 = out ++ chainS l n ed) (fun ((n, ed, k, out) : Nat × Int × Nat × List Piece) => n) (fun ((n, ed, k, out) : Nat × Int × Nat × List Piece) => [(1, .ptr 0 0), (8, .vec 1 (l.len.toNat + 1)), (10, .vec 2 k), (11, A ed)]) (fun ((n, ed, k, out) : Nat × Int × Nat × List Piece) => [(0, some (lineB l)), (1, some (.vec 72 3 ((tabS l).flatMap rC))), (2, some (.vec 52 2 (out.flatMap pcC)))]) 3 (l.len.toNat + 2, 0, 0, []) ?_ (by refine weak_mk rfl ?_ ?_ <;> repeat (first | exact envW_nil | exact heapW_nil | refine envW_cons rfl rfl ?_ | refine heapW_cons rfl rfl rfl ?_)) rfl ?_
    · exact ⟨rfl, by decide, hl.1, by omega, by simp, by simp⟩
    rintro ⟨n, ed, k, out⟩ hI
    try dsimp only at hI
    try dsimp only
    obtain ⟨hk, he1, he2, hn, ho, hch⟩ := hI
    have htg := tabS_get l ed.toNat (by omega)
    rw [Int.toNat_of_nonneg he1] at htg
    have hs := TT_sgn v he1 he2
    rw [← htg] at hs
    rcases hs with hs | ⟨s1, s2, s3, s4⟩
    · skip
      repeat' (first
        | ((with_reducible apply aw_seq))
        | ((with_reducible apply aw_region))
        | ((with_reducible apply thn_normal))
        | ((with_reducible apply thn_exit))
        | ((with_reducible apply inb_exit))
        | ((with_reducible apply aw_exit))
        | ((with_reducible apply aw_ret))
        | ((with_reducible apply ao_nil))
        | ((with_reducible apply r_move); exact rfl; exact rfl)
        | ((with_reducible apply r_assign); exact rfl; exact rfl)
        | ((with_reducible apply r_geq); exact rfl; exact rfl; exact rfl)
        | ((with_reducible apply r_index_vf); exact rfl; exact rfl; exact inferInstance; (first | exact rfl | assumption | omega); exact rfl; exact (Int.toNat_of_nonneg (by omega)).symm; (first | assumption | omega); exact rfl)
        | ((with_reducible apply r_load_vf0); exact rfl; exact rfl; exact inferInstance; (first | exact rfl | assumption | omega); exact List.getElem?_eq_getElem (by first | assumption | omega); exact rfl; exact rfl)
        | ((with_reducible apply r_load_vf); exact rfl; exact rfl; exact inferInstance; (first | exact rfl | assumption | omega); exact List.getElem?_eq_getElem (by first | assumption | omega); exact rfl; exact rfl; exact rfl)
        | ((with_reducible apply r_field_vf); exact rfl; exact rfl; exact inferInstance; (first | exact rfl | assumption | omega); exact rfl)
        | (((with_reducible apply aw_cond); exact rfl) <;> intro hg <;> (first | (exact absurd hg (by decide)) | ((try simp only [decide_eq_true_eq, decide_eq_false_iff_not, Bool.not_eq_true', Bool.not_eq_false', Bool.not_true, Bool.not_false, Bool.not_not, Int.not_lt, Int.not_le, Nat.not_lt, Nat.not_le, gt_iff_lt, ge_iff_le, List.cons.injEq, and_true] at hg); first | (exact absurd trivial hg) | (exfalso; omega) | (have hT : True := hg; clear hT hg) | skip)))
        | (refine aw_drawq ?_ ?_; (kernel_rfl))
        | ((with_reducible apply ds_nil))
        )
      rw [hch, chain_stop (Or.inr (by rw [← htg]; omega)), List.append_nil]
      exact ret2 (.cons (.tmp rfl (cl_vec rfl (by rw [flat_len EncL.len, hk]))) (.cons (.tmp rfl cl_c) (.cons (.tmp rfl cl_c) .nil)))
    · have s5 := OkP_sz s1 s4
      obtain ⟨m, rfl⟩ : ∃ m, n = m + 1 := ⟨n - 1, by omega⟩
      have hgo := chain_go (l := l) (n := m) he1 (by rw [← htg]; exact s1)
      rw [← htg] at hgo
      have hk2 : (tabS l)[ed.toNat].1.toNat < l.sizes.length := by omega
      have hsz : szOf l (tabS l)[ed.toNat].1 = l.sizes[(tabS l)[ed.toNat].1.toNat] := by
        conv => lhs; rw [show (tabS l)[ed.toNat].1 = (((tabS l)[ed.toNat].1.toNat : Nat) : Int) by omega]
        exact szOf_nat hk2
      have hfz : fz (tabS l)[ed.toNat] = (tabS l)[ed.toNat].2.1 := by unfold fz; rw [if_neg (by omega)]
      rw [hsz] at s5 hgo
      rw [← hfz] at s5 hgo s3
      have hz := v.size _ hk2
      have hb := beh_cases v (q := fz (tabS l)[ed.toNat] + l.sizes[(tabS l)[ed.toNat].1.toNat]) (by omega) s5
      repeat' (first
        | ((with_reducible apply (r_push (enc := pcC) (x0 := ((tabS l)[ed.toNat].1, fz (tabS l)[ed.toNat])))); exact rfl; exact rfl; exact inferInstance; exact hk; exact rfl; exact rfl; exact rfl; exact (by omega); exact (by omega); exact rfl)
        | ((with_reducible apply aw_seq))
        | ((with_reducible apply aw_region))
        | ((with_reducible apply aw_block))
        | ((with_reducible apply thn_normal))
        | ((with_reducible apply thn_exit))
        | ((with_reducible apply inb_normal))
        | ((with_reducible apply inb_exit))
        | ((with_reducible apply inb_other); exact rfl)
        | ((with_reducible apply aw_skip))
        | ((with_reducible apply aw_exit))
        | ((with_reducible apply aw_ret))
        | ((with_reducible apply ao_nil))
        | ((with_reducible apply r_move); exact rfl; exact rfl)
        | ((with_reducible apply r_assign); exact rfl; exact rfl)
        | ((with_reducible apply r_field_p); exact rfl; exact rfl)
        | ((with_reducible apply r_load_p); exact rfl; exact rfl; exact rfl; exact rfl)
        | ((with_reducible apply r_load_pa); exact rfl; exact rfl; exact rfl; exact rfl; exact rfl)
        | ((with_reducible apply r_geq); exact rfl; exact rfl; exact rfl)
        | ((with_reducible apply r_eql); exact rfl; exact rfl; exact rfl)
        | ((with_reducible apply r_add); exact rfl; exact rfl; exact (by first | assumption | (unfold fits; omega)); exact rfl)
        | ((with_reducible apply r_min); exact rfl; exact rfl; exact rfl)
        | ((with_reducible apply r_index_f); exact rfl; exact inferInstance; exact rfl; exact (Int.toNat_of_nonneg (by omega)).symm; (first | assumption | omega); exact rfl)
        | ((with_reducible apply r_load_f0); exact rfl; exact inferInstance; exact List.getElem?_eq_getElem (by first | assumption | omega); exact rfl; exact rfl)
        | ((with_reducible apply r_index_vf); exact rfl; exact rfl; exact inferInstance; (first | exact rfl | assumption | omega); exact rfl; exact (Int.toNat_of_nonneg (by omega)).symm; (first | assumption | omega); exact rfl)
        | ((with_reducible apply r_load_vf0); exact rfl; exact rfl; exact inferInstance; (first | exact rfl | assumption | omega); exact List.getElem?_eq_getElem (by first | assumption | omega); exact rfl; exact rfl)
        | ((with_reducible apply r_load_vf); exact rfl; exact rfl; exact inferInstance; (first | exact rfl | assumption | omega); exact List.getElem?_eq_getElem (by first | assumption | omega); exact rfl; exact rfl; exact rfl)
        | ((with_reducible apply r_load_vfa); exact rfl; exact rfl; exact inferInstance; (first | exact rfl | assumption | omega); exact List.getElem?_eq_getElem (by first | assumption | omega); exact rfl; exact rfl; exact rfl)
        | ((with_reducible apply r_field_vf); exact rfl; exact rfl; exact inferInstance; (first | exact rfl | assumption | omega); exact rfl)
        | ((with_reducible apply r_store_pa); exact rfl; exact rfl; exact rfl; exact rfl; exact rfl; exact rfl)
        | ((with_reducible apply r_alloc); exact rfl)
        | (((with_reducible apply aw_cond); exact rfl) <;> intro hg <;> (first | (exact absurd hg (by decide)) | ((try simp only [decide_eq_true_eq, decide_eq_false_iff_not, Bool.not_eq_true', Bool.not_eq_false', Bool.not_true, Bool.not_false, Bool.not_not, Int.not_lt, Int.not_le, Nat.not_lt, Nat.not_le, gt_iff_lt, ge_iff_le, List.cons.injEq, and_true] at hg); first | (exact absurd trivial hg) | (exfalso; omega) | (have hT : True := hg; clear hT hg) | skip)))
        | (refine aw_drawq ?_ ?_; (kernel_rfl))
        | ((with_reducible apply ds_nil))
        | ((with_reducible apply r_lit); exact rfl; exact rfl; exact rfl; exact rfl; exact rfl; exact rfl; exact rfl)
        )
      · rw [hch, hgo, chain_stop (Or.inl (by omega))]
        exact ret2 (.cons (.tmp rfl (cl_vec rfl (by rw [flat_len EncL.len]; simp [hk]))) (.cons (.tmp rfl cl_c) (.cons (.tmp rfl cl_c) .nil)))
      · skip
        refine ⟨(m, min (fz (tabS l)[ed.toNat] + l.sizes[(tabS l)[ed.toNat].1.toNat] + l.kerf) l.len, k + 1, out ++ [((tabS l)[ed.toNat].1, fz (tabS l)[ed.toNat])]), ?_, ?_, by refine weak_mk rfl ?_ ?_ <;> repeat (first | exact envW_nil | exact heapW_nil | refine envW_cons rfl rfl ?_ | refine heapW_cons rfl rfl rfl ?_)⟩
        · show m < m + 1; omega
        · dsimp only
          refine ⟨by simp [hk], by omega, by omega, by omega, by simp; omega, ?_⟩
          rw [hch, hgo, List.append_assoc]
          rcases hb with hb | hb
          · omega
          · exact congrArg (fun z => out ++ (((tabS l)[ed.toNat].1, fz (tabS l)[ed.toNat]) :: chainS l m z)) hb.2.2.2
end Go.Proofs.YtjofnmklkndhoaaDoor.Cu
