/- CutJ: texts laid together. -/
import Derived.Test.YtkhljpbkebnnmaaDoorMrgC1
/- Walks of cutting: the best piece that begins at a position. -/
namespace Go.Proofs.YtkhljpbkebnnmaaDoor.Cu
set_option linter.unusedVariables false
set_option linter.unusedSimpArgs false
open Go.RowKit Go.Proofs.YtkhljpbkebnnmaaDoor.Ev

/-- The package's variable. -/
abbrev G : List (Nat × List CV) := [(0, [I (-1), I (-1)])]
def chC (c : Ch) : List CV := [I c.1, I c.2.1, I c.2.2]
instance : EncL chC 3 := ⟨fun _ => rfl, by decide, fun _ => rfl⟩
abbrev LC (l : List Ch) : CV := .lst 3 (l.flatMap chC)
def VE (es : List Ch) (x : Int) : Int := (es.getD x.toNat (0, 0, 0)).2.2
theorem VE_get {es : List Ch} {k : Nat} (h : k < es.length) : es[k].2.2 = VE es k := by
  unfold VE; rw [Int.toNat_natCast, List.getD_eq_getElem?_getD, List.getElem?_eq_getElem h]; rfl
theorem VE_int {es : List Ch} {k : Int} (h0 : 0 ≤ k) (h : k.toNat < es.length) : es[k.toNat].2.2 = VE es k := by
  rw [VE_get h, Int.toNat_of_nonneg h0]
theorem dp_get {l : Line} {k : Int} (h : k.toNat < (sumsS l.dust).length) : (sumsS l.dust)[k.toNat] = dp l k := sumsS_get _ _ _
theorem cp_get {l : Line} {k : Int} (h : k.toNat < (sumsS l.chip).length) : (sumsS l.chip)[k.toNat] = cp l k := sumsS_get _ _ _
theorem gOf_get {l : Line} {k : Nat} {p : Int} (h : k < l.gain.length) (h2 : p.toNat < l.gain[k].length) : gOf l k p = l.gain[k][p.toNat] := by
  unfold gOf
  rw [Int.toNat_natCast, List.getD_eq_getElem?_getD, List.getD_eq_getElem?_getD, List.getElem?_eq_getElem h]
  simp only [Option.getD_some]
  rw [List.getElem?_eq_getElem h2]; rfl
theorem dp_le {l : Line} (v : Valid l) {k : Int} (h1 : k ≤ l.len) : -1125899906842624 * 2000 ≤ dp l k ∧ dp l k ≤ 1125899906842624 * 2000 := by
  have := v.len; have := v.dust
  exact pre_le v.dusts (by omega) (by omega)
theorem cp_le {l : Line} (v : Valid l) {k : Int} (h1 : k ≤ l.len) : -1125899906842624 * 2000 ≤ cp l k ∧ cp l k ≤ 1125899906842624 * 2000 := by
  have := v.len; have := v.chip
  exact pre_le v.chips (by omega) (by omega)
theorem st_no {l : Line} {V : Int → Int} {p : Int} {k : Nat} (h : ¬ OkP l k p) : stS l V p (k + 1) = stS l V p k := by
  show (if _ then _ else _) = _
  rw [if_neg (fun hh => h hh.1)]
theorem st_yes {l : Line} {V : Int → Int} {p c : Int} {k : Nat} (h : OkP l k p) (hc : candV l V k p = c) (hb : (stS l V p k).1 < 0 ∨ (stS l V p k).2.2 < c) : stS l V p (k + 1) = ((k : Int), p, c) := by
  show (if _ then _ else _) = _
  rw [hc, if_pos ⟨h, hb⟩]
theorem st_keep {l : Line} {V : Int → Int} {p c : Int} {k : Nat} (hc : candV l V k p = c) (hb : ¬ ((stS l V p k).1 < 0 ∨ (stS l V p k).2.2 < c)) : stS l V p (k + 1) = stS l V p k := by
  show (if _ then _ else _) = _
  rw [hc, if_neg (fun hh => hb hh.2)]
set_option maxRecDepth 100000 in
set_option maxHeartbeats 8000000 in
theorem start_con (l : Line) (v : Valid l) (p : Int) (hp0 : 0 ≤ p) (hp1 : p ≤ l.len) (es : List Ch) (hes : (es.length : Int) = l.len + 1) (hV : VB l (VE es) p) : Con Tryd.prog G 68 [lineC l, I p, LI (sumsS l.dust), LC es] (.agg [I (stS l (VE es) p l.sizes.length).1, I (stS l (VE es) p l.sizes.length).2.1, I (stS l (VE es) p l.sizes.length).2.2]) := by
  have hl := v.len
  have hlk := v.kerf
  have hld := v.dust
  have hsl := sumsS_len l.dust
  have hss := v.sizes
  refine con_of Tryd.func68 rfl (by kernel_rfl) rfl ?_
  simp only [Tryd.ntmps68, Tryd.results68, argEnv, ofC, of1, List.map, lineC, lineL]
  repeat' (first
 | ((with_reducible apply (r_load_ea (zs := [I (-1), I (-1)]) (ys := []))); exact rfl; exact rfl; exact rfl; exact rfl)
 | ((with_reducible apply aw_seq))
 | ((with_reducible apply aw_region))
 | ((with_reducible apply aw_block))
 | ((with_reducible apply thn_normal))
 | ((with_reducible apply ao_nil))
 | ((with_reducible apply r_move); exact rfl; exact rfl)
 | ((with_reducible apply r_field_p); exact rfl; exact rfl)
 | ((with_reducible apply r_load_p); exact rfl; exact rfl; exact rfl; exact rfl)
 | ((with_reducible apply r_box_a); exact rfl; exact rfl)
 | ((with_reducible apply r_len_f); exact rfl; exact inferInstance; exact rfl)
 | ((with_reducible apply r_store_pa); exact rfl; exact rfl; exact rfl; exact rfl; exact rfl; exact rfl)
 | ((with_reducible apply r_build); exact rfl; exact rfl; exact rfl)
 | ((with_reducible apply r_alloc); exact rfl)
    )
  refine aw_loopG (G := Nat × Ch) (fun ((k, b) : Nat × Ch) => k ≤ l.sizes.length ∧ b = stS l (VE es) p k) (fun ((k, b) : Nat × Ch) => l.sizes.length - k) (fun ((k, b) : Nat × Ch) => [(1, A p), (2, .c (LI (sumsS l.dust))), (3, .c (LC es)), (4, .ptr 0 0), (8, .ptr 1 0), (9, .ptr 2 0), (18, .c (LI l.sizes)), (19, A l.sizes.length), (20, A k)]) (fun ((k, b) : Nat × Ch) => [(0, some (lineB l)), (1, some (.cells 104 [A 0, A 0, A 0])), (2, some (.cells 104 [A b.1, A b.2.1, A b.2.2]))]) 3 (0, (-1, -1, 0)) ?_ (by refine weak_mk rfl ?_ ?_ <;> repeat (first | exact envW_nil | exact heapW_nil | refine envW_cons rfl rfl ?_ | refine heapW_cons rfl rfl rfl ?_)) rfl ?_
  · exact ⟨Nat.zero_le _, rfl⟩
  rintro ⟨k, b⟩ hI
  try dsimp only at hI
  try dsimp only
  obtain ⟨hk, hb⟩ := hI
  by_cases hkl : k < l.sizes.length
  · have hsk := v.size k hkl
    have hgk : k < l.gain.length := by have := v.gain; omega
    have hrow := v.row k hgk hkl
    have hsz := szOf_nat hkl
    have hbs := stS_bd v hp0 (Int.le_refl p) hp1 hV (Nat.le_of_lt hkl)
    have hsg := stS_sgn l (VE es) p k
    rw [← hb] at hbs hsg
    have hs2 : (b.1 = -1 ∧ b.2.1 = -1) ∨ 0 ≤ b.1 := by
      rcases hsg with h | h
      · left; rw [h]; exact ⟨rfl, rfl⟩
      · right; exact h.1
    by_cases ho1 : p + l.sizes[k] ≤ l.len
    · have hpl : p.toNat < l.gain[k].length := by omega
      have hgo := gOf_get hgk hpl
      have hgb := v.gains k hgk p.toNat hpl
      by_cases ho2 : 0 ≤ l.gain[k][p.toNat]
      · have hok : OkP l k p := ⟨by rw [hsz]; exact ho1, by rw [hgo]; exact ho2⟩
        have hcb := candV_bd v hp0 (Int.le_refl p) hV hkl hok
        have hcv : candV l (VE es) k p = candV l (VE es) k p := rfl
        conv at hcv => rhs; unfold candV
        rw [hsz, hgo] at hcv
        have hbc := behind_con (gl := G) l (p + l.sizes[k]) (by unfold fits; omega)
        have hbe := beh_cases v (q := p + l.sizes[k]) (by omega) ho1
        generalize behindS l (p + l.sizes[k]) = be at hbc hbe hcv
        rcases hbe with ⟨hq, hbe⟩ | ⟨hq, hb1, hb2, hb3⟩
        · rw [if_neg (by omega)] at hcv
          repeat' (first
 | ((with_reducible apply (r_load_ea (zs := [I (-1), I (-1)]) (ys := []))); exact rfl; exact rfl; exact rfl; exact rfl)
 | ((with_reducible apply r_call); exact rfl; exact rfl; exact hbc; exact rfl; exact rfl)
 | ((with_reducible apply aw_seq))
 | ((with_reducible apply aw_region))
 | ((with_reducible apply aw_block))
 | ((with_reducible apply thn_normal))
 | ((with_reducible apply inb_normal))
 | ((with_reducible apply aw_skip))
 | ((with_reducible apply ao_nil))
 | ((with_reducible apply r_move); exact rfl; exact rfl)
 | ((with_reducible apply r_assign); exact rfl; exact rfl)
 | ((with_reducible apply r_field_p); exact rfl; exact rfl)
 | ((with_reducible apply r_load_p); exact rfl; exact rfl; exact rfl; exact rfl)
 | ((with_reducible apply r_load_pa); exact rfl; exact rfl; exact rfl; exact rfl; exact rfl)
 | ((with_reducible apply r_lss); exact rfl; exact rfl; exact rfl)
 | ((with_reducible apply r_gtr); exact rfl; exact rfl; exact rfl)
 | ((with_reducible apply r_geq); exact rfl; exact rfl; exact rfl)
 | ((with_reducible apply r_add); exact rfl; exact rfl; exact (by first | assumption | (unfold fits; omega)); exact rfl)
 | ((with_reducible apply r_pick_t); exact rfl; exact rfl; exact rfl)
 | ((with_reducible apply r_pick_f); exact rfl; exact rfl; exact rfl)
 | ((with_reducible apply r_index_f); exact rfl; exact inferInstance; exact rfl; exact rfl; (first | assumption | omega); exact rfl)
 | ((with_reducible apply r_index_f); exact rfl; exact inferInstance; exact rfl; exact (Int.toNat_of_nonneg (by omega)).symm; (first | assumption | omega); exact rfl)
 | ((with_reducible apply r_load_f0); exact rfl; exact inferInstance; exact List.getElem?_eq_getElem (by first | assumption | omega); exact rfl; exact rfl)
 | ((with_reducible apply r_store_pa); exact rfl; exact rfl; exact rfl; exact rfl; exact rfl; exact rfl)
 | ((with_reducible apply r_build); exact rfl; exact rfl; exact rfl)
 | ((with_reducible apply r_alloc); exact rfl)
 | (((with_reducible apply r_guard); exact rfl; exact rfl; exact rfl; exact rfl) <;> intro hg <;> (first | (exact absurd hg (by decide)) | ((try simp only [decide_eq_true_eq, decide_eq_false_iff_not, Bool.not_eq_true', Bool.not_eq_false', Bool.not_true, Bool.not_false, Bool.not_not, Int.not_lt, Int.not_le, Nat.not_lt, Nat.not_le, gt_iff_lt, ge_iff_le, List.cons.injEq, and_true] at hg); first | (exact absurd trivial hg) | (exfalso; omega) | (have hT : True := hg; clear hT hg) | skip)))
 | (((with_reducible apply aw_cond); exact rfl) <;> intro hg <;> (first | (exact absurd hg (by decide)) | ((try simp only [decide_eq_true_eq, decide_eq_false_iff_not, Bool.not_eq_true', Bool.not_eq_false', Bool.not_true, Bool.not_false, Bool.not_not, Int.not_lt, Int.not_le, Nat.not_lt, Nat.not_le, gt_iff_lt, ge_iff_le, List.cons.injEq, and_true] at hg); first | (exact absurd trivial hg) | (exfalso; omega) | (have hT : True := hg; clear hT hg) | skip)))
 | ((with_reducible apply r_eqs); exact rfl; exact rfl; exact rfl; exact rfl; exact rfl; exact rfl; exact rfl)
            )
          · skip
            refine ⟨(k + 1, ((k : Int), p, l.gain[k][p.toNat])), ?_, ?_, by refine weak_mk rfl ?_ ?_ <;> repeat (first | exact envW_nil | exact heapW_nil | refine envW_cons rfl rfl ?_ | refine heapW_cons rfl rfl rfl ?_)⟩
            · show _ - (k + 1) < _ - k; omega
            · exact ⟨by show k + 1 ≤ _; omega, (st_yes hok (hcv.trans (by omega)) (by rw [← hb]; omega)).symm⟩
          · skip
            refine ⟨(k + 1, b), ?_, ?_, by refine weak_mk rfl ?_ ?_ <;> repeat (first | exact envW_nil | exact heapW_nil | refine envW_cons rfl rfl ?_ | refine heapW_cons rfl rfl rfl ?_)⟩
            · show _ - (k + 1) < _ - k; omega
            · exact ⟨by show k + 1 ≤ _; omega, by show b = _; rw [st_keep hcv (by rw [← hb]; omega)]; exact hb⟩
          · skip
            refine ⟨(k + 1, ((k : Int), p, l.gain[k][p.toNat])), ?_, ?_, by refine weak_mk rfl ?_ ?_ <;> repeat (first | exact envW_nil | exact heapW_nil | refine envW_cons rfl rfl ?_ | refine heapW_cons rfl rfl rfl ?_)⟩
            · show _ - (k + 1) < _ - k; omega
            · exact ⟨by show k + 1 ≤ _; omega, (st_yes hok (hcv.trans (by omega)) (by rw [← hb]; omega)).symm⟩
        · rw [if_pos (by omega)] at hcv
          have hd1 := dp_get (l := l) (k := be) (by omega)
          have hd2 := dp_get (l := l) (k := p + l.sizes[k]) (by omega)
          have he1 := VE_int (es := es) (k := be) (by omega) (by omega)
          have hd3 := dp_le v (k := be) hb2
          have hd4 := dp_le v (k := p + l.sizes[k]) ho1
          have hd5 := hV be (by omega) hb2
          rw [← hd1, ← hd2, ← he1] at hcv
          rw [← hd1] at hd3
          rw [← hd2] at hd4
          rw [← he1] at hd5
          repeat' (first
 | ((with_reducible apply (r_load_ea (zs := [I (-1), I (-1)]) (ys := []))); exact rfl; exact rfl; exact rfl; exact rfl)
 | ((with_reducible apply r_call); exact rfl; exact rfl; exact hbc; exact rfl; exact rfl)
 | (refine aw_drawt 19 ?_ ?_; (kernel_rfl); (simp only [List.take_succ_cons, List.take_zero, List.drop_succ_cons, List.drop_zero]))
 | ((with_reducible apply aw_seq))
 | ((with_reducible apply aw_region))
 | ((with_reducible apply aw_block))
 | ((with_reducible apply thn_normal))
 | ((with_reducible apply inb_normal))
 | ((with_reducible apply aw_skip))
 | ((with_reducible apply ao_nil))
 | ((with_reducible apply r_move); exact rfl; exact rfl)
 | ((with_reducible apply r_assign); exact rfl; exact rfl)
 | ((with_reducible apply r_field_p); exact rfl; exact rfl)
 | ((with_reducible apply r_load_p); exact rfl; exact rfl; exact rfl; exact rfl)
 | ((with_reducible apply r_load_pa); exact rfl; exact rfl; exact rfl; exact rfl; exact rfl)
 | ((with_reducible apply r_lss); exact rfl; exact rfl; exact rfl)
 | ((with_reducible apply r_gtr); exact rfl; exact rfl; exact rfl)
 | ((with_reducible apply r_geq); exact rfl; exact rfl; exact rfl)
 | ((with_reducible apply r_add); exact rfl; exact rfl; exact (by first | assumption | (unfold fits; omega)); exact rfl)
 | ((with_reducible apply r_sub); exact rfl; exact rfl; exact (by first | assumption | (unfold fits; omega)); exact rfl)
 | ((with_reducible apply r_pick_t); exact rfl; exact rfl; exact rfl)
 | ((with_reducible apply r_pick_f); exact rfl; exact rfl; exact rfl)
 | ((with_reducible apply r_index_f); exact rfl; exact inferInstance; exact rfl; exact rfl; (first | assumption | omega); exact rfl)
 | ((with_reducible apply r_index_f); exact rfl; exact inferInstance; exact rfl; exact (Int.toNat_of_nonneg (by omega)).symm; (first | assumption | omega); exact rfl)
 | ((with_reducible apply r_load_f0); exact rfl; exact inferInstance; exact List.getElem?_eq_getElem (by first | assumption | omega); exact rfl; exact rfl)
 | ((with_reducible apply r_load_f); exact rfl; exact inferInstance; exact List.getElem?_eq_getElem (by first | assumption | omega); exact rfl; exact rfl; exact rfl)
 | ((with_reducible apply r_field_e); exact rfl; exact rfl)
 | ((with_reducible apply r_store_p); exact rfl; exact rfl; exact rfl; exact rfl; exact rfl; exact rfl)
 | ((with_reducible apply r_store_pa); exact rfl; exact rfl; exact rfl; exact rfl; exact rfl; exact rfl)
 | ((with_reducible apply r_build); exact rfl; exact rfl; exact rfl)
 | ((with_reducible apply r_alloc); exact rfl)
 | (((with_reducible apply r_guard); exact rfl; exact rfl; exact rfl; exact rfl) <;> intro hg <;> (first | (exact absurd hg (by decide)) | ((try simp only [decide_eq_true_eq, decide_eq_false_iff_not, Bool.not_eq_true', Bool.not_eq_false', Bool.not_true, Bool.not_false, Bool.not_not, Int.not_lt, Int.not_le, Nat.not_lt, Nat.not_le, gt_iff_lt, ge_iff_le, List.cons.injEq, and_true] at hg); first | (exact absurd trivial hg) | (exfalso; omega) | (have hT : True := hg; clear hT hg) | skip)))
 | (((with_reducible apply aw_cond); exact rfl) <;> intro hg <;> (first | (exact absurd hg (by decide)) | ((try simp only [decide_eq_true_eq, decide_eq_false_iff_not, Bool.not_eq_true', Bool.not_eq_false', Bool.not_true, Bool.not_false, Bool.not_not, Int.not_lt, Int.not_le, Nat.not_lt, Nat.not_le, gt_iff_lt, ge_iff_le, List.cons.injEq, and_true] at hg); first | (exact absurd trivial hg) | (exfalso; omega) | (have hT : True := hg; clear hT hg) | skip)))
 | ((with_reducible apply ds_nil))
 | ((with_reducible apply r_eqs); exact rfl; exact rfl; exact rfl; exact rfl; exact rfl; exact rfl; exact rfl)
            )
          · skip
            refine ⟨(k + 1, ((k : Int), p, l.gain[k][p.toNat] + ((sumsS l.dust)[be.toNat]'(by omega) - (sumsS l.dust)[(p + l.sizes[k]).toNat]'(by omega) + (es[be.toNat]'(by omega)).2.2))), ?_, ?_, by refine weak_mk rfl ?_ ?_ <;> repeat (first | exact envW_nil | exact heapW_nil | refine envW_cons rfl rfl ?_ | refine heapW_cons rfl rfl rfl ?_)⟩
            · show _ - (k + 1) < _ - k; omega
            · exact ⟨by show k + 1 ≤ _; omega, (st_yes hok (hcv.trans (by omega)) (by rw [← hb]; omega)).symm⟩
          · skip
            refine ⟨(k + 1, b), ?_, ?_, by refine weak_mk rfl ?_ ?_ <;> repeat (first | exact envW_nil | exact heapW_nil | refine envW_cons rfl rfl ?_ | refine heapW_cons rfl rfl rfl ?_)⟩
            · show _ - (k + 1) < _ - k; omega
            · exact ⟨by show k + 1 ≤ _; omega, by show b = _; rw [st_keep hcv (by rw [← hb]; omega)]; exact hb⟩
          · skip
            refine ⟨(k + 1, ((k : Int), p, l.gain[k][p.toNat] + ((sumsS l.dust)[be.toNat]'(by omega) - (sumsS l.dust)[(p + l.sizes[k]).toNat]'(by omega) + (es[be.toNat]'(by omega)).2.2))), ?_, ?_, by refine weak_mk rfl ?_ ?_ <;> repeat (first | exact envW_nil | exact heapW_nil | refine envW_cons rfl rfl ?_ | refine heapW_cons rfl rfl rfl ?_)⟩
            · show _ - (k + 1) < _ - k; omega
            · exact ⟨by show k + 1 ≤ _; omega, (st_yes hok (hcv.trans (by omega)) (by rw [← hb]; omega)).symm⟩
      · have hok : ¬ OkP l k p := fun hh => ho2 (by rw [← hgo]; exact hh.2)
        repeat' (first
 | ((with_reducible apply aw_seq))
 | ((with_reducible apply aw_region))
 | ((with_reducible apply aw_block))
 | ((with_reducible apply thn_normal))
 | ((with_reducible apply thn_exit))
 | ((with_reducible apply inb_exit))
 | ((with_reducible apply aw_skip))
 | ((with_reducible apply aw_exit))
 | ((with_reducible apply ao_nil))
 | ((with_reducible apply r_move); exact rfl; exact rfl)
 | ((with_reducible apply r_assign); exact rfl; exact rfl)
 | ((with_reducible apply r_field_p); exact rfl; exact rfl)
 | ((with_reducible apply r_load_p); exact rfl; exact rfl; exact rfl; exact rfl)
 | ((with_reducible apply r_lss); exact rfl; exact rfl; exact rfl)
 | ((with_reducible apply r_gtr); exact rfl; exact rfl; exact rfl)
 | ((with_reducible apply r_add); exact rfl; exact rfl; exact (by first | assumption | (unfold fits; omega)); exact rfl)
 | ((with_reducible apply r_pick_f); exact rfl; exact rfl; exact rfl)
 | ((with_reducible apply r_index_f); exact rfl; exact inferInstance; exact rfl; exact rfl; (first | assumption | omega); exact rfl)
 | ((with_reducible apply r_index_f); exact rfl; exact inferInstance; exact rfl; exact (Int.toNat_of_nonneg (by omega)).symm; (first | assumption | omega); exact rfl)
 | ((with_reducible apply r_load_f0); exact rfl; exact inferInstance; exact List.getElem?_eq_getElem (by first | assumption | omega); exact rfl; exact rfl)
 | (((with_reducible apply r_guard); exact rfl; exact rfl; exact rfl; exact rfl) <;> intro hg <;> (first | (exact absurd hg (by decide)) | ((try simp only [decide_eq_true_eq, decide_eq_false_iff_not, Bool.not_eq_true', Bool.not_eq_false', Bool.not_true, Bool.not_false, Bool.not_not, Int.not_lt, Int.not_le, Nat.not_lt, Nat.not_le, gt_iff_lt, ge_iff_le, List.cons.injEq, and_true] at hg); first | (exact absurd trivial hg) | (exfalso; omega) | (have hT : True := hg; clear hT hg) | skip)))
 | (((with_reducible apply aw_cond); exact rfl) <;> intro hg <;> (first | (exact absurd hg (by decide)) | ((try simp only [decide_eq_true_eq, decide_eq_false_iff_not, Bool.not_eq_true', Bool.not_eq_false', Bool.not_true, Bool.not_false, Bool.not_not, Int.not_lt, Int.not_le, Nat.not_lt, Nat.not_le, gt_iff_lt, ge_iff_le, List.cons.injEq, and_true] at hg); first | (exact absurd trivial hg) | (exfalso; omega) | (have hT : True := hg; clear hT hg) | skip)))
          )
        refine ⟨(k + 1, b), ?_, ?_, by refine weak_mk rfl ?_ ?_ <;> repeat (first | exact envW_nil | exact heapW_nil | refine envW_cons rfl rfl ?_ | refine heapW_cons rfl rfl rfl ?_)⟩
        · show _ - (k + 1) < _ - k; omega
        · exact ⟨by show k + 1 ≤ _; omega, by show b = _; rw [hb, st_no hok]⟩
    · have hok : ¬ OkP l k p := fun hh => ho1 (by rw [← hsz]; exact hh.1)
      repeat' (first
 | ((with_reducible apply aw_seq))
 | ((with_reducible apply aw_region))
 | ((with_reducible apply aw_block))
 | ((with_reducible apply thn_normal))
 | ((with_reducible apply thn_exit))
 | ((with_reducible apply inb_exit))
 | ((with_reducible apply aw_skip))
 | ((with_reducible apply aw_exit))
 | ((with_reducible apply ao_nil))
 | ((with_reducible apply r_move); exact rfl; exact rfl)
 | ((with_reducible apply r_assign); exact rfl; exact rfl)
 | ((with_reducible apply r_field_p); exact rfl; exact rfl)
 | ((with_reducible apply r_load_p); exact rfl; exact rfl; exact rfl; exact rfl)
 | ((with_reducible apply r_lss); exact rfl; exact rfl; exact rfl)
 | ((with_reducible apply r_gtr); exact rfl; exact rfl; exact rfl)
 | ((with_reducible apply r_add); exact rfl; exact rfl; exact (by first | assumption | (unfold fits; omega)); exact rfl)
 | ((with_reducible apply r_pick_t); exact rfl; exact rfl; exact rfl)
 | ((with_reducible apply r_index_f); exact rfl; exact inferInstance; exact rfl; exact rfl; (first | assumption | omega); exact rfl)
 | ((with_reducible apply r_load_f0); exact rfl; exact inferInstance; exact List.getElem?_eq_getElem (by first | assumption | omega); exact rfl; exact rfl)
 | (((with_reducible apply r_guard); exact rfl; exact rfl; exact rfl; exact rfl) <;> intro hg <;> (first | (exact absurd hg (by decide)) | ((try simp only [decide_eq_true_eq, decide_eq_false_iff_not, Bool.not_eq_true', Bool.not_eq_false', Bool.not_true, Bool.not_false, Bool.not_not, Int.not_lt, Int.not_le, Nat.not_lt, Nat.not_le, gt_iff_lt, ge_iff_le, List.cons.injEq, and_true] at hg); first | (exact absurd trivial hg) | (exfalso; omega) | (have hT : True := hg; clear hT hg) | skip)))
 | (((with_reducible apply aw_cond); exact rfl) <;> intro hg <;> (first | (exact absurd hg (by decide)) | ((try simp only [decide_eq_true_eq, decide_eq_false_iff_not, Bool.not_eq_true', Bool.not_eq_false', Bool.not_true, Bool.not_false, Bool.not_not, Int.not_lt, Int.not_le, Nat.not_lt, Nat.not_le, gt_iff_lt, ge_iff_le, List.cons.injEq, and_true] at hg); first | (exact absurd trivial hg) | (exfalso; omega) | (have hT : True := hg; clear hT hg) | skip)))
        )
      refine ⟨(k + 1, b), ?_, ?_, by refine weak_mk rfl ?_ ?_ <;> repeat (first | exact envW_nil | exact heapW_nil | refine envW_cons rfl rfl ?_ | refine heapW_cons rfl rfl rfl ?_)⟩
      · show _ - (k + 1) < _ - k; omega
      · exact ⟨by show k + 1 ≤ _; omega, by show b = _; rw [hb, st_no hok]⟩
  · skip
    repeat' (first
 | ((with_reducible apply aw_seq))
 | ((with_reducible apply aw_region))
 | ((with_reducible apply thn_normal))
 | ((with_reducible apply thn_exit))
 | ((with_reducible apply inb_exit))
 | ((with_reducible apply aw_exit))
 | ((with_reducible apply aw_ret))
 | ((with_reducible apply ao_nil))
 | ((with_reducible apply r_load_pa); exact rfl; exact rfl; exact rfl; exact rfl; exact rfl)
 | ((with_reducible apply r_lss); exact rfl; exact rfl; exact rfl)
 | ((with_reducible apply r_store_pa); exact rfl; exact rfl; exact rfl; exact rfl; exact rfl; exact rfl)
 | (((with_reducible apply aw_cond); exact rfl) <;> intro hg <;> (first | (exact absurd hg (by decide)) | ((try simp only [decide_eq_true_eq, decide_eq_false_iff_not, Bool.not_eq_true', Bool.not_eq_false', Bool.not_true, Bool.not_false, Bool.not_not, Int.not_lt, Int.not_le, Nat.not_lt, Nat.not_le, gt_iff_lt, ge_iff_le, List.cons.injEq, and_true] at hg); first | (exact absurd trivial hg) | (exfalso; omega) | (have hT : True := hg; clear hT hg) | skip)))
      )
    obtain rfl : k = l.sizes.length := by omega
    rw [← hb]
    exact ret1 (.cell_a inferInstance rfl rfl rfl rfl (cl_cons cl_c (cl_cons cl_c (cl_cons cl_c cl_nil))))
end Go.Proofs.YtkhljpbkebnnmaaDoor.Cu
